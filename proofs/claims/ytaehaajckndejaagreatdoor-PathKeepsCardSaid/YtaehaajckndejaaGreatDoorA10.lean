/- a certificate's names keep to limits as the document says: the law by that interpreter (part 10): what the program's functions answer, or plain laws of it; no conditions. -/
import Derived.Test.YtaehaajckndejaaGreatDoorA09
set_option linter.all false
namespace Go.Mini.Nm
open Go Go.Mini Go.Proofs.YtaehaajckndejaaGreatDoor
set_option maxRecDepth 100000
set_option maxHeartbeats 4000000
def big : Nat := 281474976710656
def bigN (t : List UInt8) (d : Dn) : Prop := t.length < big ∧ d.length < big ∧ ∀ a ∈ d,a.1.length < big ∧ a.2.length < big
def R21 : List (Nat × Option (Bool × Nat) × PK) := [(2,none,.el 2)]
def V21 (d : Dn) (a i : Nat) : List (Nat × MV) := [(3,.own a i),(6,.sl 2 (attrs d)),(7,.int .i64 (d.length : Int)),(8,.int .i64 (i : Int))]
def O21 (l : List MV) (a : Nat) : List (Nat × Obj) := [(a,.el 2 l false)]
def K21 : List Item := [.blk 0,.code (.seq (.rg [⟨some (.t 21),.mv (.v 3),none⟩,⟨some (.v 2),.mv (.t 21),none⟩]) .ret)]
noncomputable def S21 (d : Dn) (l : List MV) (i : Nat) : Option MV := fin R21 (RunL Q m22k0 m22b0 K21 ⟨V21 d (if i = 0 then 1 else 0) i,[],O21 l (if i = 0 then 1 else 0),2⟩)
theorem S21_step (d : Dn) (hb : d.length < 1000000) (l : List MV) (i : Nat) (x : List UInt8 × List UInt8) (hl : l.length = i) (hg : d[i]? = some x) : S21 d l i = S21 d (l ++ [.agg [.str x.1,.str x.2]]) (i + 1) := by
 have hi := (List.getElem?_eq_some_iff.1 hg).1
 have hg' := attrs_get hg
 have hal := attrs_length d
 subst hl
 unfold S21
 rw [if_neg (show ¬ l.length + 1 = 0 by omega)]
 split
 ·rename_i h0
  rw [h0] at hi hg' ⊢
  have : l = [] := List.length_eq_zero_iff.1 h0
  subst this
  obtain ⟨b',hb'⟩ : ∃ b',b' = m22b0 := ⟨_,rfl⟩
  rw [RunL_eq,show Item.lp m22k0 m22b0 = Item.lp m22k0 b' by rw [hb']]
  apply hide; intro rhs hrhs
  simp (maxSteps := 4000000) (disch := first | omega | exact ok_of (by kernel_rfl) | decide) only [bA.u,seval,cut,if_pos,if_neg,m22b0,V21,K21,R21,O21,hg',hal]
  repeat' ((with_reducible first | refine sp ?_ ?_ | fail) <;> intro hx <;> (try simp only [bI.u] at hx) <;> (try simp (maxSteps := 4000000) (disch := first | omega | exact ok_of (by kernel_rfl) | decide) only [bA.u,seval,cut,if_pos,if_neg,hx,m22b0,V21,K21,R21,O21,hg',hal]))
  all_goals first | (exfalso; omega) | (subst hrhs; (subst hb'; refine (congrArg (fin _) (Run_lp Q _ _ _ _)).trans ?_; exact congrArg (fin R21) (RunL_canon (canon_cong (by kernel_rfl) (by kernel_rfl) (by kernel_rfl)))))
 ·rename_i h0
  obtain ⟨b',hb'⟩ : ∃ b',b' = m22b0 := ⟨_,rfl⟩
  rw [RunL_eq,show Item.lp m22k0 m22b0 = Item.lp m22k0 b' by rw [hb']]
  apply hide; intro rhs hrhs
  simp (maxSteps := 4000000) (disch := first | omega | exact ok_of (by kernel_rfl) | decide) only [bA.u,seval,cut,if_pos,if_neg,m22b0,V21,K21,R21,O21,hg',hal]
  repeat' ((with_reducible first | refine sp ?_ ?_ | fail) <;> intro hx <;> (try simp only [bI.u] at hx) <;> (try simp (maxSteps := 4000000) (disch := first | omega | exact ok_of (by kernel_rfl) | decide) only [bA.u,seval,cut,if_pos,if_neg,hx,m22b0,V21,K21,R21,O21,hg',hal]))
  all_goals first | (exfalso; omega) | (subst hrhs; (subst hb'; refine (congrArg (fin _) (Run_lp Q _ _ _ _)).trans ?_; exact congrArg (fin R21) (RunL_canon (canon_cong (by kernel_rfl) (by kernel_rfl) (by kernel_rfl)))))
theorem S21_end (d : Dn) (l : List MV) (hl : l.length = d.length) : S21 d l d.length = some (.sl 2 l) := by
 have hlt : decide ((d.length : Int) < (d.length : Int)) = false := by simp
 unfold S21
 split
 ·rename_i h0
  rw [h0] at hl ⊢
  obtain ⟨b',hb'⟩ : ∃ b',b' = m22b0 := ⟨_,rfl⟩
  rw [RunL_eq,show Item.lp m22k0 m22b0 = Item.lp m22k0 b' by rw [hb']]
  apply hide; intro rhs hrhs
  simp (maxSteps := 4000000) (disch := first | omega | exact ok_of (by kernel_rfl) | decide) only [bA.u,seval,cut,if_pos,if_neg,m22b0,V21,K21,R21,O21,hl]
  repeat' ((with_reducible first | refine sp ?_ ?_ | fail) <;> intro hx <;> (try simp only [bI.u] at hx) <;> (try simp (maxSteps := 4000000) (disch := first | omega | exact ok_of (by kernel_rfl) | decide) only [bA.u,seval,cut,if_pos,if_neg,hx,m22b0,V21,K21,R21,O21,hl]))
  all_goals first | (exfalso; omega) | (subst hrhs; rfl)
 ·rename_i h0
  obtain ⟨b',hb'⟩ : ∃ b',b' = m22b0 := ⟨_,rfl⟩
  rw [RunL_eq,show Item.lp m22k0 m22b0 = Item.lp m22k0 b' by rw [hb']]
  apply hide; intro rhs hrhs
  simp (maxSteps := 4000000) (disch := first | omega | exact ok_of (by kernel_rfl) | decide) only [bA.u,seval,cut,if_pos,if_neg,m22b0,V21,K21,R21,O21,hlt,hl]
  repeat' ((with_reducible first | refine sp ?_ ?_ | fail) <;> intro hx <;> (try simp only [bI.u] at hx) <;> (try simp (maxSteps := 4000000) (disch := first | omega | exact ok_of (by kernel_rfl) | decide) only [bA.u,seval,cut,if_pos,if_neg,hx,m22b0,V21,K21,R21,O21,hlt,hl]))
  all_goals first | (exfalso; omega) | (subst hrhs; rfl)
theorem S21_all (d : Dn) (hb : d.length < 1000000) : S21 d [] 0 = some (.sl 2 (attrs d)) :=
 (loopM d attr (S21 d) (fun l i x hl hg=>S21_step d hb l i x hl hg)).trans (S21_end d _ (by simp))
theorem c21 (dv : MV) (d : Dn) (hdv : isDir dv d) (hb : d.length < 1000000) : Call Q 22 [dv] = some (.sl 2 (attrs d)) := by
 have hal := attrs_length d
 have key := S21_all d hb
 unfold S21 at key
 rw [if_pos rfl] at key
 have main : Call Q 22 [.sl 2 (attrs d)] = some (.sl 2 (attrs d)) := by
  rw [Call_fn Q (m := m22) rfl rfl]
  refine Eq.trans ?_ key
  apply hide; intro rhs hrhs
  simp (maxSteps := 4000000) (disch := first | omega | exact ok_of (by kernel_rfl) | decide) only [bA.u,seval,cut,if_pos,if_neg,m22,Run_loop,hal]
  repeat' ((with_reducible first | refine sp ?_ ?_ | fail) <;> intro hx <;> (try simp only [bI.u] at hx) <;> (try simp (maxSteps := 4000000) (disch := first | omega | exact ok_of (by kernel_rfl) | decide) only [bA.u,seval,cut,if_pos,if_neg,hx,m22,Run_loop,hal]))
  all_goals first | (exfalso; omega) | (subst hrhs; exact congrArg (fin R21) (RunL_canon (canon_cong (by kernel_rfl) (by kernel_rfl) (by kernel_rfl))))
 rcases hdv with rfl | ⟨rfl,rfl⟩
 ·exact main
 ·rw [call_nil 22 m22 rfl rfl rfl]; exact main
end Go.Mini.Nm
namespace Go.Mini.Nm
open Go Go.Mini Go.Proofs.YtaehaajckndejaaGreatDoor
set_option maxRecDepth 100000
set_option maxHeartbeats 4000000
def uriB (s l : List UInt8) : Bool := if Lib.index s [58,47,47] = -1 then false else underB ((s.drop ((Lib.index s [58,47,47]).toNat + 3)).take (till (s.drop ((Lib.index s [58,47,47]).toNat + 3)))) l
def netI (s l : List UInt8) (i : Nat) : Bool := ((s.getD i 0 ^^^ l.getD i 0) &&& l.getD (s.length + i) 0) == 0
def netB (s l : List UInt8) : Bool := decide (2 * s.length = l.length) && (List.range s.length).all (netI s l)
def withK (k : Int) (t : List UInt8) (d : Dn) (t2 : List UInt8) (d2 : Dn) : Bool :=
 if k = 1 then mailB t t2 else if k = 2 then machB t && (t2 == [] || alikeB t t2 || endsB t (46 :: t2)) else if k = 6 then uriB t t2 else if k = 7 then netB t t2
 else decide (d2.length ≤ d.length) && decide (d.take d2.length = d2)
def withB (k : Int) (t : List UInt8) (d : Dn) (k2 : Int) (t2 : List UInt8) (d2 : Dn) : Bool :=
 decide (valE k t d false = 0) && decide (valE k2 t2 d2 true = 0) && decide (k = k2) && withK k t d t2 d2
theorem valR_shape (k : Int) (t : List UInt8) (d : Dn) (lim : Bool) : ∃ a b c e f,valR k t d lim = .tup [.agg [a,b,c,e,f],.int .i64 (valE k t d lim)] := by
 unfold valR valV zero5
 split
 ·split
  ·exact ⟨_,_,_,_,_,rfl⟩
  ·exact ⟨_,_,_,_,_,rfl⟩
 ·exact ⟨_,_,_,_,_,rfl⟩
def R11 : List (Nat × Option (Bool × Nat) × PK) := [(4,none,.other)]
def V11 (n i : Int) : List (Nat × MV) := [(2,.ptr 0 0),(3,.ptr 1 0),(11,.int .i64 n),(12,.int .i64 i)]
def O11 (k : Int) (t : List UInt8) (dl : List MV) (t2 : List UInt8) (dl2 : List MV) : List (Nat × Obj) := [(0,.cells [.int .i64 k,.str t,.sl 2 dl]),(1,.cells [.int .i64 k,.str t2,.sl 2 dl2])]
def K11 (K : List Item) : List Item := .blk 1 :: .code (.seq (.rg [⟨some (.v 4),.mv (.c (.bool true)),none⟩]) .ret) :: K
def g11 (s l : List UInt8) (_ : Unit) (i : Nat) : Unit ⊕ Unit := if netI s l i = true then .inl () else .inr ()
theorem fold11 (s l : List UInt8) : ∀ r : List Nat,(match foldE (g11 s l) () r with | .inl _=>true | .inr _=>false) = r.all (netI s l)
 | []=>rfl
 | i :: r=>by
  have ih := fold11 s l r
  rw [List.all_cons,← ih]
  rw [foldE_cons]
  cases h : netI s l i
  ·rw [show g11 s l () i = .inr () by unfold g11; rw [h]; rfl]; rfl
  ·rw [show g11 s l () i = .inl () by unfold g11; rw [h]; rfl]; rw [Bool.true_and]
noncomputable def S11 (K : List Item) (k : Int) (t : List UInt8) (dl : List MV) (t2 : List UInt8) (dl2 : List MV) (_ : Unit) (i : Nat) : Option MV := fin R11 (RunL Q m27k0 m27b0 (K11 K) ⟨V11 t.length i,[],O11 k t dl t2 dl2,3⟩)
theorem c11_step (K : List Item) (k : Int) (t : List UInt8) (dl : List MV) (t2 : List UInt8) (dl2 : List MV) (h2 : t2.length = 2 * t.length) (hs : t.length < 1000000) (u : Unit) (i j : Nat) (hg : (List.range t.length)[i]? = some j) :
  After (fun _ _=>True) (S11 K k t dl t2 dl2) (fun _=>some (.bool false)) (S11 K k t dl t2 dl2 u i) (i + 1) (g11 t t2 u j) := by
 obtain ⟨hi,hij⟩ := List.getElem?_eq_some_iff.1 hg
 simp only [List.length_range] at hi
 simp only [List.getElem_range] at hij
 subst hij
 have hn : netI t t2 i = (((t.getD i 0 ^^^ t2.getD i 0) &&& t2.getD (t.length + i) 0) == 0) := rfl
 have e1 : ((t.length : Int) + (i : Int)).toNat = t.length + i := by omega
 unfold g11
 rw [hn]
 split
 ·rename_i hx1
  refine ⟨trivial,?_⟩
  unfold S11
  obtain ⟨b',hb'⟩ : ∃ b',b' = m27b0 := ⟨_,rfl⟩
  rw [RunL_eq,show Item.lp m27k0 m27b0 = Item.lp m27k0 b' by rw [hb']]
  apply hide; intro rhs hrhs
  simp (maxSteps := 4000000) (disch := first | omega | exact ok_of (by kernel_rfl) | decide) only [bA.u,seval,cut,if_pos,if_neg,m27b0,V11,K11,R11,O11,e1,hx1]
  repeat' ((with_reducible first | refine sp ?_ ?_ | fail) <;> intro hx <;> (try simp only [bI.u] at hx) <;> (try simp (maxSteps := 4000000) (disch := first | omega | exact ok_of (by kernel_rfl) | decide) only [bA.u,seval,cut,if_pos,if_neg,hx,m27b0,V11,K11,R11,O11,e1,hx1]))
  all_goals first | (exfalso; omega) | (subst hrhs; (subst hb'; refine (congrArg (fin _) (Run_lp Q _ _ _ _)).trans ?_; exact congrArg (fin R11) (RunL_canon (canon_cong (by kernel_rfl) (by kernel_rfl) (by kernel_rfl)))))
 ·rename_i hx1
  rw [Bool.not_eq_true] at hx1
  simp only [After]
  unfold S11
  obtain ⟨b',hb'⟩ : ∃ b',b' = m27b0 := ⟨_,rfl⟩
  rw [RunL_eq,show Item.lp m27k0 m27b0 = Item.lp m27k0 b' by rw [hb']]
  apply hide; intro rhs hrhs
  simp (maxSteps := 4000000) (disch := first | omega | exact ok_of (by kernel_rfl) | decide) only [bA.u,seval,cut,if_pos,if_neg,m27b0,V11,K11,R11,O11,e1,hx1]
  repeat' ((with_reducible first | refine sp ?_ ?_ | fail) <;> intro hx <;> (try simp only [bI.u] at hx) <;> (try simp (maxSteps := 4000000) (disch := first | omega | exact ok_of (by kernel_rfl) | decide) only [bA.u,seval,cut,if_pos,if_neg,hx,m27b0,V11,K11,R11,O11,e1,hx1]))
  all_goals first | (exfalso; omega) | (subst hrhs; rfl)
theorem c11_end (K : List Item) (k : Int) (t : List UInt8) (dl : List MV) (t2 : List UInt8) (dl2 : List MV) (n : Int) : fin R11 (RunL Q m27k0 m27b0 (K11 K) ⟨V11 n n,[],O11 k t dl t2 dl2,3⟩) = some (.bool true) := by
 have hlt : decide (n < n) = false := by simp
 obtain ⟨b',hb'⟩ : ∃ b',b' = m27b0 := ⟨_,rfl⟩
 rw [RunL_eq,show Item.lp m27k0 m27b0 = Item.lp m27k0 b' by rw [hb']]
 apply hide; intro rhs hrhs
 simp (maxSteps := 4000000) (disch := first | omega | exact ok_of (by kernel_rfl) | decide) only [bA.u,seval,cut,if_pos,if_neg,m27b0,V11,K11,R11,O11,hlt]
 repeat' ((with_reducible first | refine sp ?_ ?_ | fail) <;> intro hx <;> (try simp only [bI.u] at hx) <;> (try simp (maxSteps := 4000000) (disch := first | omega | exact ok_of (by kernel_rfl) | decide) only [bA.u,seval,cut,if_pos,if_neg,hx,m27b0,V11,K11,R11,O11,hlt]))
 all_goals first | (exfalso; omega) | (subst hrhs; rfl)
theorem c11_net (K : List Item) (k : Int) (t : List UInt8) (dl : List MV) (t2 : List UInt8) (dl2 : List MV) (h2 : t2.length = 2 * t.length) (hs : t.length < 1000000) :
  fin R11 (RunL Q m27k0 m27b0 (K11 K) ⟨V11 t.length (0 : Nat),[],O11 k t dl t2 dl2,3⟩) = some (.bool (netB t t2)) := by
 have key := loopI (List.range t.length) (g11 t t2) (S11 K k t dl t2 dl2) (fun _=>some (.bool false)) (fun _ _=>True) (fun u i j _ hg=>c11_step K k t dl t2 dl2 h2 hs u i j hg) () trivial
 have hf := fold11 t t2 (List.range t.length)
 unfold netB
 rw [decide_eq_true (by omega),Bool.true_and,← hf]
 cases hn : foldE (g11 t t2) () (List.range t.length) with
 | inl n=>rw [hn,List.length_range] at key; exact key.2.trans (c11_end ..)
 | inr c=>rw [hn] at key; exact key
end Go.Mini.Nm
namespace Go.Mini.Nm
open Go Go.Mini Go.Proofs.YtaehaajckndejaaGreatDoor
set_option maxRecDepth 100000
set_option maxHeartbeats 4000000
theorem c11_1 (k : Int) (hk : k = 1) (t : List UInt8) (d : Dn) (k2 : Int) (t2 : List UInt8) (d2 : Dn) (ht : t.length < 1000000 ∧ okLens d) (ht2 : t2.length < 1000000 ∧ okLens d2) : Call Q 27 [gM k t (.sl 2 (attrs d)),gM k2 t2 (.sl 2 (attrs d2))] = some (.bool (withB k t d k2 t2 d2)) := by
 obtain ⟨x1,x2,x3,x4,x5,q1⟩ := valR_shape k t d false
 obtain ⟨y1,y2,y3,y4,y5,q2⟩ := valR_shape k2 t2 d2 true
 have h1 := c35 k t (.sl 2 (attrs d)) d (.inl rfl) ht.1 ht.2 false
 have h2 := c35 k2 t2 (.sl 2 (attrs d2)) d2 (.inl rfl) ht2.1 ht2.2 true
 rw [q1] at h1
 rw [q2] at h2
 unfold gM at h1 h2 ⊢
 unfold withB
 generalize valE k t d false = e1 at h1 ⊢
 generalize valE k2 t2 d2 true = e2 at h2 ⊢
 rw [Call_fn Q (m := m27) rfl rfl]
 by_cases hkk : k = k2
 rotate_left
 ·rw [decide_eq_false hkk,Bool.and_false,Bool.false_and]
  apply hide; intro rhs hrhs
  simp (maxSteps := 4000000) (disch := first | omega | exact ok_of (by kernel_rfl) | decide) only [bA.u,seval,cut,if_pos,if_neg,m27,h1,h2,hkk]
  repeat' ((with_reducible first | refine sp ?_ ?_ | fail) <;> intro hx <;> (try simp only [bI.u] at hx) <;> (try simp (maxSteps := 4000000) (disch := first | omega | exact ok_of (by kernel_rfl) | decide) only [bA.u,seval,cut,if_pos,if_neg,hx,m27,h1,h2,hkk]))
  all_goals first | (exfalso; omega) | (subst hrhs; rfl)
 subst hkk
 subst hk
 have h36 := c36 t t2 ht.1 ht2.1
 apply hide; intro rhs hrhs
 simp (maxSteps := 4000000) (disch := first | omega | exact ok_of (by kernel_rfl) | decide) only [bA.u,seval,cut,if_pos,if_neg,m27,h1,h2,h36]
 repeat' ((with_reducible first | refine sp ?_ ?_ | fail) <;> intro hx <;> (try simp only [bI.u] at hx) <;> (try simp (maxSteps := 4000000) (disch := first | omega | exact ok_of (by kernel_rfl) | decide) only [bA.u,seval,cut,if_pos,if_neg,hx,m27,h1,h2,h36]))
 all_goals first | (exfalso; omega) | (subst hrhs; simp_all [withK])
theorem c11_2 (k : Int) (hk : k = 2) (t : List UInt8) (d : Dn) (k2 : Int) (t2 : List UInt8) (d2 : Dn) (ht : t.length < 1000000 ∧ okLens d) (ht2 : t2.length < 1000000 ∧ okLens d2) : Call Q 27 [gM k t (.sl 2 (attrs d)),gM k2 t2 (.sl 2 (attrs d2))] = some (.bool (withB k t d k2 t2 d2)) := by
 obtain ⟨x1,x2,x3,x4,x5,q1⟩ := valR_shape k t d false
 obtain ⟨y1,y2,y3,y4,y5,q2⟩ := valR_shape k2 t2 d2 true
 have h1 := c35 k t (.sl 2 (attrs d)) d (.inl rfl) ht.1 ht.2 false
 have h2 := c35 k2 t2 (.sl 2 (attrs d2)) d2 (.inl rfl) ht2.1 ht2.2 true
 rw [q1] at h1
 rw [q2] at h2
 unfold gM at h1 h2 ⊢
 unfold withB
 generalize valE k t d false = e1 at h1 ⊢
 generalize valE k2 t2 d2 true = e2 at h2 ⊢
 rw [Call_fn Q (m := m27) rfl rfl]
 by_cases hkk : k = k2
 rotate_left
 ·rw [decide_eq_false hkk,Bool.and_false,Bool.false_and]
  apply hide; intro rhs hrhs
  simp (maxSteps := 4000000) (disch := first | omega | exact ok_of (by kernel_rfl) | decide) only [bA.u,seval,cut,if_pos,if_neg,m27,h1,h2,hkk]
  repeat' ((with_reducible first | refine sp ?_ ?_ | fail) <;> intro hx <;> (try simp only [bI.u] at hx) <;> (try simp (maxSteps := 4000000) (disch := first | omega | exact ok_of (by kernel_rfl) | decide) only [bA.u,seval,cut,if_pos,if_neg,hx,m27,h1,h2,hkk]))
  all_goals first | (exfalso; omega) | (subst hrhs; rfl)
 subst hkk
 subst hk
 have h37 := c37 t ht.1
 have h38 := c38 t t2 ht.1
 have h39 := c39 t (46 :: t2) ht.1
 apply hide; intro rhs hrhs
 simp (maxSteps := 4000000) (disch := first | omega | exact ok_of (by kernel_rfl) | decide) only [bA.u,seval,cut,if_pos,if_neg,m27,h1,h2,h37,h38,h39]
 repeat' ((with_reducible first | refine sp ?_ ?_ | fail) <;> intro hx <;> (try simp only [bI.u] at hx) <;> (try simp (maxSteps := 4000000) (disch := first | omega | exact ok_of (by kernel_rfl) | decide) only [bA.u,seval,cut,if_pos,if_neg,hx,m27,h1,h2,h37,h38,h39]))
 all_goals first | (exfalso; omega) | (subst hrhs; simp_all [withK])
theorem c11_6 (k : Int) (hk : k = 6) (t : List UInt8) (d : Dn) (k2 : Int) (t2 : List UInt8) (d2 : Dn) (ht : t.length < 1000000 ∧ okLens d) (ht2 : t2.length < 1000000 ∧ okLens d2) : Call Q 27 [gM k t (.sl 2 (attrs d)),gM k2 t2 (.sl 2 (attrs d2))] = some (.bool (withB k t d k2 t2 d2)) := by
 obtain ⟨x1,x2,x3,x4,x5,q1⟩ := valR_shape k t d false
 obtain ⟨y1,y2,y3,y4,y5,q2⟩ := valR_shape k2 t2 d2 true
 have h1 := c35 k t (.sl 2 (attrs d)) d (.inl rfl) ht.1 ht.2 false
 have h2 := c35 k2 t2 (.sl 2 (attrs d2)) d2 (.inl rfl) ht2.1 ht2.2 true
 rw [q1] at h1
 rw [q2] at h2
 unfold gM at h1 h2 ⊢
 unfold withB
 generalize valE k t d false = e1 at h1 ⊢
 generalize valE k2 t2 d2 true = e2 at h2 ⊢
 rw [Call_fn Q (m := m27) rfl rfl]
 by_cases hkk : k = k2
 rotate_left
 ·rw [decide_eq_false hkk,Bool.and_false,Bool.false_and]
  apply hide; intro rhs hrhs
  simp (maxSteps := 4000000) (disch := first | omega | exact ok_of (by kernel_rfl) | decide) only [bA.u,seval,cut,if_pos,if_neg,m27,h1,h2,hkk]
  repeat' ((with_reducible first | refine sp ?_ ?_ | fail) <;> intro hx <;> (try simp only [bI.u] at hx) <;> (try simp (maxSteps := 4000000) (disch := first | omega | exact ok_of (by kernel_rfl) | decide) only [bA.u,seval,cut,if_pos,if_neg,hx,m27,h1,h2,hkk]))
  all_goals first | (exfalso; omega) | (subst hrhs; rfl)
 subst hkk
 subst hk
 have h40 := c40 t ht.1
 unfold hostA at h40
 unfold withK uriB
 rw [if_neg (by decide),if_neg (by decide),if_pos rfl]
 split at h40
 ·rename_i hu
  rw [if_pos hu]
  apply hide; intro rhs hrhs
  simp (maxSteps := 4000000) (disch := first | omega | exact ok_of (by kernel_rfl) | decide) only [bA.u,seval,cut,if_pos,if_neg,m27,h1,h2,h40]
  repeat' ((with_reducible first | refine sp ?_ ?_ | fail) <;> intro hx <;> (try simp only [bI.u] at hx) <;> (try simp (maxSteps := 4000000) (disch := first | omega | exact ok_of (by kernel_rfl) | decide) only [bA.u,seval,cut,if_pos,if_neg,hx,m27,h1,h2,h40]))
  all_goals first | (exfalso; omega) | (subst hrhs; simp_all)
 ·rename_i hu
  rw [if_neg hu]
  have hr : ((t.drop ((Lib.index t [58,47,47]).toNat + 3)).take (till (t.drop ((Lib.index t [58,47,47]).toNat + 3)))).length < 1000000 := by rw [List.length_take,List.length_drop]; omega
  generalize (t.drop ((Lib.index t [58,47,47]).toNat + 3)).take (till (t.drop ((Lib.index t [58,47,47]).toNat + 3))) = r at *
  have h41 := c41 r t2 hr
  apply hide; intro rhs hrhs
  simp (maxSteps := 4000000) (disch := first | omega | exact ok_of (by kernel_rfl) | decide) only [bA.u,seval,cut,if_pos,if_neg,m27,h1,h2,h40,h41]
  repeat' ((with_reducible first | refine sp ?_ ?_ | fail) <;> intro hx <;> (try simp only [bI.u] at hx) <;> (try simp (maxSteps := 4000000) (disch := first | omega | exact ok_of (by kernel_rfl) | decide) only [bA.u,seval,cut,if_pos,if_neg,hx,m27,h1,h2,h40,h41]))
  all_goals first | (exfalso; omega) | (subst hrhs; simp_all)
theorem c11_7 (k : Int) (hk : k = 7) (t : List UInt8) (d : Dn) (k2 : Int) (t2 : List UInt8) (d2 : Dn) (ht : t.length < 1000000 ∧ okLens d) (ht2 : t2.length < 1000000 ∧ okLens d2) : Call Q 27 [gM k t (.sl 2 (attrs d)),gM k2 t2 (.sl 2 (attrs d2))] = some (.bool (withB k t d k2 t2 d2)) := by
 obtain ⟨x1,x2,x3,x4,x5,q1⟩ := valR_shape k t d false
 obtain ⟨y1,y2,y3,y4,y5,q2⟩ := valR_shape k2 t2 d2 true
 have h1 := c35 k t (.sl 2 (attrs d)) d (.inl rfl) ht.1 ht.2 false
 have h2 := c35 k2 t2 (.sl 2 (attrs d2)) d2 (.inl rfl) ht2.1 ht2.2 true
 rw [q1] at h1
 rw [q2] at h2
 unfold gM at h1 h2 ⊢
 unfold withB
 generalize valE k t d false = e1 at h1 ⊢
 generalize valE k2 t2 d2 true = e2 at h2 ⊢
 rw [Call_fn Q (m := m27) rfl rfl]
 by_cases hkk : k = k2
 rotate_left
 ·rw [decide_eq_false hkk,Bool.and_false,Bool.false_and]
  apply hide; intro rhs hrhs
  simp (maxSteps := 4000000) (disch := first | omega | exact ok_of (by kernel_rfl) | decide) only [bA.u,seval,cut,if_pos,if_neg,m27,h1,h2,hkk]
  repeat' ((with_reducible first | refine sp ?_ ?_ | fail) <;> intro hx <;> (try simp only [bI.u] at hx) <;> (try simp (maxSteps := 4000000) (disch := first | omega | exact ok_of (by kernel_rfl) | decide) only [bA.u,seval,cut,if_pos,if_neg,hx,m27,h1,h2,hkk]))
  all_goals first | (exfalso; omega) | (subst hrhs; rfl)
 subst hkk
 subst hk
 by_cases hl : t2.length = 2 * t.length
 ·have hn := fun K=>c11_net K 7 t (attrs d) t2 (attrs d2) hl ht.1
  have hw : withK 7 t d t2 d2 = netB t t2 := rfl
  rw [hw]
  apply hide; intro rhs hrhs
  simp (maxSteps := 4000000) (disch := first | omega | exact ok_of (by kernel_rfl) | decide) only [bA.u,seval,cut,if_pos,if_neg,m27,h1,h2,Run_loop]
  repeat' ((with_reducible first | refine sp ?_ ?_ | fail) <;> intro hx <;> (try simp only [bI.u] at hx) <;> (try simp (maxSteps := 4000000) (disch := first | omega | exact ok_of (by kernel_rfl) | decide) only [bA.u,seval,cut,if_pos,if_neg,hx,m27,h1,h2,Run_loop]))
  all_goals first | (exfalso; omega) | (subst hrhs; first | (simp_all; done) | (refine (congrArg (fin R11) (RunL_canon (st' := ⟨V11 t.length (0 : Nat),[],O11 7 t (attrs d) t2 (attrs d2),3⟩) (by kernel_rfl))).trans ((hn _).trans ?_); simp_all))
 ·have hw : withK 7 t d t2 d2 = false := by
   show netB t t2 = false
   unfold netB
   rw [decide_eq_false (by omega),Bool.false_and]
  rw [hw,Bool.and_false]
  apply hide; intro rhs hrhs
  simp (maxSteps := 4000000) (disch := first | omega | exact ok_of (by kernel_rfl) | decide) only [bA.u,seval,cut,if_pos,if_neg,m27,h1,h2]
  repeat' ((with_reducible first | refine sp ?_ ?_ | fail) <;> intro hx <;> (try simp only [bI.u] at hx) <;> (try simp (maxSteps := 4000000) (disch := first | omega | exact ok_of (by kernel_rfl) | decide) only [bA.u,seval,cut,if_pos,if_neg,hx,m27,h1,h2]))
  all_goals first | (exfalso; omega) | (subst hrhs; simp_all)
theorem c11_4 (k : Int) (hk : k ≠ 1 ∧ k ≠ 2 ∧ k ≠ 6 ∧ k ≠ 7) (t : List UInt8) (d : Dn) (k2 : Int) (t2 : List UInt8) (d2 : Dn) (ht : t.length < 1000000 ∧ okLens d) (ht2 : t2.length < 1000000 ∧ okLens d2) : Call Q 27 [gM k t (.sl 2 (attrs d)),gM k2 t2 (.sl 2 (attrs d2))] = some (.bool (withB k t d k2 t2 d2)) := by
 obtain ⟨x1,x2,x3,x4,x5,q1⟩ := valR_shape k t d false
 obtain ⟨y1,y2,y3,y4,y5,q2⟩ := valR_shape k2 t2 d2 true
 have h1 := c35 k t (.sl 2 (attrs d)) d (.inl rfl) ht.1 ht.2 false
 have h2 := c35 k2 t2 (.sl 2 (attrs d2)) d2 (.inl rfl) ht2.1 ht2.2 true
 rw [q1] at h1
 rw [q2] at h2
 unfold gM at h1 h2 ⊢
 unfold withB
 generalize valE k t d false = e1 at h1 ⊢
 generalize valE k2 t2 d2 true = e2 at h2 ⊢
 rw [Call_fn Q (m := m27) rfl rfl]
 by_cases hkk : k = k2
 rotate_left
 ·rw [decide_eq_false hkk,Bool.and_false,Bool.false_and]
  apply hide; intro rhs hrhs
  simp (maxSteps := 4000000) (disch := first | omega | exact ok_of (by kernel_rfl) | decide) only [bA.u,seval,cut,if_pos,if_neg,m27,h1,h2,hkk]
  repeat' ((with_reducible first | refine sp ?_ ?_ | fail) <;> intro hx <;> (try simp only [bI.u] at hx) <;> (try simp (maxSteps := 4000000) (disch := first | omega | exact ok_of (by kernel_rfl) | decide) only [bA.u,seval,cut,if_pos,if_neg,hx,m27,h1,h2,hkk]))
  all_goals first | (exfalso; omega) | (subst hrhs; rfl)
 subst hkk
 obtain ⟨k1,k3,k6,k7⟩ := hk
 have ha := attrs_length d
 have hb := attrs_length d2
 have hl := ht.2.1
 have hl2 := ht2.2.1
 have hw : withK k t d t2 d2 = (decide (d2.length ≤ d.length) && decide (d.take d2.length = d2)) := by unfold withK; rw [if_neg k1,if_neg k3,if_neg k6,if_neg k7]
 rw [hw]
 by_cases hd : d2.length ≤ d.length
 ·have hc := cut_attrs d d2.length hd
  have h22 := c22 (d.take d2.length) d2 (by rw [List.length_take]; omega)
  apply hide; intro rhs hrhs
  simp (maxSteps := 4000000) (disch := first | omega | exact ok_of (by kernel_rfl) | decide) only [bA.u,seval,if_pos,if_neg,m27,h1,h2,ha,hb,hc,h22,k1,k3,k6,k7]
  repeat' ((with_reducible first | refine sp ?_ ?_ | fail) <;> intro hx <;> (try simp only [bI.u] at hx) <;> (try simp (maxSteps := 4000000) (disch := first | omega | exact ok_of (by kernel_rfl) | decide) only [bA.u,seval,if_pos,if_neg,hx,m27,h1,h2,ha,hb,hc,h22,k1,k3,k6,k7]))
  all_goals first | (exfalso; omega) | (subst hrhs; simp_all)
 ·skip
  apply hide; intro rhs hrhs
  simp (maxSteps := 4000000) (disch := first | omega | exact ok_of (by kernel_rfl) | decide) only [bA.u,seval,cut,if_pos,if_neg,m27,h1,h2,ha,hb,k1,k3,k6,k7]
  repeat' ((with_reducible first | refine sp ?_ ?_ | fail) <;> intro hx <;> (try simp only [bI.u] at hx) <;> (try simp (maxSteps := 4000000) (disch := first | omega | exact ok_of (by kernel_rfl) | decide) only [bA.u,seval,cut,if_pos,if_neg,hx,m27,h1,h2,ha,hb,k1,k3,k6,k7]))
  all_goals first | (exfalso; omega) | (subst hrhs; simp_all; try (intros; omega))
theorem c11 (k : Int) (t : List UInt8) (d : Dn) (k2 : Int) (t2 : List UInt8) (d2 : Dn) (ht : t.length < 1000000 ∧ okLens d) (ht2 : t2.length < 1000000 ∧ okLens d2) : Call Q 27 [gM k t (.sl 2 (attrs d)),gM k2 t2 (.sl 2 (attrs d2))] = some (.bool (withB k t d k2 t2 d2)) := by
 by_cases k1 : k = 1
 ·exact c11_1 k k1 t d k2 t2 d2 ht ht2
 by_cases k3 : k = 2
 ·exact c11_2 k k3 t d k2 t2 d2 ht ht2
 by_cases k6 : k = 6
 ·exact c11_6 k k6 t d k2 t2 d2 ht ht2
 by_cases k7 : k = 7
 ·exact c11_7 k k7 t d k2 t2 d2 ht ht2
 exact c11_4 k ⟨k1,k3,k6,k7⟩ t d k2 t2 d2 ht ht2
end Go.Mini.Nm
