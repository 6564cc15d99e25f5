/- a certificate's names keep to limits as the document says: the law by that interpreter (part 17): what the program's functions answer, or plain laws of it; no conditions. -/
import Derived.Test.YtaehaajckndejaaGreatDoorA16
import Derived.Test.YtaehaajckndejaaGreatDoorA14
set_option linter.all false
namespace Go.Mini.Nm
open Go Go.Mini Go.Proofs.YtaehaajckndejaaGreatDoor
set_option maxRecDepth 100000
set_option maxHeartbeats 4000000
def kinB (n l : Gn) : Bool := l.1 == n.1
def keepsB (n : Gn) (P X : List Gn) : Bool := !(X.any (wiB n)) && (!(P.any (kinB n)) || P.any (wiB n))
theorem c_keeps (n : Gn) (P X : List Gn) (hn : okG n) (hP : ∀ l ∈ P,okG l) (hX : ∀ l ∈ X,okG l) (hp : P.length < 1000000) (hx : X.length < 1000000) : Call Q 13 [gV n,crL (P.map gV) (X.map gV)] = some (.bool (keepsB n P X)) := by
 obtain ⟨k,t,b,d⟩ := n
 have hdv := dvOf_dir b d
 have h1 := h_contains 23 (wiB (k,t,b,d)) k t (dvOf b d) d hdv X hx (fun l hl=>h_within k t (dvOf b d) d hdv hn l (hX l hl))
 have h2 := h_contains 25 (kinB (k,t,b,d)) k t (dvOf b d) d hdv P hp (fun l _=>h_kind k t (dvOf b d) d hdv l)
 have h3 := h_contains 23 (wiB (k,t,b,d)) k t (dvOf b d) d hdv P hp (fun l hl=>h_within k t (dvOf b d) d hdv hn l (hP l hl))
 have e1 : gV (k,t,b,d) = .agg [.int .i64 k,.str t,dvOf b d] := rfl
 rw [e1]
 unfold keepsB crL
 generalize dvOf b d = dv at hdv h1 h2 h3
 unfold boxN at h1 h2 h3
 generalize X.any (wiB (k,t,b,d)) = x1 at h1
 generalize P.any (kinB (k,t,b,d)) = x2 at h2
 generalize P.any (wiB (k,t,b,d)) = x3 at h3
 generalize X.map gV = XL at h1
 generalize P.map gV = PL at h2 h3
 rw [Call_fn Q (m := m13) rfl rfl]
 rcases hdv with rfl | ⟨rfl,rfl⟩ <;> cases x1 <;> cases x2 <;> cases x3
 all_goals (
  apply hide; intro rhs hrhs
  simp (maxSteps := 4000000) (disch := first | omega | exact ok_of (by kernel_rfl) | decide) only [bA.u,seval,cut,if_pos,if_neg,m13,h1,h2,h3,Run_nil,reach]
  repeat' ((with_reducible first | refine sp ?_ ?_ | fail) <;> intro hx <;> (try simp only [bI.u] at hx) <;> (first | (exfalso; first | omega | with_reducible contradiction) | (try simp (maxSteps := 4000000) (disch := first | omega | exact ok_of (by kernel_rfl) | decide) only [bA.u,seval,cut,if_pos,if_neg,hx,m13,h1,h2,h3,Run_nil,reach])))
  all_goals first | (exfalso; first | omega | with_reducible contradiction) | (subst hrhs; rfl))
end Go.Mini.Nm
namespace Go.Mini.Nm
open Go Go.Mini Go.Proofs.YtaehaajckndejaaGreatDoor
set_option maxRecDepth 100000
set_option maxHeartbeats 4000000
def R_k : List (Nat × Option (Bool × Nat) × PK) := [(6,none,.other)]
def gKeep (n : Gn) (s : Bool × Bool) (x : Gn) : Bool × Bool := (s.1 || kinB n x,s.2 || wiB n x)
theorem gKeep_fold (n : Gn) : ∀ (P : List Gn) (s : Bool × Bool),P.foldl (gKeep n) s = (s.1 || P.any (kinB n),s.2 || P.any (wiB n))
 | [],s=>by simp
 | x :: r,s=>by
  rw [List.foldl_cons,gKeep_fold n r,List.any_cons,List.any_cons]
  unfold gKeep
  simp only [Bool.or_assoc]
theorem all_not {α : Type} (p : α→Bool) : ∀ L : List α,L.all (fun x=>!p x) = !(L.any p)
 | []=>rfl
 | x :: r=>by rw [List.all_cons,List.any_cons,all_not p r,Bool.not_or]
theorem k_two (k : Int) (t : List UInt8) (b : Bool) (d : Dn) (hn : okG (k,t,b,d)) (P : List Gn) (hP : ∀ l ∈ P,okG l) (hp : P.length < 1000000) (K : List Item) (rhs : Option MV)
  (hk : ∀ nx,fin R_k (Run Q K ⟨[(26,.bool false),(3,.ptr 0 0),(9,.bool (P.any (kinB (k,t,b,d)))),(10,.bool (P.any (wiB (k,t,b,d)))),(23,.sl 3 (P.map gR)),(24,.int .i64 P.length),(25,.int .i64 (P.length : Nat))],[],[(0,.cells [.int .i64 k,.str t,.sl 2 (attrs d)])],nx⟩) = rhs) :
  fin R_k (RunL Q m14k1 m14b1 (.blk 2 :: K) ⟨[(3,.ptr 0 0),(9,.bool ((false,false)).1),(10,.bool ((false,false)).2),(23,.sl 3 (P.map gR)),(24,.int .i64 P.length),(25,.int .i64 (0 : Nat))],[],[(0,.cells [.int .i64 k,.str t,.sl 2 (attrs d)])],2⟩) = rhs := by
 have hml := mapR_length P
 refine loopR (γ := Empty) P (fun s x=>.inl (gKeep (k,t,b,d) s x)) (fun s i=>fin R_k (RunL Q m14k1 m14b1 (.blk 2 :: K) ⟨[(3,.ptr 0 0),(9,.bool (s).1),(10,.bool (s).2),(23,.sl 3 (P.map gR)),(24,.int .i64 P.length),(25,.int .i64 (i : Nat))],[],[(0,.cells [.int .i64 k,.str t,.sl 2 (attrs d)])],2⟩)) (fun c=>nomatch c) (fun _ _=>True) ?_ (false,false) trivial rfl ?_ (fun c=>nomatch c)
 ·rintro ⟨s1,s2⟩ i g _ hg
  have hi := (List.getElem?_eq_some_iff.1 hg).1
  have hg' := gR_get hg
  have hlt : decide ((i : Int) < (P.length : Int)) = true := by simp; omega
  have e9 : ((i + 1 : Nat) : Int) = (i : Int) + 1 := rfl
  have h27 := c11 k t d g.1 g.2.1 g.2.2.2 hn (hP g (List.mem_of_getElem? hg))
  obtain ⟨k2,t2,b2,d2⟩ := g
  have e1 : gR (k2,t2,b2,d2) = .agg [.int .i64 k2,.str t2,.sl 2 (attrs d2)] := rfl
  rw [e1] at hg'
  have ew : wiB (k,t,b,d) (k2,t2,b2,d2) = withB k t d k2 t2 d2 := rfl
  have ek : kinB (k,t,b,d) (k2,t2,b2,d2) = (k2 == k) := rfl
  refine ⟨trivial,?_⟩
  unfold gKeep
  rw [ew,ek]
  dsimp only at h27 ⊢
  unfold gM at h27
  rw [e9]
  generalize withB k t d k2 t2 d2 = w at h27
  cases s1 <;> cases s2
  all_goals (
   simp only [Bool.false_or,Bool.true_or]
   obtain ⟨b',hb'⟩ : ∃ b',b' = m14b1 := ⟨_,rfl⟩
   rw [RunL_eq,show Item.lp m14k1 m14b1 = Item.lp m14k1 b' by rw [hb']]
   apply hide; intro rhs hrhs
   simp (maxSteps := 4000000) (disch := first | omega | exact ok_of (by kernel_rfl) | decide) only [bA.u,seval,cut,if_pos,if_neg,m14b1,R_k,hlt,hg',h27,hml]
   repeat' ((with_reducible first | refine sp ?_ ?_ | fail) <;> intro hx <;> (try simp only [bI.u] at hx) <;> (first | (exfalso; first | omega | with_reducible contradiction) | (try simp (maxSteps := 4000000) (disch := first | omega | exact ok_of (by kernel_rfl) | decide) only [bA.u,seval,cut,if_pos,if_neg,hx,m14b1,R_k,hlt,hg',h27,hml])))
   all_goals first | (exfalso; first | omega | with_reducible contradiction) | (subst hrhs; (subst hb'; refine (congrArg (fin _) (Run_lp Q _ _ _ _)).trans ?_; exact congrArg (fin R_k) (RunL_canon (canon_cong (by kernel_rfl) (by kernel_rfl) (by kernel_rfl))))))
 ·intro s hf _
  rw [foldE_inl] at hf
  have hs := Sum.inl.inj hf
  rw [gKeep_fold,Bool.false_or,Bool.false_or] at hs
  subst hs
  have hlt : decide ((P.length : Int) < (P.length : Int)) = false := by simp
  dsimp only
  obtain ⟨b',hb'⟩ : ∃ b',b' = m14b1 := ⟨_,rfl⟩
  rw [RunL_eq,show Item.lp m14k1 m14b1 = Item.lp m14k1 b' by rw [hb']]
  apply hide; intro rhs hrhs
  simp (maxSteps := 4000000) (disch := first | omega | exact ok_of (by kernel_rfl) | decide) only [bA.u,seval,cut,if_pos,if_neg,m14b1,hlt]
  repeat' ((with_reducible first | refine sp ?_ ?_ | fail) <;> intro hx <;> (try simp only [bI.u] at hx) <;> (first | (exfalso; first | omega | with_reducible contradiction) | (try simp (maxSteps := 4000000) (disch := first | omega | exact ok_of (by kernel_rfl) | decide) only [bA.u,seval,cut,if_pos,if_neg,hx,m14b1,hlt])))
  all_goals first | (exfalso; first | omega | with_reducible contradiction) | (subst hrhs; exact hk _)
theorem c_keep (k : Int) (t : List UInt8) (b : Bool) (d : Dn) (hn : okG (k,t,b,d)) (P X : List Gn) (hP : ∀ l ∈ P,okG l) (hX : ∀ l ∈ X,okG l) (hp : P.length < 1000000) (hx : X.length < 1000000) : Call Q 14 [gR (k,t,b,d),.sl 3 (P.map gR),.sl 3 (X.map gR)] = some (.bool (keepsB (k,t,b,d) P X)) := by
 have hml := mapR_length X
 have hmp := mapR_length P
 have e0 : gR (k,t,b,d) = .agg [.int .i64 k,.str t,.sl 2 (attrs d)] := rfl
 rw [e0,Call_fn Q (m := m14) rfl rfl]
 apply hide; intro rhs hrhs
 simp (maxSteps := 4000000) (disch := first | omega | exact ok_of (by kernel_rfl) | decide) only [bA.u,seval,cut,if_pos,if_neg,m14,Run_loop,hml,hmp]
 refine useK fun K hK=>?_
 refine loopR X (gAll fun x=>!wiB (k,t,b,d) x) (fun _ i=>fin R_k (RunL Q m14k0 m14b0 K ⟨[(1,.sl 3 (P.map gR)),(3,.ptr 0 0),(13,.sl 3 (X.map gR)),(14,.int .i64 X.length),(15,.int .i64 (i : Nat))],[],[(0,.cells [.int .i64 k,.str t,.sl 2 (attrs d)])],2⟩)) (fun _=>some (.bool false)) (fun _ _=>True) ?_ () trivial (congrArg (fin _) (RunL_canon (canon_cong (by kernel_rfl) (by kernel_rfl) (by kernel_rfl)))) ?_ ?_
 ·intro _ i g _ hg
  have hi := (List.getElem?_eq_some_iff.1 hg).1
  have hg' := gR_get hg
  have hlt : decide ((i : Int) < (X.length : Int)) = true := by simp; omega
  have e9 : ((i + 1 : Nat) : Int) = (i : Int) + 1 := rfl
  have h27 := c11 k t d g.1 g.2.1 g.2.2.2 hn (hX g (List.mem_of_getElem? hg))
  obtain ⟨k2,t2,b2,d2⟩ := g
  have e1 : gR (k2,t2,b2,d2) = .agg [.int .i64 k2,.str t2,.sl 2 (attrs d2)] := rfl
  rw [e1] at hg'
  have ew : wiB (k,t,b,d) (k2,t2,b2,d2) = withB k t d k2 t2 d2 := rfl
  rw [show gAll (fun x=>!wiB (k,t,b,d) x) () (k2,t2,b2,d2) = if (!withB k t d k2 t2 d2) = true then .inl () else .inr () from rfl]
  dsimp only at h27
  unfold gM at h27
  generalize withB k t d k2 t2 d2 = w at h27
  clear hK hrhs
  cases w
  ·rw [if_pos (show (!false) = true from rfl)]
   refine ⟨trivial,?_⟩
   dsimp only
   rw [e9]
   obtain ⟨b',hb'⟩ : ∃ b',b' = m14b0 := ⟨_,rfl⟩
   rw [RunL_eq,show Item.lp m14k0 m14b0 = Item.lp m14k0 b' by rw [hb']]
   apply hide; intro rhs hrhs
   simp (maxSteps := 4000000) (disch := first | omega | exact ok_of (by kernel_rfl) | decide) only [bA.u,seval,cut,if_pos,if_neg,m14b0,R_k,hlt,hg',h27,hml]
   repeat' ((with_reducible first | refine sp ?_ ?_ | fail) <;> intro hx <;> (try simp only [bI.u] at hx) <;> (first | (exfalso; first | omega | with_reducible contradiction) | (try simp (maxSteps := 4000000) (disch := first | omega | exact ok_of (by kernel_rfl) | decide) only [bA.u,seval,cut,if_pos,if_neg,hx,m14b0,R_k,hlt,hg',h27,hml])))
   all_goals first | (exfalso; first | omega | with_reducible contradiction) | (subst hrhs; (subst hb'; refine (congrArg (fin _) (Run_lp Q _ _ _ _)).trans ?_; exact congrArg (fin R_k) (RunL_canon (canon_cong (by kernel_rfl) (by kernel_rfl) (by kernel_rfl)))))
  ·rw [if_neg (show ¬ (!true) = true by decide)]
   show _ = some (MV.bool false)
   obtain ⟨b',hb'⟩ : ∃ b',b' = m14b0 := ⟨_,rfl⟩
   rw [RunL_eq,show Item.lp m14k0 m14b0 = Item.lp m14k0 b' by rw [hb']]
   apply hide; intro rhs hrhs
   simp (maxSteps := 4000000) (disch := first | omega | exact ok_of (by kernel_rfl) | decide) only [bA.u,seval,cut,if_pos,if_neg,m14b0,R_k,hlt,hg',h27,hml]
   repeat' ((with_reducible first | refine sp ?_ ?_ | fail) <;> intro hx <;> (try simp only [bI.u] at hx) <;> (first | (exfalso; first | omega | with_reducible contradiction) | (try simp (maxSteps := 4000000) (disch := first | omega | exact ok_of (by kernel_rfl) | decide) only [bA.u,seval,cut,if_pos,if_neg,hx,m14b0,R_k,hlt,hg',h27,hml])))
   all_goals first | (exfalso; first | omega | with_reducible contradiction) | (subst hrhs; rfl)
 ·intro s hf _
  rw [gAll_fold,all_not] at hf
  split at hf
  ·rename_i ha
   rw [hrhs]
   subst hK
   have hlt : decide ((X.length : Int) < (X.length : Int)) = false := by simp
   have ha' : X.any (wiB (k,t,b,d)) = false := by
    cases h : X.any (wiB (k,t,b,d)) with
    | false=>rfl
    | true=>rw [h] at ha; cases ha
   unfold keepsB
   rw [ha',Bool.not_false,Bool.true_and]
   clear hrhs
   obtain ⟨b',hb'⟩ : ∃ b',b' = m14b0 := ⟨_,rfl⟩
   rw [RunL_eq,show Item.lp m14k0 m14b0 = Item.lp m14k0 b' by rw [hb']]
   apply hide; intro rhs hrhs
   simp (maxSteps := 4000000) (disch := first | omega | exact ok_of (by kernel_rfl) | decide) only [bA.u,seval,cut,if_pos,if_neg,m14b0,R_k,Run_loop,hlt,hmp]
   subst hrhs
   refine Eq.trans (congrArg (fin _) (RunL_canon (canon_cong (by kernel_rfl) (by kernel_rfl) (by kernel_rfl)))) (k_two k t b d hn P hP hp _ _ ?_)
   intro nx
   generalize P.any (kinB (k,t,b,d)) = x2
   generalize P.any (wiB (k,t,b,d)) = x3
   cases x2 <;> cases x3
   all_goals (
    apply hide; intro rhs hrhs
    simp (maxSteps := 4000000) (disch := first | omega | exact ok_of (by kernel_rfl) | decide) only [bA.u,seval,cut,if_pos,if_neg,R_k]
    repeat' ((with_reducible first | refine sp ?_ ?_ | fail) <;> intro hx <;> (try simp only [bI.u] at hx) <;> (first | (exfalso; first | omega | with_reducible contradiction) | (try simp (maxSteps := 4000000) (disch := first | omega | exact ok_of (by kernel_rfl) | decide) only [bA.u,seval,cut,if_pos,if_neg,hx,R_k])))
    all_goals first | (exfalso; first | omega | with_reducible contradiction) | (subst hrhs; rfl))
  ·cases hf
 ·intro c hf
  rw [gAll_fold,all_not] at hf
  split at hf
  ·cases hf
  ·rename_i ha
   rw [hrhs]
   have ha' : X.any (wiB (k,t,b,d)) = true := by
    cases h : X.any (wiB (k,t,b,d)) with
    | true=>rfl
    | false=>rw [h] at ha; exact (ha rfl).elim
   unfold keepsB
   rw [ha']
   rfl
end Go.Mini.Nm
namespace Go.Mini.Nm
open Go Go.Mini Go.Proofs.YtaehaajckndejaaGreatDoor
set_option maxRecDepth 100000
set_option maxHeartbeats 4000000
def R_p : List (Nat × Option (Bool × Nat) × PK) := [(8,none,.other)]
def st_p (L P X N : List Gn) (d0 : Dn) (i : Int) : DS := ⟨[(0,.sl 3 (L.map gV)),(2,.sl 3 (P.map gV)),(3,.sl 3 (X.map gV)),(9,.ptr 0 0),(10,.ptr 1 0),(72,.sl 3 (N.map gV)),(73,.int .i64 N.length),(74,.int .i64 i)],[],[(0,.cells [.int .i64 0,.int .i64 0,.nilsl,.sl 2 (attrs d0),.int .i64 0,.int .i64 0,.int .i64 0,.nilsl,.bool false,.int .i64 0,.int .i64 0,.sl 3 (L.map gV),.nilsl,.nilsl,.nilsl]),(1,.cells [.int .i64 0,.int .i64 0,.nilsl,.nilsl,.int .i64 0,.int .i64 0,.int .i64 0,.nilsl,.bool false,.int .i64 0,.int .i64 0,.nilsl,.sl 3 (P.map gV),.sl 3 (X.map gV),.nilsl])],3⟩
def atI (L : List Gn) (d0 : Dn) (i : Nat) (g : Gn) : Prop := (i < L.length ∧ L[i]? = some g) ∨ (i = L.length ∧ g = (4,[],false,d0))
theorem p_step (L P X N : List Gn) (d0 : Dn) (hN : N.length < 100) (hP : ∀ l ∈ P,okG l) (hX : ∀ l ∈ X,okG l) (hp : P.length < 100) (hx : X.length < 100) (hl : L.length < 100) (K : List Item) (i : Nat) (g : Gn) (hok : okG g) (hg : N[i]? = some g) (hi2 : atI L d0 i g) :
  fin R_p (RunL Q m4k0 m4b0 K (st_p L P X N d0 (i : Nat))) = fin R_p (RunL Q m4k0 m4b0 K (st_p L P X N d0 (i + 1 : Nat))) := by
 have hi := (List.getElem?_eq_some_iff.1 hg).1
 have hg' := gV_get hg
 have hlt : decide ((i : Int) < (N.length : Int)) = true := by simp; omega
 have e9 : ((i + 1 : Nat) : Int) = (i : Int) + 1 := rfl
 have hml := mapV_length L
 have hmp := mapV_length P
 have hmn := mapV_length N
 have h11P := c_gens P hP (by omega)
 have h11X := c_gens X hX (by omega)
 obtain ⟨k,t,b,d⟩ := g
 have hdv := dvOf_dir b d
 have h11 := c_gens [(k,t,b,d)] (by intro g hg; cases List.mem_singleton.1 hg; exact hok) (by simp)
 have h12 := c22 d d hok.2.1
 rw [decide_eq_true (rfl : d = d)] at h12
 have h13 := c_keeps (k,t,b,d) P X hok hP hX (by omega) (by omega)
 have h14 := c_keep k t b d hok P X hP hX (by omega) (by omega)
 have e1 : gV (k,t,b,d) = .agg [.int .i64 k,.str t,dvOf b d] := rfl
 have e2 : gR (k,t,b,d) = .agg [.int .i64 k,.str t,.sl 2 (attrs d)] := rfl
 simp only [List.map_cons,List.map_nil] at h11
 rw [e1] at hg' h13 h11
 rw [e2] at h14 h11
 unfold crL at h13
 generalize keepsB (k,t,b,d) P X = kb at h13 h14
 unfold st_p
 rw [e9]
 rcases hi2 with ⟨hil,hgl⟩ | ⟨hil,he⟩
 ·have hgl' := gV_get hgl
  rw [e1] at hgl'
  have hlt2 : decide ((i : Int) < (L.length : Int)) = true := by simp; omega
  generalize dvOf b d = dv at hdv hg' h11 h13 hgl'
  rcases hdv with rfl | ⟨rfl,rfl⟩ <;> cases kb
  all_goals (
   obtain ⟨b',hb'⟩ : ∃ b',b' = m4b0 := ⟨_,rfl⟩
   rw [RunL_eq,show Item.lp m4k0 m4b0 = Item.lp m4k0 b' by rw [hb']]
   apply hide; intro rhs hrhs
   simp (maxSteps := 4000000) (disch := first | omega | exact ok_of (by kernel_rfl) | decide) only [bA.u,seval,cut,if_pos,if_neg,m4b0,R_p,hlt,hlt2,hg',hgl',hml,hmn,h11,h11P,h11X,h12,h13,h14]
   repeat' ((with_reducible first | refine sp ?_ ?_ | fail) <;> intro hx <;> (try simp only [bI.u] at hx) <;> (first | (exfalso; first | omega | with_reducible contradiction) | (try simp (maxSteps := 4000000) (disch := first | omega | exact ok_of (by kernel_rfl) | decide) only [bA.u,seval,cut,if_pos,if_neg,hx,m4b0,R_p,hlt,hlt2,hg',hgl',hml,hmn,h11,h11P,h11X,h12,h13,h14])))
   all_goals first | (exfalso; first | omega | with_reducible contradiction) | (subst hrhs; (subst hb'; refine (congrArg (fin _) (Run_lp Q _ _ _ _)).trans ?_; exact congrArg (fin R_p) (RunL_canon (canon_cong (by kernel_rfl) (by kernel_rfl) (by kernel_rfl))))))
 ·have hlt2 : decide ((i : Int) < (L.length : Int)) = false := by simp; omega
  cases he
  have e3 : dvOf false d0 = .sl 2 (attrs d0) := by
   unfold dvOf; rw [if_neg]; intro h; cases h.1
  rw [e3] at hg' h11 h13
  cases kb
  all_goals (
   obtain ⟨b',hb'⟩ : ∃ b',b' = m4b0 := ⟨_,rfl⟩
   rw [RunL_eq,show Item.lp m4k0 m4b0 = Item.lp m4k0 b' by rw [hb']]
   apply hide; intro rhs hrhs
   simp (maxSteps := 4000000) (disch := first | omega | exact ok_of (by kernel_rfl) | decide) only [bA.u,seval,cut,if_pos,if_neg,m4b0,R_p,hlt,hlt2,hg',hml,hmn,h11,h11P,h11X,h12,h13,h14]
   repeat' ((with_reducible first | refine sp ?_ ?_ | fail) <;> intro hx <;> (try simp only [bI.u] at hx) <;> (first | (exfalso; first | omega | with_reducible contradiction) | (try simp (maxSteps := 4000000) (disch := first | omega | exact ok_of (by kernel_rfl) | decide) only [bA.u,seval,cut,if_pos,if_neg,hx,m4b0,R_p,hlt,hlt2,hg',hml,hmn,h11,h11P,h11X,h12,h13,h14])))
   all_goals first | (exfalso; first | omega | with_reducible contradiction) | (subst hrhs; (subst hb'; refine (congrArg (fin _) (Run_lp Q _ _ _ _)).trans ?_; exact congrArg (fin R_p) (RunL_canon (canon_cong (by kernel_rfl) (by kernel_rfl) (by kernel_rfl))))))
def K_p : List Item := [.blk 0,.code (.seq (.rg [oV 8 (.mv (.c (.bool true)))])
  (.ret))]
theorem p_all (L P X N : List Gn) (d0 : Dn) (hN : N.length < 100) (hok : ∀ g ∈ N,okG g) (hP : ∀ l ∈ P,okG l) (hX : ∀ l ∈ X,okG l) (hp : P.length < 100) (hx : X.length < 100) (hl : L.length < 100) (hat : ∀ i g,N[i]? = some g→atI L d0 i g) :
  fin R_p (RunL Q m4k0 m4b0 K_p (st_p L P X N d0 (0 : Nat))) = some (.bool true) := by
 refine loopR (γ := Empty) N (fun (u : Unit) _=>.inl u) (fun _ i=>fin R_p (RunL Q m4k0 m4b0 K_p (st_p L P X N d0 (i : Nat)))) (fun c=>nomatch c) (fun _ _=>True) ?_ () trivial rfl ?_ (fun c=>nomatch c)
 ·intro _ i g _ hg
  exact ⟨trivial,p_step L P X N d0 hN hP hX hp hx hl _ i g (hok g (List.mem_of_getElem? hg)) hg (hat i g hg)⟩
 ·intro s _ _
  have hlt : decide ((N.length : Int) < (N.length : Int)) = false := by simp
  unfold st_p K_p
  obtain ⟨b',hb'⟩ : ∃ b',b' = m4b0 := ⟨_,rfl⟩
  rw [RunL_eq,show Item.lp m4k0 m4b0 = Item.lp m4k0 b' by rw [hb']]
  apply hide; intro rhs hrhs
  simp (maxSteps := 4000000) (disch := first | omega | exact ok_of (by kernel_rfl) | decide) only [bA.u,seval,cut,if_pos,if_neg,m4b0,R_p,hlt]
  repeat' ((with_reducible first | refine sp ?_ ?_ | fail) <;> intro hx <;> (try simp only [bI.u] at hx) <;> (first | (exfalso; first | omega | with_reducible contradiction) | (try simp (maxSteps := 4000000) (disch := first | omega | exact ok_of (by kernel_rfl) | decide) only [bA.u,seval,cut,if_pos,if_neg,hx,m4b0,R_p,hlt])))
  all_goals first | (exfalso; first | omega | with_reducible contradiction) | (subst hrhs; rfl)
end Go.Mini.Nm
namespace Go.Mini.Nm
open Go Go.Mini Go.Proofs.YtaehaajckndejaaGreatDoor
set_option maxRecDepth 100000
set_option maxHeartbeats 4000000
theorem light_ok {g : Gn} (h : ltB g = true) : okG g := by
 unfold ltB at h
 simp only [Bool.and_eq_true,decide_eq_true_eq,List.all_eq_true] at h
 obtain ⟨h1,h2,h3⟩ := h
 refine ⟨by omega,by omega,fun a ha=>?_⟩
 have := h3 a ha
 unfold ltA at this
 simp only [decide_eq_true_eq] at this
 omega
def subD (s : List UInt8) : Dn := if s = [] then [] else [([50,46,53,46,52,46,51],s)]
def allN (L : List Gn) (s : List UInt8) : List Gn := if s = [] then L else L ++ [(4,[],false,subD s)]
theorem allN_at (L : List Gn) (s : List UInt8) : ∀ i g,(allN L s)[i]? = some g→atI L (subD s) i g := by
 intro i g h
 unfold allN at h
 split at h
 ·exact .inl ⟨(List.getElem?_eq_some_iff.1 h).1,h⟩
 ·rcases Nat.lt_or_ge i L.length with hi | hi
  ·rw [List.getElem?_append_left hi] at h
   exact .inl ⟨hi,h⟩
  ·rw [List.getElem?_append_right hi] at h
   have h0 : i - L.length = 0 := by
    have := (List.getElem?_eq_some_iff.1 h).1
    simp at this
    omega
   rw [h0] at h
   simp only [List.getElem?_cons_zero,Option.some.injEq] at h
   exact .inr ⟨by omega,h.symm⟩
theorem allN_ok (L : List Gn) (s : List UInt8) (hL : ∀ g ∈ L,okG g) (hs : s.length < 1000) : ∀ g ∈ allN L s,okG g := by
 intro g hg
 unfold allN at hg
 split at hg
 ·exact hL g hg
 ·rename_i hne
  rcases List.mem_append.1 hg with h | h
  ·exact hL g h
  ·cases List.mem_singleton.1 h
   unfold subD
   rw [if_neg hne]
   refine ⟨by simp,by simp,fun a ha=>?_⟩
   cases List.mem_singleton.1 ha
   exact ⟨by simp,by show s.length < 1000000; omega⟩
theorem gV_sub (s : List UInt8) : gV (4,[],false,subD s) = gM 4 [] (.sl 2 (attrs (subD s))) := by
 have e3 : dvOf false (subD s) = .sl 2 (attrs (subD s)) := by
  unfold dvOf; rw [if_neg]; intro h; cases h.1
 show gM 4 [] (dvOf false (subD s)) = _
 rw [e3]
theorem names_map (L : List Gn) (s : List UInt8) : (if 0 < (subD s).length then L.map gV ++ [gM 4 [] (.sl 2 (attrs (subD s)))] else L.map gV) = (allN L s).map gV := by
 unfold allN
 by_cases h : s = []
 ·rw [if_pos h,if_neg (by unfold subD; rw [if_pos h]; simp)]
 ·rw [if_neg h,if_pos (by unfold subD; rw [if_neg h]; simp),List.map_append,List.map_cons,List.map_nil,gV_sub]
theorem allN_len (L : List Gn) (s : List UInt8) : (allN L s).length = if s = [] then L.length else L.length + 1 := by
 unfold allN
 split <;> simp
theorem c4 (L P X : List Gn) (s : List UInt8) (hL : ∀ g ∈ L,bigG g) (hP : ∀ g ∈ P,bigG g) (hX : ∀ g ∈ X,bigG g) : Call Q 4 [.sl 3 (L.map gV),.str s,.sl 3 (P.map gV),.sl 3 (X.map gV)] = some (.bool true) := by
 have hml := mapV_length L
 have hmp := mapV_length P
 have hmx := mapV_length X
 have h5 := anchor_true
 by_cases hg : L.length ≤ 6 ∧ P.length ≤ 6 ∧ X.length ≤ 6 ∧ s.length ≤ 100
 rotate_left
 ·rw [Call_fn Q (m := m4) rfl rfl]
  have hx : ¬ (L.length ≤ 6 ∧ P.length ≤ 6 ∧ X.length ≤ 6 ∧ s.length ≤ 100) := hg
  by_cases g1 : L.length ≤ 6
  rotate_left
  ·have g1' : decide (6 < (L.length : Int)) = true := by simp; omega
   apply hide; intro rhs hrhs
   simp (maxSteps := 4000000) (disch := first | omega | exact ok_of (by kernel_rfl) | decide) only [bA.u,seval,cut,if_pos,if_neg,m4,hml,hmp,hmx,h5,g1']
   repeat' ((with_reducible first | refine sp ?_ ?_ | fail) <;> intro hx <;> (try simp only [bI.u] at hx) <;> (first | (exfalso; first | omega | with_reducible contradiction) | (try simp (maxSteps := 4000000) (disch := first | omega | exact ok_of (by kernel_rfl) | decide) only [bA.u,seval,cut,if_pos,if_neg,hx,m4,hml,hmp,hmx,h5,g1'])))
   all_goals first | (exfalso; first | omega | with_reducible contradiction) | (subst hrhs; rfl)
  have g1' : decide (6 < (L.length : Int)) = false := by simp; omega
  by_cases g2 : P.length ≤ 6
  rotate_left
  ·have g2' : decide (6 < (P.length : Int)) = true := by simp; omega
   apply hide; intro rhs hrhs
   simp (maxSteps := 4000000) (disch := first | omega | exact ok_of (by kernel_rfl) | decide) only [bA.u,seval,cut,if_pos,if_neg,m4,hml,hmp,hmx,h5,g1',g2']
   repeat' ((with_reducible first | refine sp ?_ ?_ | fail) <;> intro hx <;> (try simp only [bI.u] at hx) <;> (first | (exfalso; first | omega | with_reducible contradiction) | (try simp (maxSteps := 4000000) (disch := first | omega | exact ok_of (by kernel_rfl) | decide) only [bA.u,seval,cut,if_pos,if_neg,hx,m4,hml,hmp,hmx,h5,g1',g2'])))
   all_goals first | (exfalso; first | omega | with_reducible contradiction) | (subst hrhs; rfl)
  have g2' : decide (6 < (P.length : Int)) = false := by simp; omega
  by_cases g3 : X.length ≤ 6
  rotate_left
  ·have g3' : decide (6 < (X.length : Int)) = true := by simp; omega
   apply hide; intro rhs hrhs
   simp (maxSteps := 4000000) (disch := first | omega | exact ok_of (by kernel_rfl) | decide) only [bA.u,seval,cut,if_pos,if_neg,m4,hml,hmp,hmx,h5,g1',g2',g3']
   repeat' ((with_reducible first | refine sp ?_ ?_ | fail) <;> intro hx <;> (try simp only [bI.u] at hx) <;> (first | (exfalso; first | omega | with_reducible contradiction) | (try simp (maxSteps := 4000000) (disch := first | omega | exact ok_of (by kernel_rfl) | decide) only [bA.u,seval,cut,if_pos,if_neg,hx,m4,hml,hmp,hmx,h5,g1',g2',g3'])))
   all_goals first | (exfalso; first | omega | with_reducible contradiction) | (subst hrhs; rfl)
  have g3' : decide (6 < (X.length : Int)) = false := by simp; omega
  have g4' : decide (100 < (s.length : Int)) = true := by simp; omega
  apply hide; intro rhs hrhs
  simp (maxSteps := 4000000) (disch := first | omega | exact ok_of (by kernel_rfl) | decide) only [bA.u,seval,cut,if_pos,if_neg,m4,hml,hmp,hmx,h5,g1',g2',g3',g4']
  repeat' ((with_reducible first | refine sp ?_ ?_ | fail) <;> intro hx <;> (try simp only [bI.u] at hx) <;> (first | (exfalso; first | omega | with_reducible contradiction) | (try simp (maxSteps := 4000000) (disch := first | omega | exact ok_of (by kernel_rfl) | decide) only [bA.u,seval,cut,if_pos,if_neg,hx,m4,hml,hmp,hmx,h5,g1',g2',g3',g4'])))
  all_goals first | (exfalso; first | omega | with_reducible contradiction) | (subst hrhs; rfl)
 obtain ⟨g1,g2,g3,g4⟩ := hg
 have g1' : decide (6 < (L.length : Int)) = false := by simp; omega
 have g2' : decide (6 < (P.length : Int)) = false := by simp; omega
 have g3' : decide (6 < (X.length : Int)) = false := by simp; omega
 have g4' : decide (100 < (s.length : Int)) = false := by simp; omega
 have h8L := c_light L hL (by omega)
 have h8P := c_light P hP (by omega)
 have h8X := c_light X hX (by omega)
 cases hl1 : L.all ltB
 ·rw [hl1] at h8L
  rw [Call_fn Q (m := m4) rfl rfl]
  apply hide; intro rhs hrhs
  simp (maxSteps := 4000000) (disch := first | omega | exact ok_of (by kernel_rfl) | decide) only [bA.u,seval,cut,if_pos,if_neg,m4,hml,hmp,hmx,h5,g1',g2',g3',g4',h8L]
  repeat' ((with_reducible first | refine sp ?_ ?_ | fail) <;> intro hx <;> (try simp only [bI.u] at hx) <;> (first | (exfalso; first | omega | with_reducible contradiction) | (try simp (maxSteps := 4000000) (disch := first | omega | exact ok_of (by kernel_rfl) | decide) only [bA.u,seval,cut,if_pos,if_neg,hx,m4,hml,hmp,hmx,h5,g1',g2',g3',g4',h8L])))
  all_goals first | (exfalso; first | omega | with_reducible contradiction) | (subst hrhs; rfl)
 rw [hl1] at h8L
 cases hl2 : P.all ltB
 ·rw [hl2] at h8P
  rw [Call_fn Q (m := m4) rfl rfl]
  apply hide; intro rhs hrhs
  simp (maxSteps := 4000000) (disch := first | omega | exact ok_of (by kernel_rfl) | decide) only [bA.u,seval,cut,if_pos,if_neg,m4,hml,hmp,hmx,h5,g1',g2',g3',g4',h8L,h8P]
  repeat' ((with_reducible first | refine sp ?_ ?_ | fail) <;> intro hx <;> (try simp only [bI.u] at hx) <;> (first | (exfalso; first | omega | with_reducible contradiction) | (try simp (maxSteps := 4000000) (disch := first | omega | exact ok_of (by kernel_rfl) | decide) only [bA.u,seval,cut,if_pos,if_neg,hx,m4,hml,hmp,hmx,h5,g1',g2',g3',g4',h8L,h8P])))
  all_goals first | (exfalso; first | omega | with_reducible contradiction) | (subst hrhs; rfl)
 rw [hl2] at h8P
 cases hl3 : X.all ltB
 ·rw [hl3] at h8X
  rw [Call_fn Q (m := m4) rfl rfl]
  apply hide; intro rhs hrhs
  simp (maxSteps := 4000000) (disch := first | omega | exact ok_of (by kernel_rfl) | decide) only [bA.u,seval,cut,if_pos,if_neg,m4,hml,hmp,hmx,h5,g1',g2',g3',g4',h8L,h8P,h8X]
  repeat' ((with_reducible first | refine sp ?_ ?_ | fail) <;> intro hx <;> (try simp only [bI.u] at hx) <;> (first | (exfalso; first | omega | with_reducible contradiction) | (try simp (maxSteps := 4000000) (disch := first | omega | exact ok_of (by kernel_rfl) | decide) only [bA.u,seval,cut,if_pos,if_neg,hx,m4,hml,hmp,hmx,h5,g1',g2',g3',g4',h8L,h8P,h8X])))
  all_goals first | (exfalso; first | omega | with_reducible contradiction) | (subst hrhs; rfl)
 rw [hl3] at h8X
 have oL : ∀ g ∈ L,okG g := fun g hg=>light_ok (List.all_eq_true.1 hl1 g hg)
 have oP : ∀ g ∈ P,okG g := fun g hg=>light_ok (List.all_eq_true.1 hl2 g hg)
 have oX : ∀ g ∈ X,okG g := fun g hg=>light_ok (List.all_eq_true.1 hl3 g hg)
 have h9 := c_dn s (by omega)
 have h10 := c_names (L.map gV) (subD s) (by rw [hml]; omega) (by unfold subD; split <;> simp)
 rw [names_map] at h10
 have hall := p_all L P X (allN L s) (subD s) (by rw [allN_len]; split <;> omega) (allN_ok L s oL (by omega)) oP oX (by omega) (by omega) (by omega) (allN_at L s)
 have hmn := mapV_length (allN L s)
 have hnl := allN_len L s
 have h9' : Call Q 9 [.str s] = some (.sl 2 (attrs (subD s))) := h9
 unfold crN at h10
 rw [Call_fn Q (m := m4) rfl rfl]
 generalize allN L s = N at h10 hall hmn hnl
 generalize subD s = d0 at h10 hall h9'
 clear h9
 by_cases hs : s = []
 ·rw [if_pos hs] at hnl
  have hs' : (s == []) = true := by rw [hs]; rfl
  have hn' : (N.length : Int) = (L.length : Int) := by omega
  refine Eq.trans ?_ hall
  unfold st_p
  rw [hn']
  apply hide; intro rhs hrhs
  simp (maxSteps := 4000000) (disch := first | omega | exact ok_of (by kernel_rfl) | decide) only [bA.u,seval,cut,if_pos,if_neg,m4,Run_loop,hml,hmp,hmx,hmn,h5,g1',g2',g3',g4',h8L,h8P,h8X,h9',h10,hs',hn']
  subst hrhs
  exact congrArg (fin R_p) (RunL_canon (canon_cong (by kernel_rfl) (by kernel_rfl) (by kernel_rfl)))
 ·rw [if_neg hs] at hnl
  have hs' : (s == []) = false := by rw [beq_eq_false_iff_ne]; exact hs
  have hn' : (N.length : Int) = (L.length : Int) + 1 := by omega
  refine Eq.trans ?_ hall
  unfold st_p
  rw [hn']
  apply hide; intro rhs hrhs
  simp (maxSteps := 4000000) (disch := first | omega | exact ok_of (by kernel_rfl) | decide) only [bA.u,seval,cut,if_pos,if_neg,m4,Run_loop,hml,hmp,hmx,hmn,h5,g1',g2',g3',g4',h8L,h8P,h8X,h9',h10,hs',hn']
  subst hrhs
  exact congrArg (fin R_p) (RunL_canon (canon_cong (by kernel_rfl) (by kernel_rfl) (by kernel_rfl)))
end Go.Mini.Nm
