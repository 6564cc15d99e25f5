/- a certificate's names keep to limits as the document says: the law by that interpreter (part 8): what the program's functions answer, or plain laws of it; no conditions. -/
import Derived.Test.YtaehaajckndejaaGreatDoorA07
set_option linter.all false
namespace Go.Mini.Nm
open Go Go.Mini Go.Proofs.YtaehaajckndejaaGreatDoor
set_option maxRecDepth 100000
set_option maxHeartbeats 4000000
def R20 : List (Nat × Option (Bool × Nat) × PK) := [(2,some (true,5),.other),(3,none,.other)]
def V20 (d : Dn) (f i : Int) : List (Nat × MV) := [(0,.sl 2 (attrs d)),(2,.ptr 0 0),(4,.ptr 1 0),(5,.int .i64 f),(6,.int .i64 i)]
theorem c20_step (d : Dn) (hd : d.length ≤ 16) (hl : okLens d) (ks : List MV) (hk : ks.length ≤ 16) (f : Int) (i : Nat) (a : List UInt8 × List UInt8) (hg : d[i]? = some a) (K : List Item) :
  fin R20 (RunL Q m68k0 m68b0 (.blk 0 :: K) ⟨V20 d f i,[],O19 ks,nx19 ks⟩) = match oidS a.1 with
   | some out=>fin R20 (RunL Q m68k0 m68b0 (.blk 0 :: K) ⟨V20 d (if textB a.2 = true then f else 31) (i + 1 : Nat),[],O19 (ks ++ [kidV out a.2]),nx19 (ks ++ [kidV out a.2])⟩)
   | none=>some (err5 30) := by
 have hi : i < d.length := (List.getElem?_eq_some_iff.1 hg).1
 have hlt : decide ((i : Int) < (d.length : Int)) = true := by simp; omega
 have i0 : (0 : Int) ≤ (i : Int) := by omega
 have i1 : (i : Int) < (d.length : Int) := by omega
 have hal := attrs_length d
 have hg' := attrs_get hg
 have lens := hl.2 a (List.mem_of_getElem? hg)
 have ho := c56 a.1 lens.1
 have ht := c52 a.2 lens.2
 have hx2 := c51 a.2 lens.2
 have e : ((i : Int) + 1) = ((i + 1 : Nat) : Int) := by omega
 obtain ⟨b',hb'⟩ : ∃ b',b' = m68b0 := ⟨_,rfl⟩
 cases hx : oidS a.1 with
 | none =>
  rw [hx] at ho
  rw [RunL_eq,show Item.lp m68k0 m68b0 = Item.lp m68k0 b' by rw [hb']]
  cases ks with
  | nil =>
   simp (maxSteps := 4000000) (disch := first | omega | exact ok_of (by kernel_rfl) | decide) only [bA.u,seval,cut,if_pos,if_neg,m68b0,V20,O19,nx19,R20,zero5,err5,hlt,i0,i1,hal,hg',ho,ht,hx2,ans53,bad53]
  | cons k ks =>
   simp (maxSteps := 4000000) (disch := first | omega | exact ok_of (by kernel_rfl) | decide) only [bA.u,seval,cut,if_pos,if_neg,m68b0,V20,O19,nx19,R20,zero5,err5,hlt,i0,i1,hal,hg',ho,ht,hx2,ans53,bad53]
 | some out =>
  rw [hx] at ho
  show _ = fin R20 (RunL Q m68k0 m68b0 (.blk 0 :: K) ⟨V20 d (if textB a.2 = true then f else 31) (i + 1 : Nat),[],O19 (ks ++ [kidV out a.2]),nx19 (ks ++ [kidV out a.2])⟩)
  cases hxt : textB a.2
  ·rw [if_neg (by decide)]
   rw [hxt] at hx2
   obtain ⟨rhs,hr⟩ : ∃ x,x = fin R20 (RunL Q m68k0 m68b0 (.blk 0 :: K) ⟨V20 d 31 (i + 1 : Nat),[],O19 (ks ++ [kidV out a.2]),nx19 (ks ++ [kidV out a.2])⟩) := ⟨_,rfl⟩
   rw [← hr,RunL_eq,show Item.lp m68k0 m68b0 = Item.lp m68k0 b' by rw [hb']]
   cases ks with
   | nil =>
    simp (maxSteps := 4000000) (disch := first | omega | exact ok_of (by kernel_rfl) | decide) only [bA.u,seval,cut,if_pos,if_neg,m68b0,V20,O19,nx19,R20,zero5,err5,hlt,i0,i1,hal,hg',ho,ht,hx2,ans53,good53,List.set]
    subst hb'
    refine ((congrArg (fin _) (Run_lp Q _ _ _ _)).trans ?_)
    rw [hr]
    exact congrArg (fin R20) (RunL_canon (canon_cong (Eq.trans (by kernel_rfl) (show [(0,MV.sl 2 (attrs d)),(2,.ptr 0 0),(4,.ptr 1 0),(5,.int .i64 31),(6,.int .i64 ((i : Int) + 1))] = V20 d 31 (i + 1 : Nat) from by rw [e]; rfl)) (by kernel_rfl) (by kernel_rfl)))
   | cons k ks =>
    have hcap : (ks.length + 1 + 1) * 72 ≤ 2 ^ 47 := by simp only [List.length_cons] at hk; omega
    simp (maxSteps := 4000000) (disch := first | omega | exact ok_of (by kernel_rfl) | decide) only [bA.u,seval,cut,if_pos,if_neg,m68b0,V20,O19,nx19,R20,zero5,err5,hlt,i0,i1,hal,hg',ho,ht,hx2,ans53,good53,hcap,List.set]
    subst hb'
    refine ((congrArg (fin _) (Run_lp Q _ _ _ _)).trans ?_)
    rw [hr]
    exact congrArg (fin R20) (RunL_canon (canon_cong (Eq.trans (by kernel_rfl) (show [(0,MV.sl 2 (attrs d)),(2,.ptr 0 0),(4,.ptr 1 0),(5,.int .i64 31),(6,.int .i64 ((i : Int) + 1))] = V20 d 31 (i + 1 : Nat) from by rw [e]; rfl))
     (Eq.trans (by kernel_rfl) (show [(0,Obj.cells zero5),(1,.cells [.int .i64 0,.int .i64 16,.bool true,.nilsl,.own 2 (ks.length + 1 + 1)]),(2,.el 5 (k :: (ks ++ [kidV out a.2])) false)] = O19 (k :: ks ++ [kidV out a.2]) from by simp [O19])) (by kernel_rfl)))
  ·rw [if_pos rfl]
   rw [hxt] at hx2
   obtain ⟨rhs,hr⟩ : ∃ x,x = fin R20 (RunL Q m68k0 m68b0 (.blk 0 :: K) ⟨V20 d f (i + 1 : Nat),[],O19 (ks ++ [kidV out a.2]),nx19 (ks ++ [kidV out a.2])⟩) := ⟨_,rfl⟩
   rw [← hr,RunL_eq,show Item.lp m68k0 m68b0 = Item.lp m68k0 b' by rw [hb']]
   cases ks with
   | nil =>
    simp (maxSteps := 4000000) (disch := first | omega | exact ok_of (by kernel_rfl) | decide) only [bA.u,seval,cut,if_pos,if_neg,m68b0,V20,O19,nx19,R20,zero5,err5,hlt,i0,i1,hal,hg',ho,ht,hx2,ans53,good53,List.set]
    subst hb'
    refine ((congrArg (fin _) (Run_lp Q _ _ _ _)).trans ?_)
    rw [hr]
    exact congrArg (fin R20) (RunL_canon (canon_cong (Eq.trans (by kernel_rfl) (show [(0,MV.sl 2 (attrs d)),(2,.ptr 0 0),(4,.ptr 1 0),(5,.int .i64 f),(6,.int .i64 ((i : Int) + 1))] = V20 d f (i + 1 : Nat) from by rw [e]; rfl)) (by kernel_rfl) (by kernel_rfl)))
   | cons k ks =>
    have hcap : (ks.length + 1 + 1) * 72 ≤ 2 ^ 47 := by simp only [List.length_cons] at hk; omega
    simp (maxSteps := 4000000) (disch := first | omega | exact ok_of (by kernel_rfl) | decide) only [bA.u,seval,cut,if_pos,if_neg,m68b0,V20,O19,nx19,R20,zero5,err5,hlt,i0,i1,hal,hg',ho,ht,hx2,ans53,good53,hcap,List.set]
    subst hb'
    refine ((congrArg (fin _) (Run_lp Q _ _ _ _)).trans ?_)
    rw [hr]
    exact congrArg (fin R20) (RunL_canon (canon_cong (Eq.trans (by kernel_rfl) (show [(0,MV.sl 2 (attrs d)),(2,.ptr 0 0),(4,.ptr 1 0),(5,.int .i64 f),(6,.int .i64 ((i : Int) + 1))] = V20 d f (i + 1 : Nat) from by rw [e]; rfl))
     (Eq.trans (by kernel_rfl) (show [(0,Obj.cells zero5),(1,.cells [.int .i64 0,.int .i64 16,.bool true,.nilsl,.own 2 (ks.length + 1 + 1)]),(2,.el 5 (k :: (ks ++ [kidV out a.2])) false)] = O19 (k :: ks ++ [kidV out a.2]) from by simp [O19])) (by kernel_rfl)))
end Go.Mini.Nm
namespace Go.Mini.Nm
open Go Go.Mini Go.Proofs.YtaehaajckndejaaGreatDoor
set_option maxRecDepth 100000
set_option maxHeartbeats 4000000
theorem c20_end (d : Dn) (ks : List MV) (f : Int) (K : List Item) : RunL Q m68k0 m68b0 (.blk 0 :: K) ⟨V20 d f d.length,[],O19 ks,nx19 ks⟩ = Run Q K ⟨(19,.bool false) :: V20 d f d.length,[],O19 ks,nx19 ks + 16⟩ := by
 have hlt : decide ((d.length : Int) < (d.length : Int)) = false := by simp
 have hal := attrs_length d
 obtain ⟨b',hb'⟩ : ∃ b',b' = m68b0 := ⟨_,rfl⟩
 rw [RunL_eq,show Item.lp m68k0 m68b0 = Item.lp m68k0 b' by rw [hb']]
 simp (maxSteps := 4000000) (disch := first | omega | exact ok_of (by kernel_rfl) | decide) only [bA.u,seval,cut,if_pos,if_neg,m68b0,V20,hlt,hal]
def flagR (f : Int) (r : Dn) : Int := if (r.any fun a=>!textB a.2) = true then 31 else f
theorem flag_cons (f : Int) (a : List UInt8 × List UInt8) (r : Dn) : flagR (if textB a.2 = true then f else 31) r = flagR f (a :: r) := by
 unfold flagR
 rw [List.any_cons]
 cases textB a.2 <;> cases (r.any fun a=>!textB a.2) <;> rfl
theorem c20_loop (d : Dn) (hd : d.length ≤ 16) (hl : okLens d) (K : List Item) : ∀ (r : Dn) (ks : List MV) (f : Int) (i : Nat),d.drop i = r→i + r.length = d.length→ks.length = i →
  fin R20 (RunL Q m68k0 m68b0 (.blk 0 :: K) ⟨V20 d f i,[],O19 ks,nx19 ks⟩) = match kidsV r with
   | some l=>fin R20 (Run Q K ⟨(19,.bool false) :: V20 d (flagR f r) d.length,[],O19 (ks ++ l),nx19 (ks ++ l) + 16⟩)
   | none=>some (err5 30)
 | [],ks,f,i,hdr,hi,hk=>by
  have hi' : i = d.length := by simpa using hi
  subst hi'
  rw [c20_end d ks f K]
  show _ = fin R20 (Run Q K ⟨(19,.bool false) :: V20 d f d.length,[],O19 (ks ++ []),nx19 (ks ++ []) + 16⟩)
  rw [List.append_nil]
 | a :: r,ks,f,i,hdr,hi,hk=>by
  simp only [List.length_cons] at hi
  have hg : d[i]? = some a := by
   have := congrArg (·[0]?) hdr
   simpa [List.getElem?_drop] using this
  have hd' : d.drop (i + 1) = r := by
   have := congrArg (List.drop 1) hdr
   simpa [List.drop_drop] using this
  rw [c20_step d hd hl ks (by omega) f i a hg K,kidsV_cons]
  cases ho : oidS a.1 with
  | none=>rfl
  | some out =>
   have ih := c20_loop d hd hl K r (ks ++ [kidV out a.2]) (if textB a.2 = true then f else 31) (i + 1) hd' (by omega) (by simp [hk])
   simp only
   rw [ih,flag_cons]
   cases kidsV r with
   | none=>rfl
   | some l=>simp only [List.append_assoc,List.cons_append,List.nil_append]
theorem c20 (d : Dn) (hl : okLens d) : Call Q 68 [.sl 2 (attrs d)] = some (.tup [dnVal d,.int .i64 (dnE d)]) := by
 have hal := attrs_length d
 have hlen := hl.1
 unfold dnVal
 rw [Call_fn Q (m := m68) rfl rfl]
 by_cases h1 : 16 < d.length
 ·have d1 : decide (16 < (d.length : Int)) = true := by simp; omega
  have e : dnE d = 30 := by unfold dnE; rw [if_pos h1]
  rw [e,if_neg (by decide)]
  simp (maxSteps := 4000000) (disch := first | omega | exact ok_of (by kernel_rfl) | decide) only [bA.u,seval,cut,if_pos,if_neg,m68,d1,hal,zero5]
 have d1 : decide (16 < (d.length : Int)) = false := by simp; omega
 obtain ⟨rhs,hr⟩ : ∃ x,x = some (MV.tup [if dnE d = 0 then .agg [.int .i64 0,.int .i64 16,.bool true,.nilsl,kidsM ((kidsV d).getD [])] else .agg zero5,.int .i64 (dnE d)]) := ⟨_,rfl⟩
 rw [← hr]
 simp (maxSteps := 4000000) (disch := first | omega | exact ok_of (by kernel_rfl) | decide) only [bA.u,seval,cut,if_pos,if_neg,m68,d1,hal,Run_loop]
 refine (congrArg (fin _) (RunL_canon (canon_cong (V := V20 d 0 (0 : Nat)) (O := O19 []) (nx := nx19 []) (by kernel_rfl) (by kernel_rfl) (by kernel_rfl)))).trans ?_
 refine (c20_loop d (by omega) hl _ d [] 0 0 rfl (by simp) rfl).trans ?_
 rw [hr]
 cases hk : kidsV d with
 | none =>
  have e : dnE d = 30 := by unfold dnE; rw [if_neg h1,hk]
  rw [e,if_neg (by decide)]
  all_goals rfl
 | some l =>
  simp only [List.nil_append]
  cases ha : d.any fun a=>!textB a.2
  ·have e : dnE d = 0 := by unfold dnE; rw [if_neg h1,hk]; simp only [ha]; rfl
   have ef : flagR 0 d = 0 := by unfold flagR; rw [ha]; rfl
   rw [e,ef,if_pos rfl]
   cases l with
   | nil =>
    simp (maxSteps := 4000000) (disch := first | omega | exact ok_of (by kernel_rfl) | decide) only [bA.u,seval,cut,if_pos,if_neg,V20,O19,nx19,R20,hal,zero5,kidsM]
   | cons k ks =>
    simp (maxSteps := 4000000) (disch := first | omega | exact ok_of (by kernel_rfl) | decide) only [bA.u,seval,cut,if_pos,if_neg,V20,O19,nx19,R20,hal,zero5,kidsM]
  ·have e : dnE d = 31 := by unfold dnE; rw [if_neg h1,hk]; simp only [ha]; rfl
   have ef : flagR 0 d = 31 := by unfold flagR; rw [ha]; rfl
   rw [e,ef,if_neg (by decide)]
   cases l with
   | nil =>
    simp (maxSteps := 4000000) (disch := first | omega | exact ok_of (by kernel_rfl) | decide) only [bA.u,seval,cut,if_pos,if_neg,V20,O19,nx19,R20,hal,zero5,kidsM]
   | cons k ks =>
    simp (maxSteps := 4000000) (disch := first | omega | exact ok_of (by kernel_rfl) | decide) only [bA.u,seval,cut,if_pos,if_neg,V20,O19,nx19,R20,hal,zero5,kidsM]
def R22 : List (Nat × Option (Bool × Nat) × PK) := [(4,none,.other)]
def V22 (a b : Dn) (i : Int) : List (Nat × MV) := [(0,.sl 2 (attrs a)),(1,.sl 2 (attrs b)),(5,.int .i64 i)]
def K22 : List Item := [.blk 0,.code (.seq (.rg [⟨some (.v 4),.mv (.c (.bool true)),none⟩]) .ret)]
theorem c22_loop (a b : Dn) (hl : a.length < 1000000) (hb : b.length = a.length) : ∀ (r q : Dn) (i : Nat),a.drop i = r→b.drop i = q→i + r.length = a.length →
  fin R22 (RunL Q m12k0 m12b0 K22 ⟨V22 a b i,[],[],1⟩) = some (.bool (decide (r = q)))
 | [],q,i,hd,hq,hi=>by
  have hi' : i = a.length := by simpa using hi
  subst hi'
  have hq' : q = [] := by rw [← hq,List.drop_eq_nil_of_le (by omega)]
  subst hq'
  have la := attrs_length a
  have hlt : decide ((a.length : Int) < (a.length : Int)) = false := by simp
  obtain ⟨b',hb'⟩ : ∃ b',b' = m12b0 := ⟨_,rfl⟩
  rw [RunL_eq,show Item.lp m12k0 m12b0 = Item.lp m12k0 b' by rw [hb']]
  simp (maxSteps := 4000000) (disch := first | omega | exact ok_of (by kernel_rfl) | decide) only [bA.u,seval,cut,if_pos,if_neg,m12b0,V22,R22,K22,hlt,la]
 | x :: r,[],i,hd,hq,hi=>by
  simp only [List.length_cons] at hi
  have := List.drop_eq_nil_iff.1 hq
  omega
 | x :: r,y :: q,i,hd,hq,hi=>by
  simp only [List.length_cons] at hi
  have hlt : decide ((i : Int) < (a.length : Int)) = true := by simp; omega
  have i0 : (0 : Int) ≤ (i : Int) := by omega
  have i1 : (i : Int) < (a.length : Int) := by omega
  have hg : a[i]? = some x := by
   have := congrArg (·[0]?) hd
   simpa [List.getElem?_drop] using this
  have hg2 : b[i]? = some y := by
   have := congrArg (·[0]?) hq
   simpa [List.getElem?_drop] using this
  have ga := attrs_get hg
  have gb := attrs_get hg2
  have la := attrs_length a
  have lb := (attrs_length b).trans hb
  have hd' : a.drop (i + 1) = r := by
   have := congrArg (List.drop 1) hd
   simpa [List.drop_drop] using this
  have hq' : b.drop (i + 1) = q := by
   have := congrArg (List.drop 1) hq
   simpa [List.drop_drop] using this
  have ih := c22_loop a b hl hb r q (i + 1) hd' hq' (by omega)
  have e : ((i : Int) + 1) = ((i + 1 : Nat) : Int) := by omega
  obtain ⟨x1,x2⟩ := x
  obtain ⟨y1,y2⟩ := y
  obtain ⟨b',hb'⟩ : ∃ b',b' = m12b0 := ⟨_,rfl⟩
  rw [RunL_eq,show Item.lp m12k0 m12b0 = Item.lp m12k0 b' by rw [hb']]
  cases h1 : (x1 == y1)
  ·have hne : decide ((x1,x2) :: r = (y1,y2) :: q) = false := by
    have : x1 ≠ y1 := by simpa using h1
    simp [this]
   rw [hne]
   simp (maxSteps := 4000000) (disch := first | omega | exact ok_of (by kernel_rfl) | decide) only [bA.u,seval,cut,if_pos,if_neg,m12b0,V22,R22,K22,hlt,i0,i1,la,lb,ga,gb,h1,eqCells]
  ·cases h2 : (x2 == y2)
   ·have hne : decide ((x1,x2) :: r = (y1,y2) :: q) = false := by
     have : x2 ≠ y2 := by simpa using h2
     simp [this]
    rw [hne]
    simp (maxSteps := 4000000) (disch := first | omega | exact ok_of (by kernel_rfl) | decide) only [bA.u,seval,cut,if_pos,if_neg,m12b0,V22,R22,K22,hlt,i0,i1,la,lb,ga,gb,h1,eqCells,h2]
   ·have he : decide ((x1,x2) :: r = (y1,y2) :: q) = decide (r = q) := by
     have e1 : x1 = y1 := by simpa using h1
     have e2 : x2 = y2 := by simpa using h2
     simp [e1,e2]
    rw [he]
    obtain ⟨rhs,hr⟩ : ∃ x,x = decide (r = q) := ⟨_,rfl⟩
    rw [← hr]
    simp (maxSteps := 4000000) (disch := first | omega | exact ok_of (by kernel_rfl) | decide) only [bA.u,seval,cut,if_pos,if_neg,m12b0,V22,R22,K22,hlt,i0,i1,la,lb,ga,gb,h1,eqCells,h2]
    subst hb'
    refine ((congrArg (fin _) (Run_lp Q _ _ _ _)).trans ?_)
    rw [hr,← ih]
    exact congrArg (fin R22) (RunL_canon (canon_cong (Eq.trans (by kernel_rfl) (show [(0,MV.sl 2 (attrs a)),(1,.sl 2 (attrs b)),(5,.int .i64 ((i : Int) + 1))] = V22 a b (i + 1 : Nat) from by rw [e]; rfl)) (by kernel_rfl) (by kernel_rfl)))
theorem c22 (a b : Dn) (hl : a.length < 1000000) : Call Q 12 [.sl 2 (attrs a),.sl 2 (attrs b)] = some (.bool (decide (a = b))) := by
 have la := attrs_length a
 have lb := attrs_length b
 rw [Call_fn Q (m := m12) rfl rfl]
 by_cases hb : b.length = a.length
 ·have hn : ((a.length : Int) != (b.length : Int)) = false := by rw [hb]; exact bne_self_eq_false _
  rw [← c22_loop a b hl hb a b 0 rfl rfl (by omega)]
  simp (maxSteps := 4000000) (disch := first | omega | exact ok_of (by kernel_rfl) | decide) only [bA.u,seval,cut,if_pos,if_neg,m12,la,lb,hn,bnn hn,Run_loop]
  exact congrArg (fin R22) (RunL_canon (canon_cong (by kernel_rfl) (by kernel_rfl) (by kernel_rfl)))
 ·have hne : decide (a = b) = false := by
   have : a ≠ b := fun h=>hb (by rw [h])
   simp [this]
  have hn : ((a.length : Int) != (b.length : Int)) = true := by rw [bne_iff_ne]; omega
  rw [hne]
  simp (maxSteps := 4000000) (disch := first | omega | exact ok_of (by kernel_rfl) | decide) only [bA.u,seval,cut,if_pos,if_neg,m12,la,lb,hn,bnt hn,Run_loop]
end Go.Mini.Nm
namespace Go.Mini.Nm
open Go Go.Mini Go.Proofs.YtaehaajckndejaaGreatDoor
set_option maxRecDepth 100000
set_option maxHeartbeats 4000000
def gM (k : Int) (t : List UInt8) (dv : MV) : MV := .agg [.int .i64 k,.str t,dv]
def isDir (dv : MV) (d : Dn) : Prop := dv = .sl 2 (attrs d) ∨ dv = .nilsl ∧ d = []
def oneB (x : UInt8) (j : Nat) : Bool := x >>> UInt8.ofNat j &&& 1 == 1
def maskR (m : List UInt8) : Nat→Bool→Nat→Bool
 | 0,_,_=>true
 | k + 1,over,i=>if (oneB (m.getD (i / 8) 0) (7 - i % 8) && over) = true then false else maskR m k (over || !oneB (m.getD (i / 8) 0) (7 - i % 8)) (i + 1)
def maskB (m : List UInt8) : Bool := maskR m (8 * m.length) false 0
theorem odd_all : ∀ x : Fin 256,(((UInt8.ofNat x.val).toNat : Int) % 2 == 1) = (UInt8.ofNat x.val &&& 1 == 1) := by decide +kernel
theorem odd8 (x : UInt8) : ((x.toNat : Int) % 2 == 1) = (x &&& 1 == 1) := by
 have := odd_all ⟨x.toNat,x.toNat_lt⟩
 simp only [UInt8.ofNat_toNat] at this
 exact this
theorem wU (y : UInt8) : IntKind.i64.wrap (y.toNat : Int) = (y.toNat : Int) := w64 (by omega) (by have := y.toNat_lt; omega)
theorem odd8t (y : UInt8) : ((y.toNat : Int).tmod 2 == 1) = (y &&& 1 == 1) := by
 rw [Int.tmod_eq_emod_of_nonneg (by omega),odd8]
theorem odd8m (x : UInt8) : ((x.toNat : Int) % 2 == 1) = (x &&& 1 == 1) := by rw [← odd8t,Int.tmod_eq_emod_of_nonneg (by omega)]
def rightB (k : Int) (t : List UInt8) (d : Dn) (lim : Bool) : Bool :=
 if k = 4 then lim || decide (0 < d.length)
 else if k = 7 then (if lim = true then (decide (t.length = 8) || decide (t.length = 32)) && maskB (t.drop (t.length / 2)) else decide (t.length = 4) || decide (t.length = 16))
 else (decide (0 < t.length) || lim) && decide (t.length ≤ 64) && !(t.any fun c=>decide (128 ≤ c.toNat))
def kindB (k : Int) : Bool := k == 1 || k == 2 || k == 4 || k == 6 || k == 7
theorem c73 (k : Int) : Call Q 67 [.int .i64 k] = some (.bool (kindB k)) := by
 unfold kindB
 rw [Call_fn Q (m := m67) rfl rfl]
 cases h1 : (k == 1)
 ·cases h2 : (k == 2)
  ·cases h4 : (k == 4)
   ·cases h6 : (k == 6)
    ·simp (maxSteps := 4000000) (disch := first | omega | exact ok_of (by kernel_rfl) | decide) only [bA.u,seval,cut,if_pos,if_neg,m67,h1,h2,h4,h6]
    ·simp (maxSteps := 4000000) (disch := first | omega | exact ok_of (by kernel_rfl) | decide) only [bA.u,seval,cut,if_pos,if_neg,m67,h1,h2,h4,h6]
   ·simp (maxSteps := 4000000) (disch := first | omega | exact ok_of (by kernel_rfl) | decide) only [bA.u,seval,cut,if_pos,if_neg,m67,h1,h2,h4]
  ·simp (maxSteps := 4000000) (disch := first | omega | exact ok_of (by kernel_rfl) | decide) only [bA.u,seval,cut,if_pos,if_neg,m67,h1,h2]
 ·simp (maxSteps := 4000000) (disch := first | omega | exact ok_of (by kernel_rfl) | decide) only [bA.u,seval,cut,if_pos,if_neg,m67,h1]
theorem c42 (k : Int) : Call Q 55 [.int .i64 k] = some (.bool (kindB k)) := by
 unfold kindB
 rw [Call_fn Q (m := m55) rfl rfl]
 cases h1 : (k == 1)
 ·cases h2 : (k == 2)
  ·cases h4 : (k == 4)
   ·cases h6 : (k == 6)
    ·simp (maxSteps := 4000000) (disch := first | omega | exact ok_of (by kernel_rfl) | decide) only [bA.u,seval,cut,if_pos,if_neg,m55,h1,h2,h4,h6]
    ·simp (maxSteps := 4000000) (disch := first | omega | exact ok_of (by kernel_rfl) | decide) only [bA.u,seval,cut,if_pos,if_neg,m55,h1,h2,h4,h6]
   ·simp (maxSteps := 4000000) (disch := first | omega | exact ok_of (by kernel_rfl) | decide) only [bA.u,seval,cut,if_pos,if_neg,m55,h1,h2,h4]
  ·simp (maxSteps := 4000000) (disch := first | omega | exact ok_of (by kernel_rfl) | decide) only [bA.u,seval,cut,if_pos,if_neg,m55,h1,h2]
 ·simp (maxSteps := 4000000) (disch := first | omega | exact ok_of (by kernel_rfl) | decide) only [bA.u,seval,cut,if_pos,if_neg,m55,h1]
def R74 : List (Nat × Option (Bool × Nat) × PK) := [(4,none,.other)]
def O74 (k : Int) (t : List UInt8) (dv : MV) : List (Nat × Obj) := [(0,.cells [.int .i64 k,.str t,dv])]
def V74 (n : Int) (over : Bool) (i : Int) : List (Nat × MV) := [(2,.ptr 0 0),(5,.int .i64 n),(6,.bool over),(7,.int .i64 i)]
theorem c74_mask (kk : Int) (t : List UInt8) (dv : MV) (dd : Dn) (hdv : isDir dv dd) (ht : t.length = 8 ∨ t.length = 32) (K : List Item) : ∀ (k : Nat) (over : Bool) (i : Nat),i + k = 4 * t.length →
  fin R74 (RunL Q m69k0 m69b0 (.blk 0 :: .code (.seq (.rg [⟨some (.v 4),.mv (.c (.bool true)),none⟩]) .ret) :: K) ⟨V74 t.length over i,[],O74 kk t dv,2⟩) = some (.bool (maskR (t.drop (t.length / 2)) k over i))
 | 0,over,i,hi=>by
  have hi' : i = 4 * t.length := by omega
  subst hi'
  have hlt : decide (((4 * t.length : Nat) : Int) < 4 * (t.length : Int)) = false := by simp
  obtain ⟨b',hb'⟩ : ∃ b',b' = m69b0 := ⟨_,rfl⟩
  rw [RunL_eq,show Item.lp m69k0 m69b0 = Item.lp m69k0 b' by rw [hb']]
  simp (maxSteps := 4000000) (disch := first | omega | exact ok_of (by kernel_rfl) | decide) only [bA.u,seval,cut,if_pos,if_neg,m69b0,V74,O74,R74,hlt]
  all_goals rfl
 | k + 1,over,i,hi=>by
  have hlt : decide ((i : Int) < 4 * (t.length : Int)) = true := by simp; omega
  have i0 : (0 : Int) ≤ (i : Int) := by omega
  have e : ((i : Int) + 1) = ((i + 1 : Nat) : Int) := by omega
  have ei : (t.length : Int) / 2 + (i : Int) / 8 = ((t.length / 2 + i / 8 : Nat) : Int) := by omega
  have j0 : (0 : Int) ≤ ((t.length / 2 + i / 8 : Nat) : Int) := by omega
  have j1 : ((t.length / 2 + i / 8 : Nat) : Int) < (t.length : Int) := by omega
  have hgd : t.getD (t.length / 2 + i / 8) 0 = (t.drop (t.length / 2)).getD (i / 8) 0 := by
   rw [List.getD_eq_getElem?_getD,List.getD_eq_getElem?_getD,List.getElem?_drop]
  have es : (7 - (i : Int) % 8).toNat = 7 - i % 8 := by omega
  have i7 : (0 : Int) ≤ 7 - (i : Int) % 8 := by omega
  have i8 : 7 - (i : Int) % 8 < 8 := by omega
  have tm8 : (i : Int).tmod 8 = (i : Int) % 8 := Int.tmod_eq_emod_of_nonneg i0
  have tdl : (t.length : Int).tdiv 2 = (t.length : Int) / 2 := Int.tdiv_eq_ediv_of_nonneg (by omega)
  have tdi : (i : Int).tdiv 8 = (i : Int) / 8 := Int.tdiv_eq_ediv_of_nonneg i0
  unfold maskR oneB
  generalize hx : (t.drop (t.length / 2)).getD (i / 8) 0 = x at hgd
  have ih := fun over'=>c74_mask kk t dv dd hdv ht K k over' (i + 1) (by omega)
  obtain ⟨b',hb'⟩ : ∃ b',b' = m69b0 := ⟨_,rfl⟩
  rw [RunL_eq,show Item.lp m69k0 m69b0 = Item.lp m69k0 b' by rw [hb']]
  cases h1 : (x >>> UInt8.ofNat (7 - i % 8) &&& 1 == 1)
  ·rw [Bool.false_and,if_neg (by decide),Bool.not_false,Bool.or_true,← ih true]
   cases over
   ·simp (maxSteps := 4000000) (disch := first | omega | exact ok_of (by kernel_rfl) | decide) only [bA.u,seval,cut,if_pos,if_neg,m69b0,V74,O74,R74,hlt,i0,ei,j0,j1,hgd,es,i7,i8,tm8,tdl,tdi,wU,odd8t,odd8m,h1]
    subst hb'
    refine ((congrArg (fin _) (Run_lp Q _ _ _ _)).trans ?_)
    rcases hdv with rfl | ⟨rfl,rfl⟩ <;> exact congrArg (fin R74) (RunL_canon (canon_cong (Eq.trans (by kernel_rfl) (show [(2,MV.ptr 0 0),(5,.int .i64 (t.length : Int)),(6,.bool true),(7,.int .i64 ((i : Int) + 1))] = V74 t.length true (i + 1 : Nat) from by rw [e]; rfl)) (by kernel_rfl) (by kernel_rfl)))
   ·simp (maxSteps := 4000000) (disch := first | omega | exact ok_of (by kernel_rfl) | decide) only [bA.u,seval,cut,if_pos,if_neg,m69b0,V74,O74,R74,hlt,i0,ei,j0,j1,hgd,es,i7,i8,tm8,tdl,tdi,wU,odd8t,odd8m,h1]
    subst hb'
    refine ((congrArg (fin _) (Run_lp Q _ _ _ _)).trans ?_)
    rcases hdv with rfl | ⟨rfl,rfl⟩ <;> exact congrArg (fin R74) (RunL_canon (canon_cong (Eq.trans (by kernel_rfl) (show [(2,MV.ptr 0 0),(5,.int .i64 (t.length : Int)),(6,.bool true),(7,.int .i64 ((i : Int) + 1))] = V74 t.length true (i + 1 : Nat) from by rw [e]; rfl)) (by kernel_rfl) (by kernel_rfl)))
  ·cases over
   ·rw [Bool.and_false,if_neg (by decide),Bool.not_true,Bool.or_false,← ih false]
    simp (maxSteps := 4000000) (disch := first | omega | exact ok_of (by kernel_rfl) | decide) only [bA.u,seval,cut,if_pos,if_neg,m69b0,V74,O74,R74,hlt,i0,ei,j0,j1,hgd,es,i7,i8,tm8,tdl,tdi,wU,odd8t,odd8m,h1]
    subst hb'
    refine ((congrArg (fin _) (Run_lp Q _ _ _ _)).trans ?_)
    rcases hdv with rfl | ⟨rfl,rfl⟩ <;> exact congrArg (fin R74) (RunL_canon (canon_cong (Eq.trans (by kernel_rfl) (show [(2,MV.ptr 0 0),(5,.int .i64 (t.length : Int)),(6,.bool false),(7,.int .i64 ((i : Int) + 1))] = V74 t.length false (i + 1 : Nat) from by rw [e]; rfl)) (by kernel_rfl) (by kernel_rfl)))
   ·rw [Bool.and_true,if_pos rfl]
    simp (maxSteps := 4000000) (disch := first | omega | exact ok_of (by kernel_rfl) | decide) only [bA.u,seval,cut,if_pos,if_neg,m69b0,V74,O74,R74,hlt,i0,ei,j0,j1,hgd,es,i7,i8,tm8,tdl,tdi,wU,odd8t,odd8m,h1]
end Go.Mini.Nm
namespace Go.Mini.Nm
open Go Go.Mini Go.Proofs.YtaehaajckndejaaGreatDoor
set_option maxRecDepth 100000
set_option maxHeartbeats 4000000
def idxP (P : UInt8→Bool) : List UInt8→Nat→Int
 | [],_=>-1
 | c :: r,i=>if P c = true then i else idxP P r (i + 1)
theorem idxP_any (P : UInt8→Bool) : ∀ (r : List UInt8) (i : Nat),decide ((0 : Int) ≤ idxP P r i) = r.any P
 | [],i=>rfl
 | c :: r,i=>by
  unfold idxP
  rw [List.any_cons]
  cases hp : P c
  ·rw [if_neg (by decide),Bool.false_or]; exact idxP_any P r (i + 1)
  ·rw [if_pos rfl,Bool.true_or]; simp
def R124 : List (Nat × Option (Bool × Nat) × PK) := [(6,none,.other)]
def V124 (f : Nat) : List (Nat × MV) := [(1,.fn f []),(2,.bool true),(10,.ptr 0 0)]
def K124 : List Item := [.blk 0,.code (.seq (.rg [⟨some (.v 6),.mv (.c (.int .i64 (-1))),none⟩]) .ret)]
def Fits (f : Nat) (P : UInt8→Bool) (s : List UInt8) : Prop := ∀ (i : Nat) (c : UInt8),s[i]? = some c→Call Q f [.int .i32 ((Utf8.decode ⟨s.toArray⟩ i).1 : Int)] = some (.bool (P c)) ∧ (P c = false→(Utf8.decode ⟨s.toArray⟩ i).2 = 1)
theorem c124_loop (f : Nat) (P : UInt8→Bool) (s : List UInt8) (hs : s.length < 1000000) (hf : Fits f P s) : ∀ (r : List UInt8) (i : Nat),s.drop i = r→i + r.length = s.length →
  fin R124 (RunL Q m132k0 m132b0 K124 ⟨V124 f,[],[(0,.iter s i)],2⟩) = some (.int .i64 (idxP P r i))
 | [],i,hd,hi=>by
  have hi' : i = s.length := by simpa using hi
  subst hi'
  have hlt : (s.length < s.length) = False := by simp
  obtain ⟨b',hb'⟩ : ∃ b',b' = m132b0 := ⟨_,rfl⟩
  rw [RunL_eq,show Item.lp m132k0 m132b0 = Item.lp m132k0 b' by rw [hb']]
  simp (maxSteps := 4000000) (disch := first | omega | exact ok_of (by kernel_rfl) | decide) only [bA.u,seval,cut,if_pos,if_neg,m132b0,V124,R124,K124,hlt]
  all_goals rfl
 | c :: r,i,hd,hi=>by
  simp only [List.length_cons] at hi
  have hlt : decide ((i : Int) < (s.length : Int)) = true := by simp; omega
  have i0 : (0 : Int) ≤ (i : Int) := by omega
  have i1 : (i : Int) < (s.length : Int) := by omega
  have hg : s[i]? = some c := by
   have := congrArg (·[0]?) hd
   simpa [List.getElem?_drop] using this
  have hg' : s.getD i 0 = c := by rw [List.getD_eq_getElem?_getD,hg]; rfl
  have hd' : s.drop (i + 1) = r := by
   have := congrArg (List.drop 1) hd
   simpa [List.drop_drop] using this
  have hlt2 : (i < s.length) = True := eq_true (by omega)
  obtain ⟨h1,h2⟩ := hf i c hg
  have ih := c124_loop f P s hs hf r (i + 1) hd' (by omega)
  unfold idxP
  obtain ⟨b',hb'⟩ : ∃ b',b' = m132b0 := ⟨_,rfl⟩
  rw [RunL_eq,show Item.lp m132k0 m132b0 = Item.lp m132k0 b' by rw [hb']]
  cases hp : P c
  ·rw [hp] at h1
   have hw := h2 hp
   rw [if_neg (by decide)]
   obtain ⟨rhs,hr⟩ : ∃ y,y = idxP P r (i + 1) := ⟨_,rfl⟩
   rw [← hr]
   simp (maxSteps := 4000000) (disch := first | omega | exact ok_of (by kernel_rfl) | decide) only [bA.u,seval,cut,if_pos,if_neg,m132b0,V124,R124,K124,hlt2,h1,hw]
   subst hb'
   refine ((congrArg (fin _) (Run_lp Q _ _ _ _)).trans ?_)
   rw [hr,← ih]
   exact congrArg (fin R124) (RunL_canon (canon_cong (by kernel_rfl) (by kernel_rfl) (by kernel_rfl)))
  ·rw [hp] at h1
   rw [if_pos rfl]
   simp (maxSteps := 4000000) (disch := first | omega | exact ok_of (by kernel_rfl) | decide) only [bA.u,seval,cut,if_pos,if_neg,m132b0,V124,R124,K124,hlt2,h1]
theorem c124 (f : Nat) (P : UInt8→Bool) (s : List UInt8) (hs : s.length < 1000000) (hf : Fits f P s) : Call Q 132 [.str s,.fn f [],.bool true] = some (.int .i64 (idxP P s 0)) := by
 rw [Call_fn Q (m := m132) rfl rfl,← c124_loop f P s hs hf s 0 rfl (by omega)]
 simp (maxSteps := 4000000) (disch := first | omega | exact ok_of (by kernel_rfl) | decide) only [bA.u,seval,cut,if_pos,if_neg,m132,Run_loop]
 exact congrArg (fin R124) (RunL_canon (canon_cong (by kernel_rfl) (by kernel_rfl) (by kernel_rfl)))
theorem c65 (f : Nat) (P : UInt8→Bool) (s : List UInt8) (hs : s.length < 1000000) (hf : Fits f P s) : Call Q 59 [.str s,.fn f []] = some (.bool (s.any P)) := by
 have h := c124 f P s hs hf
 have h96 : Call Q 85 [.str s,.fn f []] = some (.int .i64 (idxP P s 0)) := by
  rw [Call_fn Q (m := m85) rfl rfl]
  simp (maxSteps := 4000000) (disch := first | omega | exact ok_of (by kernel_rfl) | decide) only [bA.u,seval,cut,if_pos,if_neg,m85,h]
 have h0 := idxP_any P s 0
 rw [Call_fn Q (m := m59) rfl rfl]
 simp (maxSteps := 4000000) (disch := first | omega | exact ok_of (by kernel_rfl) | decide) only [bA.u,seval,cut,if_pos,if_neg,m59,h96,h0]
def high (c : UInt8) : Bool := decide (128 ≤ c.toNat)
def badC (c : UInt8) : Bool := !okC c
theorem c78 (n : Int) : Call Q 83 [.int .i32 n] = some (.bool (decide (128 ≤ n))) := by
 rw [Call_fn Q (m := m83) rfl rfl]
 simp (maxSteps := 4000000) (disch := first | omega | exact ok_of (by kernel_rfl) | decide) only [bA.u,seval,cut,if_pos,if_neg,m83]
theorem letters : ((List.range 128).all fun c=>isB (callF Q 40 60 [.int .i32 (c : Int)]) (badC (UInt8.ofNat c))) = true := by kernel_rfl
theorem decodeN_high (n b0 b1 b2 b3 : Nat) (h : 128 ≤ b0) : 128 ≤ (Lib.decodeN n b0 b1 b2 b3).1 := by
 unfold Lib.decodeN
 repeat' split
 all_goals simp only
 all_goals omega
theorem dec_at {s : List UInt8} {i : Nat} {c : UInt8} (h : s[i]? = some c) : (c.toNat < 128→Utf8.decode ⟨s.toArray⟩ i = (c.toNat,1)) ∧ (128 ≤ c.toNat→128 ≤ (Utf8.decode ⟨s.toArray⟩ i).1) := by
 have hg : s.getD i 0 = c := by rw [List.getD_eq_getElem?_getD,h]; rfl
 have e : Utf8.decode ⟨s.toArray⟩ i = Lib.decodeN (s.length - i) (s.getD i 0).toNat (s.getD (i + 1) 0).toNat (s.getD (i + 2) 0).toNat (s.getD (i + 3) 0).toNat := Lib.decode_N ⟨s.toArray⟩ i
 rw [e,hg]
 refine ⟨fun hc=>?_,fun hc=>decodeN_high _ _ _ _ _ hc⟩
 unfold Lib.decodeN
 rw [if_pos hc]
theorem fits_high (s : List UInt8) : Fits 83 high s := by
 intro i c h
 obtain ⟨h1,h2⟩ := dec_at h
 rw [c78]
 unfold high
 by_cases hc : c.toNat < 128
 ·have e := h1 hc
  refine ⟨?_,fun _=>by rw [e]⟩
  rw [e]
  have : decide ((128 : Int) ≤ ((c.toNat : Nat) : Int)) = decide (128 ≤ c.toNat) := by rw [Bool.eq_iff_iff]; simp; omega
  rw [this]
 ·have := h2 (by omega)
  rw [decide_eq_true (show (128 : Int) ≤ ((Utf8.decode ⟨s.toArray⟩ i).1 : Int) by omega),decide_eq_true (show 128 ≤ c.toNat by omega)]
  exact ⟨rfl,fun h=>by cases h⟩
theorem fits_bad (s : List UInt8) (hs : s.any high = false) : Fits 60 badC s := by
 intro i c h
 obtain ⟨h1,h2⟩ := dec_at h
 have hc : c.toNat < 128 := by
  have := List.any_eq_false.1 hs c (List.mem_of_getElem? h)
  unfold high at this
  simpa using this
 have e := h1 hc
 refine ⟨?_,fun _=>by rw [e]⟩
 rw [e]
 have := List.all_eq_true.1 letters c.toNat (List.mem_range.2 hc)
 have := isB_ok this
 rw [UInt8.ofNat_toNat] at this
 exact Call_iff.2 ⟨40,this⟩
def R29 : List (Nat × Option (Bool × Nat) × PK) := [(2,none,.other)]
def V29 (n i : Nat) : List (Nat × MV) := [(3,.own 0 n),(8,.own 0 n),(9,.int .i64 (n : Int)),(10,.int .i64 (i : Int))]
def K29 : List Item := [.blk 0,.code (.seq (.rg [⟨some (.t 28),.mv (.v 3),none⟩,⟨some (.t 29),.b2s (.t 28),none⟩,⟨some (.v 2),.mv (.t 29),none⟩]) .ret)]
theorem c29_loop : ∀ (r : List UInt8) (b : List UInt8) (i : Nat),b.length < 1000000→b.drop i = r→i + r.length = b.length →
  fin R29 (RunL Q m37k0 m37b0 K29 ⟨V29 b.length i,[],[(0,.byt b false)],2⟩) = some (.str (b.take i ++ r.map smallB))
 | [],b,i,hb,hd,hi=>by
  have hi' : i = b.length := by simpa using hi
  subst hi'
  have hlt : decide ((b.length : Int) < (b.length : Int)) = false := by simp
  rw [List.take_length,List.map_nil,List.append_nil]
  obtain ⟨b',hb'⟩ : ∃ b',b' = m37b0 := ⟨_,rfl⟩
  rw [RunL_eq,show Item.lp m37k0 m37b0 = Item.lp m37k0 b' by rw [hb']]
  simp (maxSteps := 4000000) (disch := first | omega | exact ok_of (by kernel_rfl) | decide) only [bA.u,seval,cut,if_pos,if_neg,m37b0,V29,R29,K29,hlt]
 | c :: r,b,i,hb,hd,hi=>by
  simp only [List.length_cons] at hi
  have hlt : decide ((i : Int) < (b.length : Int)) = true := by simp; omega
  have i0 : (0 : Int) ≤ (i : Int) := by omega
  have i1 : (i : Int) < (b.length : Int) := by omega
  have hg : b[i]? = some c := by
   have := congrArg (·[0]?) hd
   simpa [List.getElem?_drop] using this
  have hg' : b.getD i 0 = c := by rw [List.getD_eq_getElem?_getD,hg]; rfl
  have hd' : b.drop (i + 1) = r := by
   have := congrArg (List.drop 1) hd
   simpa [List.drop_drop] using this
  have e : ((i : Int) + 1) = ((i + 1 : Nat) : Int) := by omega
  have hin : i < b.length := by omega
  have ht : b.take (i + 1) = b.take i ++ [c] := by rw [List.take_add_one,hg]; rfl
  have hcl := c.toNat_lt
  by_cases h1 : 65 ≤ c.toNat ∧ c.toNat ≤ 90
  ·have q1 : decide ((65 : Int) ≤ (c.toNat : Int)) = true := by simp; omega
   have q2 : decide ((c.toNat : Int) ≤ 90) = true := by simp; omega
   have e32 : (c.toNat : Int) + 32 = ((smallB c).toNat : Int) := by
    unfold smallB
    rw [if_pos h1,UInt8.toNat_add]
    have : (32 : UInt8).toNat = 32 := rfl
    omega
   have e32b : 32 + (c.toNat : Int) = ((smallB c).toNat : Int) := by omega
   have hl2 : (b.set i (smallB c)).length = b.length := List.length_set
   have hd2 : (b.set i (smallB c)).drop (i + 1) = r := by rw [List.drop_set,if_pos (by omega),hd']
   have ht2 : (b.set i (smallB c)).take (i + 1) = b.take i ++ [smallB c] := by
    rw [List.take_add_one,List.getElem?_set_self hin,List.take_set,List.set_eq_of_length_le (by rw [List.length_take]; omega)]
    all_goals rfl
   have ih := c29_loop r (b.set i (smallB c)) (i + 1) (by omega) hd2 (by omega)
   rw [ht2,hl2] at ih
   rw [List.map_cons,show b.take i ++ smallB c :: r.map smallB = b.take i ++ [smallB c] ++ r.map smallB by simp,← ih]
   obtain ⟨rhs,hr⟩ : ∃ z,z = fin R29 (RunL Q m37k0 m37b0 K29 ⟨V29 b.length (i + 1),[],[(0,.byt (b.set i (smallB c)) false)],2⟩) := ⟨_,rfl⟩
   rw [← hr]
   obtain ⟨b',hb'⟩ : ∃ b',b' = m37b0 := ⟨_,rfl⟩
   rw [RunL_eq,show Item.lp m37k0 m37b0 = Item.lp m37k0 b' by rw [hb']]
   simp (maxSteps := 4000000) (disch := first | omega | exact ok_of (by kernel_rfl) | decide) only [bA.u,seval,cut,if_pos,if_neg,m37b0,V29,R29,K29,hlt,i0,i1,hg,hg',hin,q1,q2,e32,e32b]
   subst hb'
   refine ((congrArg (fin _) (Run_lp Q _ _ _ _)).trans ?_)
   rw [hr]
   exact congrArg (fin R29) (RunL_canon (canon_cong (Eq.trans (by kernel_rfl) (show [(3,MV.own 0 b.length),(8,.own 0 b.length),(9,.int .i64 (b.length : Int)),(10,.int .i64 ((i : Int) + 1))] = V29 b.length (i + 1) from by rw [e]; rfl)) (by kernel_rfl) (by kernel_rfl)))
  ·have q1 : decide ((65 : Int) ≤ (c.toNat : Int)) = false ∨ decide ((65 : Int) ≤ (c.toNat : Int)) = true ∧ decide ((c.toNat : Int) ≤ 90) = false := by
    by_cases h2 : 65 ≤ c.toNat
    ·exact .inr ⟨by simp; omega,by simp; omega⟩
    ·exact .inl (by simp; omega)
   have hsm : smallB c = c := by unfold smallB; rw [if_neg h1]
   have ih := c29_loop r b (i + 1) hb hd' (by omega)
   rw [ht] at ih
   rw [List.map_cons,hsm,show b.take i ++ c :: r.map smallB = b.take i ++ [c] ++ r.map smallB by simp,← ih]
   obtain ⟨rhs,hr⟩ : ∃ z,z = fin R29 (RunL Q m37k0 m37b0 K29 ⟨V29 b.length (i + 1),[],[(0,.byt b false)],2⟩) := ⟨_,rfl⟩
   rw [← hr]
   obtain ⟨b',hb'⟩ : ∃ b',b' = m37b0 := ⟨_,rfl⟩
   rw [RunL_eq,show Item.lp m37k0 m37b0 = Item.lp m37k0 b' by rw [hb']]
   rcases q1 with q1 | ⟨q1,q2⟩
   ·simp (maxSteps := 4000000) (disch := first | omega | exact ok_of (by kernel_rfl) | decide) only [bA.u,seval,cut,if_pos,if_neg,m37b0,V29,R29,K29,hlt,i0,i1,hg,hg',hin,q1]
    subst hb'
    refine ((congrArg (fin _) (Run_lp Q _ _ _ _)).trans ?_)
    rw [hr]
    exact congrArg (fin R29) (RunL_canon (canon_cong (Eq.trans (by kernel_rfl) (show [(3,MV.own 0 b.length),(8,.own 0 b.length),(9,.int .i64 (b.length : Int)),(10,.int .i64 ((i : Int) + 1))] = V29 b.length (i + 1) from by rw [e]; rfl)) (by kernel_rfl) (by kernel_rfl)))
   ·simp (maxSteps := 4000000) (disch := first | omega | exact ok_of (by kernel_rfl) | decide) only [bA.u,seval,cut,if_pos,if_neg,m37b0,V29,R29,K29,hlt,i0,i1,hg,hg',hin,q1,q2]
    subst hb'
    refine ((congrArg (fin _) (Run_lp Q _ _ _ _)).trans ?_)
    rw [hr]
    exact congrArg (fin R29) (RunL_canon (canon_cong (Eq.trans (by kernel_rfl) (show [(3,MV.own 0 b.length),(8,.own 0 b.length),(9,.int .i64 (b.length : Int)),(10,.int .i64 ((i : Int) + 1))] = V29 b.length (i + 1) from by rw [e]; rfl)) (by kernel_rfl) (by kernel_rfl)))
theorem c29 (s : List UInt8) (hs : s.length < 1000000) : Call Q 37 [.str s] = some (.str (s.map smallB)) := by
 have h := c29_loop s s 0 hs rfl (by omega)
 rw [List.take_zero,List.nil_append] at h
 rw [Call_fn Q (m := m37) rfl rfl,← h]
 simp (maxSteps := 4000000) (disch := first | omega | exact ok_of (by kernel_rfl) | decide) only [bA.u,seval,cut,if_pos,if_neg,m37,Run_loop]
 exact congrArg (fin R29) (RunL_canon (canon_cong (by kernel_rfl) (by kernel_rfl) (by kernel_rfl)))
theorem c97 (s w : List UInt8) (hs : s.length < 1000000) : Call Q 86 [.str s,.str w] = some (.bool (decide (w.length ≤ s.length) && decide (s.drop (s.length - w.length) = w))) := by
 rw [Call_fn Q (m := m86) rfl rfl]
 by_cases h : w.length ≤ s.length
 ·have h1 : decide ((w.length : Int) ≤ (s.length : Int)) = true := by simp; omega
  have h2 : decide (w.length ≤ s.length) = true := by simp; omega
  have hc : cut s (some (.int .i64 ((s.length : Int) - (w.length : Int)))) none = some (s.drop (s.length - w.length)) := cut_from (by omega) (by omega)
  rw [h2,← eqStr]
  simp (maxSteps := 4000000) (disch := first | omega | exact ok_of (by kernel_rfl) | decide) only [bA.u,seval,if_pos,if_neg,m86,h1,hc]
 ·have h1 : decide ((w.length : Int) ≤ (s.length : Int)) = false := by simp; omega
  have h2 : decide (w.length ≤ s.length) = false := by simp; omega
  rw [h2]
  simp (maxSteps := 4000000) (disch := first | omega | exact ok_of (by kernel_rfl) | decide) only [bA.u,seval,cut,if_pos,if_neg,m86,h1]
theorem c67 (s w : List UInt8) (hs : s.length < 1000000) : Call Q 61 [.str s,.str w] = some (.bool (decide (w.length ≤ s.length) && decide (s.drop (s.length - w.length) = w))) := by
 have h := c97 s w hs
 rw [Call_fn Q (m := m61) rfl rfl]
 simp (maxSteps := 4000000) (disch := first | omega | exact ok_of (by kernel_rfl) | decide) only [bA.u,seval,cut,if_pos,if_neg,m61,h]
theorem c30 (s w : List UInt8) (hs : s.length < 1000000) (hw : w.length < 1000000) : Call Q 38 [.str s,.str w] = some (.bool (endsB s w)) := by
 have h1 := c29 s hs
 have h2 := c29 w hw
 have h3 := c67 (s.map smallB) (w.map smallB) (by simpa using hs)
 have e3 : (decide ((w.map smallB).length ≤ (s.map smallB).length) && decide ((s.map smallB).drop ((s.map smallB).length - (w.map smallB).length) = w.map smallB)) = (decide (w.length ≤ s.length) && alikeB (s.drop (s.length - w.length)) w) := by
  unfold alikeB
  simp only [List.length_map,List.map_drop]
 rw [e3] at h3
 unfold endsB
 rw [Call_fn Q (m := m38) rfl rfl]
 by_cases h : w.length < s.length
 ·have q1 : decide ((w.length : Int) < (s.length : Int)) = true := by simp; omega
  rw [decide_eq_true (p := w.length ≤ s.length) (by omega),Bool.true_and] at h3
  rw [decide_eq_true h,Bool.true_and]
  simp (maxSteps := 4000000) (disch := first | omega | exact ok_of (by kernel_rfl) | decide) only [bA.u,seval,cut,if_pos,if_neg,m38,q1,h1,h2,h3]
 ·have q1 : decide ((w.length : Int) < (s.length : Int)) = false := by simp; omega
  rw [decide_eq_false h,Bool.false_and]
  simp (maxSteps := 4000000) (disch := first | omega | exact ok_of (by kernel_rfl) | decide) only [bA.u,seval,cut,if_pos,if_neg,m38,q1]
end Go.Mini.Nm
