/- a certificate's names keep to limits as the document says: the law by that interpreter (part 9): what the program's functions answer, or plain laws of it; no conditions. -/
import Derived.Test.YtaehaajckndejaaGreatDoorA08
set_option linter.all false
namespace Go.Mini.Nm
open Go Go.Mini Go.Proofs.YtaehaajckndejaaGreatDoor
set_option maxRecDepth 100000
set_option maxHeartbeats 4000000
theorem high_eq : (fun c : UInt8=>decide (128 ≤ c.toNat)) = high := rfl
def U74 (lim : Bool) (n i : Int) : List (Nat × MV) := [(1,.bool lim),(2,.ptr 0 0),(5,.int .i64 n),(9,.int .i64 i)]
theorem c74_ascii (kk : Int) (t : List UInt8) (dv : MV) (dd : Dn) (hdv : isDir dv dd) (ht : t.length < 1000000) (lim : Bool) (K : List Item) : ∀ (r : List UInt8) (i : Nat),t.drop i = r→i + r.length = t.length →
  fin R74 (RunL Q m69k1 m69b1 (.blk 2 :: K) ⟨U74 lim t.length i,[],O74 kk t dv,2⟩) = if r.any high = true then some (.bool false) else fin R74 (Run Q K ⟨(72,.bool false) :: U74 lim t.length t.length,[],O74 kk t dv,14⟩)
 | [],i,hd,hi=>by
  have hi' : i = t.length := by simpa using hi
  subst hi'
  have hlt : decide ((t.length : Int) < (t.length : Int)) = false := by simp
  obtain ⟨b',hb'⟩ : ∃ b',b' = m69b1 := ⟨_,rfl⟩
  rw [RunL_eq,show Item.lp m69k1 m69b1 = Item.lp m69k1 b' by rw [hb']]
  rw [if_neg (by simp)]
  simp (maxSteps := 4000000) (disch := first | omega | exact ok_of (by kernel_rfl) | decide) only [bA.u,seval,cut,if_pos,if_neg,m69b1,U74,O74,R74,hlt]
 | c :: r,i,hd,hi=>by
  simp only [List.length_cons] at hi
  have hlt : decide ((i : Int) < (t.length : Int)) = true := by simp; omega
  have i0 : (0 : Int) ≤ (i : Int) := by omega
  have i1 : (i : Int) < (t.length : Int) := by omega
  have hg : t[i]? = some c := by
   have := congrArg (·[0]?) hd
   simpa [List.getElem?_drop] using this
  have hg' : t.getD i 0 = c := by rw [List.getD_eq_getElem?_getD,hg]; rfl
  have hd' : t.drop (i + 1) = r := by
   have := congrArg (List.drop 1) hd
   simpa [List.drop_drop] using this
  have e : ((i : Int) + 1) = ((i + 1 : Nat) : Int) := by omega
  have ih := c74_ascii kk t dv dd hdv ht lim K r (i + 1) hd' (by omega)
  have e1 : decide ((128 : Int) ≤ (c.toNat : Int)) = high c := by unfold high; rw [Bool.eq_iff_iff]; simp; omega
  rw [List.any_cons]
  obtain ⟨b',hb'⟩ : ∃ b',b' = m69b1 := ⟨_,rfl⟩
  rw [RunL_eq,show Item.lp m69k1 m69b1 = Item.lp m69k1 b' by rw [hb']]
  cases hp : high c
  ·rw [Bool.false_or,← ih]
   obtain ⟨rhs,hr⟩ : ∃ z,z = fin R74 (RunL Q m69k1 m69b1 (.blk 2 :: K) ⟨U74 lim t.length (i + 1 : Nat),[],O74 kk t dv,2⟩) := ⟨_,rfl⟩
   rw [← hr]
   simp (maxSteps := 4000000) (disch := first | omega | exact ok_of (by kernel_rfl) | decide) only [bA.u,seval,cut,if_pos,if_neg,m69b1,U74,O74,R74,hlt,i0,i1,hg',e1,hp]
   subst hb'
   refine ((congrArg (fin _) (Run_lp Q _ _ _ _)).trans ?_)
   rw [hr]
   rcases hdv with rfl | ⟨rfl,rfl⟩ <;> exact congrArg (fin R74) (RunL_canon (canon_cong (Eq.trans (by kernel_rfl) (show [(1,MV.bool lim),(2,.ptr 0 0),(5,.int .i64 (t.length : Int)),(9,.int .i64 ((i : Int) + 1))] = U74 lim t.length (i + 1 : Nat) from by rw [e]; rfl)) (by kernel_rfl) (by kernel_rfl)))
  ·rw [Bool.true_or,if_pos rfl]
   simp (maxSteps := 4000000) (disch := first | omega | exact ok_of (by kernel_rfl) | decide) only [bA.u,seval,cut,if_pos,if_neg,m69b1,U74,O74,R74,hlt,i0,i1,hg',e1,hp]
theorem c74 (k : Int) (t : List UInt8) (dv : MV) (d : Dn) (hdv : isDir dv d) (ht : t.length < 1000000) (lim : Bool) : Call Q 69 [gM k t dv,.bool lim] = some (.bool (rightB k t d lim)) := by
 have hal := attrs_length d
 have e0 : decide ((0 : Int) < (d.length : Int)) = decide (0 < d.length) := by rw [Bool.eq_iff_iff]; simp
 have e1 : decide ((0 : Int) < (t.length : Int)) = decide (0 < t.length) := by rw [Bool.eq_iff_iff]; simp
 have e2 : decide ((t.length : Int) ≤ 64) = decide (t.length ≤ 64) := by rw [Bool.eq_iff_iff]; simp; omega
 have s4 : ((t.length : Int) == 4) = decide (t.length = 4) := by rw [Bool.eq_iff_iff]; simp; omega
 have s16 : ((t.length : Int) == 16) = decide (t.length = 16) := by rw [Bool.eq_iff_iff]; simp; omega
 have s8 : ((t.length : Int) != 8) = !decide (t.length = 8) := by rw [bne,show ((t.length : Int) == 8) = decide (t.length = 8) by rw [Bool.eq_iff_iff]; simp; omega]
 have s32 : ((t.length : Int) != 32) = !decide (t.length = 32) := by rw [bne,show ((t.length : Int) == 32) = decide (t.length = 32) by rw [Bool.eq_iff_iff]; simp; omega]
 unfold rightB gM
 rw [high_eq,Call_fn Q (m := m69) rfl rfl]
 by_cases h4 : k = 4
 ·have q4 : (k == 4) = true := by rw [h4]; rfl
  rw [if_pos h4]
  rcases hdv with rfl | ⟨rfl,rfl⟩
  ·cases lim
   ·simp (maxSteps := 4000000) (disch := first | omega | exact ok_of (by kernel_rfl) | decide) only [bA.u,seval,cut,if_pos,if_neg,m69,q4,hal,e0]
   ·simp (maxSteps := 4000000) (disch := first | omega | exact ok_of (by kernel_rfl) | decide) only [bA.u,seval,cut,if_pos,if_neg,m69,q4,hal,e0]
  ·cases lim
   ·simp (maxSteps := 4000000) (disch := first | omega | exact ok_of (by kernel_rfl) | decide) only [bA.u,seval,cut,if_pos,if_neg,m69,q4,hal,e0]
   ·simp (maxSteps := 4000000) (disch := first | omega | exact ok_of (by kernel_rfl) | decide) only [bA.u,seval,cut,if_pos,if_neg,m69,q4,hal,e0]
 have q4 : (k == 4) = false := by rw [beq_eq_false_iff_ne]; exact h4
 rw [if_neg h4]
 by_cases h7 : k = 7
 ·have q7 : (k == 7) = true := by rw [h7]; rfl
  rw [if_pos h7]
  cases lim
  ·rw [if_neg (by decide)]
   cases x4 : decide (t.length = 4)
   ·simp (maxSteps := 4000000) (disch := first | omega | exact ok_of (by kernel_rfl) | decide) only [bA.u,seval,cut,if_pos,if_neg,m69,q4,q7,s4,s16,x4]
   ·simp (maxSteps := 4000000) (disch := first | omega | exact ok_of (by kernel_rfl) | decide) only [bA.u,seval,cut,if_pos,if_neg,m69,q4,q7,s4,s16,x4]
  ·rw [if_pos rfl]
   cases x8 : decide (t.length = 8)
   ·cases x32 : decide (t.length = 32)
    ·simp (maxSteps := 4000000) (disch := first | omega | exact ok_of (by kernel_rfl) | decide) only [bA.u,seval,cut,if_pos,if_neg,m69,q4,q7,s8,bnq s8,s32,bnq s32,x8,x32]
    ·have hl : t.length = 8 ∨ t.length = 32 := .inr (by simpa using x32)
     rw [Bool.or_true,Bool.true_and]
     obtain ⟨rhs,hr⟩ : ∃ z,z = some (MV.bool (maskB (t.drop (t.length / 2)))) := ⟨_,rfl⟩
     rw [← hr]
     simp (maxSteps := 4000000) (disch := first | omega | exact ok_of (by kernel_rfl) | decide) only [bA.u,seval,cut,if_pos,if_neg,m69,Run_loop,q4,q7,s8,bnq s8,s32,bnq s32,x8,x32]
     have hm := fun K=>c74_mask k t dv d hdv hl K (8 * (t.drop (t.length / 2)).length) false 0 (by rw [List.length_drop]; omega)
     rw [hr]
     rcases hdv with rfl | ⟨rfl,rfl⟩
     ·refine (congrArg (fin _) (RunL_canon (canon_cong (V := V74 t.length false (0 : Nat)) (O := O74 k t (.sl 2 (attrs d))) (nx := 2) (by kernel_rfl) (by kernel_rfl) (by kernel_rfl)))).trans ?_
      exact hm _
     ·refine (congrArg (fin _) (RunL_canon (canon_cong (V := V74 t.length false (0 : Nat)) (O := O74 k t .nilsl) (nx := 2) (by kernel_rfl) (by kernel_rfl) (by kernel_rfl)))).trans ?_
      exact hm _
   ·have hl : t.length = 8 ∨ t.length = 32 := .inl (by simpa using x8)
    rw [Bool.true_or,Bool.true_and]
    obtain ⟨rhs,hr⟩ : ∃ z,z = some (MV.bool (maskB (t.drop (t.length / 2)))) := ⟨_,rfl⟩
    rw [← hr]
    simp (maxSteps := 4000000) (disch := first | omega | exact ok_of (by kernel_rfl) | decide) only [bA.u,seval,cut,if_pos,if_neg,m69,Run_loop,q4,q7,s8,bnq s8,s32,bnq s32,x8]
    have hm := fun K=>c74_mask k t dv d hdv hl K (8 * (t.drop (t.length / 2)).length) false 0 (by rw [List.length_drop]; omega)
    rw [hr]
    rcases hdv with rfl | ⟨rfl,rfl⟩
    ·refine (congrArg (fin _) (RunL_canon (canon_cong (V := V74 t.length false (0 : Nat)) (O := O74 k t (.sl 2 (attrs d))) (nx := 2) (by kernel_rfl) (by kernel_rfl) (by kernel_rfl)))).trans ?_
     exact hm _
    ·refine (congrArg (fin _) (RunL_canon (canon_cong (V := V74 t.length false (0 : Nat)) (O := O74 k t .nilsl) (nx := 2) (by kernel_rfl) (by kernel_rfl) (by kernel_rfl)))).trans ?_
     exact hm _
 have q7 : (k == 7) = false := by rw [beq_eq_false_iff_ne]; exact h7
 rw [if_neg h7]
 obtain ⟨rhs,hr⟩ : ∃ z,z = some (MV.bool ((decide (0 < t.length) || lim) && decide (t.length ≤ 64) && !t.any high)) := ⟨_,rfl⟩
 rw [← hr]
 simp (maxSteps := 4000000) (disch := first | omega | exact ok_of (by kernel_rfl) | decide) only [bA.u,seval,cut,if_pos,if_neg,m69,Run_loop,q4,q7]
 have hasc := fun K=>c74_ascii k t dv d hdv ht lim K t 0 rfl (by omega)
 rcases hdv with rfl | ⟨rfl,rfl⟩
 ·refine (congrArg (fin _) (RunL_canon (canon_cong (V := U74 lim t.length (0 : Nat)) (O := O74 k t (.sl 2 (attrs d))) (nx := 2) (by kernel_rfl) (by kernel_rfl) (by kernel_rfl)))).trans ?_
  refine (hasc _).trans ?_
  rw [hr]
  cases ha : t.any high
  ·rw [if_neg (by decide),Bool.not_false,Bool.and_true]
   cases x1 : decide (0 < t.length)
   ·cases lim
    ·simp (maxSteps := 4000000) (disch := first | omega | exact ok_of (by kernel_rfl) | decide) only [bA.u,seval,cut,if_pos,if_neg,U74,O74,R74,e1,x1]
    ·cases x2 : decide (t.length ≤ 64)
     ·simp (maxSteps := 4000000) (disch := first | omega | exact ok_of (by kernel_rfl) | decide) only [bA.u,seval,cut,if_pos,if_neg,U74,O74,R74,e1,e2,x1,x2]
     ·simp (maxSteps := 4000000) (disch := first | omega | exact ok_of (by kernel_rfl) | decide) only [bA.u,seval,cut,if_pos,if_neg,U74,O74,R74,e1,e2,x1,x2]
   ·cases x2 : decide (t.length ≤ 64)
    ·simp (maxSteps := 4000000) (disch := first | omega | exact ok_of (by kernel_rfl) | decide) only [bA.u,seval,cut,if_pos,if_neg,U74,O74,R74,e1,e2,x1,x2]
    ·simp (maxSteps := 4000000) (disch := first | omega | exact ok_of (by kernel_rfl) | decide) only [bA.u,seval,cut,if_pos,if_neg,U74,O74,R74,e1,e2,x1,x2]
  ·rw [if_pos rfl,Bool.not_true,Bool.and_false]
 ·refine (congrArg (fin _) (RunL_canon (canon_cong (V := U74 lim t.length (0 : Nat)) (O := O74 k t .nilsl) (nx := 2) (by kernel_rfl) (by kernel_rfl) (by kernel_rfl)))).trans ?_
  refine (hasc _).trans ?_
  rw [hr]
  cases ha : t.any high
  ·rw [if_neg (by decide),Bool.not_false,Bool.and_true]
   cases x1 : decide (0 < t.length)
   ·cases lim
    ·simp (maxSteps := 4000000) (disch := first | omega | exact ok_of (by kernel_rfl) | decide) only [bA.u,seval,cut,if_pos,if_neg,U74,O74,R74,e1,x1]
    ·cases x2 : decide (t.length ≤ 64)
     ·simp (maxSteps := 4000000) (disch := first | omega | exact ok_of (by kernel_rfl) | decide) only [bA.u,seval,cut,if_pos,if_neg,U74,O74,R74,e1,e2,x1,x2]
     ·simp (maxSteps := 4000000) (disch := first | omega | exact ok_of (by kernel_rfl) | decide) only [bA.u,seval,cut,if_pos,if_neg,U74,O74,R74,e1,e2,x1,x2]
   ·cases x2 : decide (t.length ≤ 64)
    ·simp (maxSteps := 4000000) (disch := first | omega | exact ok_of (by kernel_rfl) | decide) only [bA.u,seval,cut,if_pos,if_neg,U74,O74,R74,e1,e2,x1,x2]
    ·simp (maxSteps := 4000000) (disch := first | omega | exact ok_of (by kernel_rfl) | decide) only [bA.u,seval,cut,if_pos,if_neg,U74,O74,R74,e1,e2,x1,x2]
  ·rw [if_pos rfl,Bool.not_true,Bool.and_false]
def valE (k : Int) (t : List UInt8) (d : Dn) (lim : Bool) : Int :=
 if (!kindB k || (!(k == 4) && decide (0 < d.length)) || (k == 4 && !(t == []))) = true then 30
 else if (k == 4) = true then (if dnE d = 0 then (if rightB k t d lim = true then 0 else 31) else 31)
 else if rightB k t d lim = true then 0 else 31
def valV (k : Int) (t : List UInt8) (d : Dn) : MV := if (k == 4) = true then .agg [.int .i64 2,.int .i64 4,.bool true,.nilsl,.sl 5 [dnVal d]] else .agg [.int .i64 2,.int .i64 k,.bool false,.bs t,.nilsl]
def valR (k : Int) (t : List UInt8) (d : Dn) (lim : Bool) : MV := .tup [if valE k t d lim = 0 then valV k t d else .agg zero5,.int .i64 (valE k t d lim)]
theorem call_nil (f : Nat) (m : MFunc) (hf : Q.prim f = none) (hm : Q.fn f = some m) (h : entry m [.nilsl] = entry m [.sl 2 (attrs [])]) : Call Q f [.nilsl] = Call Q f [.sl 2 (attrs [])] := by
 rw [Call_fn Q hf hm,Call_fn Q hf hm,h]
theorem c20d {dv : MV} {d : Dn} (hdv : isDir dv d) (hl : okLens d) : Call Q 68 [dv] = some (.tup [dnVal d,.int .i64 (dnE d)]) := by
 rcases hdv with rfl | ⟨rfl,rfl⟩
 ·exact c20 d hl
 ·rw [call_nil 68 m68 rfl rfl rfl]; exact c20 [] hl
theorem c19d {dv : MV} {d : Dn} (hdv : isDir dv d) (hl : okLens d) : Call Q 56 [dv] = some (.tup [dnVal d,.int .i64 (dnE d)]) := by
 rcases hdv with rfl | ⟨rfl,rfl⟩
 ·exact c19 d hl
 ·rw [call_nil 56 m56 rfl rfl rfl]; exact c19 [] hl
end Go.Mini.Nm
namespace Go.Mini.Nm
open Go Go.Mini Go.Proofs.YtaehaajckndejaaGreatDoor
set_option maxRecDepth 100000
set_option maxHeartbeats 4000000
theorem c35 (k : Int) (t : List UInt8) (dv : MV) (d : Dn) (hdv : isDir dv d) (ht : t.length < 1000000) (hl : okLens d) (lim : Bool) : Call Q 44 [gM k t dv,.bool lim] = some (valR k t d lim) := by
 have hal := attrs_length d
 have e0 : decide ((0 : Int) < (d.length : Int)) = decide (0 < d.length) := by rw [Bool.eq_iff_iff]; simp
 have hk := c73 k
 have hd := c20d hdv hl
 have hrt := c74 k t dv d hdv ht lim
 unfold gM at hrt ⊢
 unfold valR valE valV
 rw [Call_fn Q (m := m44) rfl rfl]
 rcases hdv with rfl | ⟨rfl,rfl⟩
 ·cases hb : kindB k
  ·rw [hb] at hk
   simp only [Bool.not_false,Bool.true_or,if_true]
   rw [if_neg (by decide)]
   simp (maxSteps := 4000000) (disch := first | omega | exact ok_of (by kernel_rfl) | decide) only [bA.u,seval,cut,if_pos,if_neg,m44,hk,hrt,hd,zero5,List.set,e0,hal]
  ·rw [hb] at hk
   simp only [Bool.not_true,Bool.false_or]
   cases q4 : (k == 4)
   ·have ne4 : (k != 4) = true := by rw [bne,q4]; rfl
    simp only [Bool.not_false,Bool.true_and,Bool.false_and,Bool.or_false,Bool.false_eq_true,if_false]
    cases x1 : decide (0 < List.length d)
    ·have tne : (t != []) = true ∨ (t != []) = false := by cases (t != []) <;> simp
     rw [if_neg (show ¬ false = true by decide)]
     cases hr : rightB k t d lim
     ·rw [hr] at hrt
      rw [if_neg (by decide),if_neg (by decide)]
      simp (maxSteps := 4000000) (disch := first | omega | exact ok_of (by kernel_rfl) | decide) only [bA.u,seval,cut,if_pos,if_neg,m44,hk,hrt,hd,q4,ne4,bnt ne4,x1,hr,tne,zero5,List.set,e0,hal]
     ·rw [hr] at hrt
      rw [if_pos rfl,if_pos rfl]
      simp (maxSteps := 4000000) (disch := first | omega | exact ok_of (by kernel_rfl) | decide) only [bA.u,seval,cut,if_pos,if_neg,m44,hk,hrt,hd,q4,ne4,bnt ne4,x1,hr,tne,zero5,List.set,e0,hal]
    ·rw [if_pos rfl,if_neg (by decide)]
     simp (maxSteps := 4000000) (disch := first | omega | exact ok_of (by kernel_rfl) | decide) only [bA.u,seval,cut,if_pos,if_neg,m44,hk,hrt,hd,q4,ne4,bnt ne4,x1,zero5,List.set,e0,hal]
   ·have ne4 : (k != 4) = false := by rw [bne,q4]; rfl
    have hk4 : k = 4 := by simpa using q4
    subst hk4
    simp only [Bool.not_true,Bool.false_and,Bool.true_and,Bool.false_or,if_true]
    cases x0 : (t == [])
    ·have tne : (t != []) = true := by rw [bne,x0]; rfl
     simp only [Bool.not_false,if_true]
     rw [if_neg (by decide)]
     simp (maxSteps := 4000000) (disch := first | omega | exact ok_of (by kernel_rfl) | decide) only [bA.u,seval,cut,if_pos,if_neg,m44,hk,hrt,hd,q4,ne4,bnn ne4,x0,tne,bnt tne,zero5,List.set,e0,hal]
    ·have tne : (t != []) = false := by rw [bne,x0]; rfl
     have ht0 : t = [] := by simpa using x0
     simp only [Bool.not_true,Bool.false_eq_true,if_false]
     rcases dnE_or d with h | h | h
     ·have hv : dnVal d = .agg [.int .i64 0,.int .i64 16,.bool true,.nilsl,kidsM ((kidsV d).getD [])] := by unfold dnVal; rw [if_pos h]
      rw [h] at hd
      rw [hv] at hd ⊢
      simp only [h,if_true]
      cases hkk : (kidsV d).getD [] with
      | nil =>
       rw [hkk] at hd
       simp only [kidsM] at hd ⊢
       cases hr : rightB 4 t d lim
       ·rw [hr] at hrt
        rw [if_neg (by decide),if_neg (by decide)]
        simp (maxSteps := 4000000) (disch := first | omega | exact ok_of (by kernel_rfl) | decide) only [bA.u,seval,cut,if_pos,if_neg,m44,hk,hrt,hd,q4,ne4,bnn ne4,x0,hr,tne,bnn tne,zero5,List.set,e0,hal]
       ·rw [hr] at hrt
        rw [if_pos rfl,if_pos rfl]
        simp (maxSteps := 4000000) (disch := first | omega | exact ok_of (by kernel_rfl) | decide) only [bA.u,seval,cut,if_pos,if_neg,m44,hk,hrt,hd,q4,ne4,bnn ne4,x0,hr,tne,bnn tne,zero5,List.set,e0,hal]
      | cons kk ks =>
       rw [hkk] at hd
       simp only [kidsM] at hd ⊢
       cases hr : rightB 4 t d lim
       ·rw [hr] at hrt
        rw [if_neg (by decide),if_neg (by decide)]
        simp (maxSteps := 4000000) (disch := first | omega | exact ok_of (by kernel_rfl) | decide) only [bA.u,seval,cut,if_pos,if_neg,m44,hk,hrt,hd,q4,ne4,bnn ne4,x0,hr,tne,bnn tne,zero5,List.set,e0,hal]
       ·rw [hr] at hrt
        rw [if_pos rfl,if_pos rfl]
        simp (maxSteps := 4000000) (disch := first | omega | exact ok_of (by kernel_rfl) | decide) only [bA.u,seval,cut,if_pos,if_neg,m44,hk,hrt,hd,q4,ne4,bnn ne4,x0,hr,tne,bnn tne,zero5,List.set,e0,hal]
     ·have hv : dnVal d = .agg zero5 := by unfold dnVal; rw [h]; exact if_neg (by decide)
      rw [h,hv] at hd
      rw [h,if_neg (show ¬ (30 : Int) = 0 by decide),if_neg (by decide)]
      simp (maxSteps := 4000000) (disch := first | omega | exact ok_of (by kernel_rfl) | decide) only [bA.u,seval,cut,if_pos,if_neg,m44,hk,hrt,hd,q4,ne4,bnn ne4,x0,tne,bnn tne,zero5,List.set,e0,hal]
     ·have hv : dnVal d = .agg zero5 := by unfold dnVal; rw [h]; exact if_neg (by decide)
      rw [h,hv] at hd
      rw [h,if_neg (show ¬ (31 : Int) = 0 by decide),if_neg (by decide)]
      simp (maxSteps := 4000000) (disch := first | omega | exact ok_of (by kernel_rfl) | decide) only [bA.u,seval,cut,if_pos,if_neg,m44,hk,hrt,hd,q4,ne4,bnn ne4,x0,tne,bnn tne,zero5,List.set,e0,hal]
 ·cases hb : kindB k
  ·rw [hb] at hk
   simp only [Bool.not_false,Bool.true_or,if_true]
   rw [if_neg (by decide)]
   simp (maxSteps := 4000000) (disch := first | omega | exact ok_of (by kernel_rfl) | decide) only [bA.u,seval,cut,if_pos,if_neg,m44,hk,hrt,hd,zero5,List.set,e0,hal]
  ·rw [hb] at hk
   simp only [Bool.not_true,Bool.false_or]
   cases q4 : (k == 4)
   ·have ne4 : (k != 4) = true := by rw [bne,q4]; rfl
    simp only [Bool.not_false,Bool.true_and,Bool.false_and,Bool.or_false,Bool.false_eq_true,if_false]
    simp only [List.length_nil,Nat.lt_irrefl,decide_false,Bool.false_eq_true,if_false]
    cases hr : rightB k t [] lim
    ·rw [hr] at hrt
     rw [if_neg (by decide),if_neg (by decide)]
     simp (maxSteps := 4000000) (disch := first | omega | exact ok_of (by kernel_rfl) | decide) only [bA.u,seval,cut,if_pos,if_neg,m44,hk,hrt,hd,q4,ne4,bnt ne4,hr,zero5,List.set,e0,hal]
    ·rw [hr] at hrt
     rw [if_pos rfl,if_pos rfl]
     simp (maxSteps := 4000000) (disch := first | omega | exact ok_of (by kernel_rfl) | decide) only [bA.u,seval,cut,if_pos,if_neg,m44,hk,hrt,hd,q4,ne4,bnt ne4,hr,zero5,List.set,e0,hal]
   ·have ne4 : (k != 4) = false := by rw [bne,q4]; rfl
    have hk4 : k = 4 := by simpa using q4
    subst hk4
    simp only [Bool.not_true,Bool.false_and,Bool.true_and,Bool.false_or,if_true]
    cases x0 : (t == [])
    ·have tne : (t != []) = true := by rw [bne,x0]; rfl
     simp only [Bool.not_false,if_true]
     rw [if_neg (by decide)]
     simp (maxSteps := 4000000) (disch := first | omega | exact ok_of (by kernel_rfl) | decide) only [bA.u,seval,cut,if_pos,if_neg,m44,hk,hrt,hd,q4,ne4,bnn ne4,x0,tne,bnt tne,zero5,List.set,e0,hal]
    ·have tne : (t != []) = false := by rw [bne,x0]; rfl
     have ht0 : t = [] := by simpa using x0
     simp only [Bool.not_true,Bool.false_eq_true,if_false]
     rcases dnE_or [] with h | h | h
     ·have hv : dnVal [] = .agg [.int .i64 0,.int .i64 16,.bool true,.nilsl,kidsM ((kidsV []).getD [])] := by unfold dnVal; rw [if_pos h]
      rw [h] at hd
      rw [hv] at hd ⊢
      simp only [h,if_true]
      cases hkk : (kidsV []).getD [] with
      | nil =>
       rw [hkk] at hd
       simp only [kidsM] at hd ⊢
       cases hr : rightB 4 t [] lim
       ·rw [hr] at hrt
        rw [if_neg (by decide),if_neg (by decide)]
        simp (maxSteps := 4000000) (disch := first | omega | exact ok_of (by kernel_rfl) | decide) only [bA.u,seval,cut,if_pos,if_neg,m44,hk,hrt,hd,q4,ne4,bnn ne4,x0,hr,tne,bnn tne,zero5,List.set,e0,hal]
       ·rw [hr] at hrt
        rw [if_pos rfl,if_pos rfl]
        simp (maxSteps := 4000000) (disch := first | omega | exact ok_of (by kernel_rfl) | decide) only [bA.u,seval,cut,if_pos,if_neg,m44,hk,hrt,hd,q4,ne4,bnn ne4,x0,hr,tne,bnn tne,zero5,List.set,e0,hal]
      | cons kk ks =>
       rw [hkk] at hd
       simp only [kidsM] at hd ⊢
       cases hr : rightB 4 t [] lim
       ·rw [hr] at hrt
        rw [if_neg (by decide),if_neg (by decide)]
        simp (maxSteps := 4000000) (disch := first | omega | exact ok_of (by kernel_rfl) | decide) only [bA.u,seval,cut,if_pos,if_neg,m44,hk,hrt,hd,q4,ne4,bnn ne4,x0,hr,tne,bnn tne,zero5,List.set,e0,hal]
       ·rw [hr] at hrt
        rw [if_pos rfl,if_pos rfl]
        simp (maxSteps := 4000000) (disch := first | omega | exact ok_of (by kernel_rfl) | decide) only [bA.u,seval,cut,if_pos,if_neg,m44,hk,hrt,hd,q4,ne4,bnn ne4,x0,hr,tne,bnn tne,zero5,List.set,e0,hal]
     ·have hv : dnVal [] = .agg zero5 := by unfold dnVal; rw [h]; exact if_neg (by decide)
      rw [h,hv] at hd
      rw [h,if_neg (show ¬ (30 : Int) = 0 by decide),if_neg (by decide)]
      simp (maxSteps := 4000000) (disch := first | omega | exact ok_of (by kernel_rfl) | decide) only [bA.u,seval,cut,if_pos,if_neg,m44,hk,hrt,hd,q4,ne4,bnn ne4,x0,tne,bnn tne,zero5,List.set,e0,hal]
     ·have hv : dnVal [] = .agg zero5 := by unfold dnVal; rw [h]; exact if_neg (by decide)
      rw [h,hv] at hd
      rw [h,if_neg (show ¬ (31 : Int) = 0 by decide),if_neg (by decide)]
      simp (maxSteps := 4000000) (disch := first | omega | exact ok_of (by kernel_rfl) | decide) only [bA.u,seval,cut,if_pos,if_neg,m44,hk,hrt,hd,q4,ne4,bnn ne4,x0,tne,bnn tne,zero5,List.set,e0,hal]
end Go.Mini.Nm
namespace Go.Mini.Nm
open Go Go.Mini Go.Proofs.YtaehaajckndejaaGreatDoor
set_option maxRecDepth 100000
set_option maxHeartbeats 4000000
def R77 : List (Nat × Option (Bool × Nat) × PK) := [(2,none,.other)]
def V77 (m : List UInt8) (over : Bool) (n i : Int) : List (Nat × MV) := [(0,.str m),(3,.bool over),(8,.int .i64 n),(9,.int .i64 i)]
def K77 : List Item := [.blk 0,.code (.seq (.rg [⟨some (.v 2),.mv (.c (.bool true)),none⟩]) .ret)]
theorem and1t (y : UInt8) : (((y &&& 1).toNat : Int) == 1) = (y &&& 1 == 1) := eq8 (y &&& 1) 1
theorem hcd {t : List UInt8} {r : Option (List UInt8)} (h : cut t (some (.int .i64 ((t.length / 2 : Nat) : Int))) none = r) : cut t (some (.int .i64 ((t.length : Int) / 2))) none = r := h
theorem c77_loop (m : List UInt8) (hm : m.length < 1000000) : ∀ (k : Nat) (over : Bool) (i : Nat),i + k = 8 * m.length →
  fin R77 (RunL Q m82k0 m82b0 K77 ⟨V77 m over (8 * (m.length : Int)) i,[],[],1⟩) = some (.bool (maskR m k over i))
 | 0,over,i,hi=>by
  have hi' : i = 8 * m.length := by omega
  subst hi'
  have hlt : decide (((8 * m.length : Nat) : Int) < 8 * (m.length : Int)) = false := by simp
  obtain ⟨b',hb'⟩ : ∃ b',b' = m82b0 := ⟨_,rfl⟩
  rw [RunL_eq,show Item.lp m82k0 m82b0 = Item.lp m82k0 b' by rw [hb']]
  simp (maxSteps := 4000000) (disch := first | omega | exact ok_of (by kernel_rfl) | decide) only [bA.u,seval,cut,if_pos,if_neg,m82b0,V77,K77,R77,hlt]
  all_goals rfl
 | k + 1,over,i,hi=>by
  have hlt : decide ((i : Int) < 8 * (m.length : Int)) = true := by simp; omega
  have i0 : (0 : Int) ≤ (i : Int) := by omega
  have e : ((i : Int) + 1) = ((i + 1 : Nat) : Int) := by omega
  have tdi : (i : Int).tdiv 8 = ((i / 8 : Nat) : Int) := by rw [Int.tdiv_eq_ediv_of_nonneg i0]; omega
  have td2 : ((i : Int) / 8).toNat = i / 8 := by omega
  have j0 : (0 : Int) ≤ ((i / 8 : Nat) : Int) := by omega
  have j1 : ((i / 8 : Nat) : Int) < (m.length : Int) := by omega
  have es : (7 - (i : Int) % 8).toNat = 7 - i % 8 := by omega
  have i7 : (0 : Int) ≤ 7 - (i : Int) % 8 := by omega
  have i8 : 7 - (i : Int) % 8 < 8 := by omega
  have tm8 : (i : Int).tmod 8 = (i : Int) % 8 := Int.tmod_eq_emod_of_nonneg i0
  unfold maskR oneB
  generalize hx : m.getD (i / 8) 0 = x
  have ih := fun over'=>c77_loop m hm k over' (i + 1) (by omega)
  obtain ⟨b',hb'⟩ : ∃ b',b' = m82b0 := ⟨_,rfl⟩
  rw [RunL_eq,show Item.lp m82k0 m82b0 = Item.lp m82k0 b' by rw [hb']]
  cases h1 : (x >>> UInt8.ofNat (7 - i % 8) &&& 1 == 1)
  ·rw [Bool.false_and,if_neg (by decide),Bool.not_false,Bool.or_true,← ih true]
   cases over
   ·simp (maxSteps := 4000000) (disch := first | omega | exact ok_of (by kernel_rfl) | decide) only [bA.u,seval,cut,if_pos,if_neg,m82b0,V77,K77,R77,hlt,i0,j0,j1,es,i7,i8,tm8,tdi,td2,hx,and1t,h1]
    subst hb'
    refine ((congrArg (fin _) (Run_lp Q _ _ _ _)).trans ?_)
    exact congrArg (fin R77) (RunL_canon (canon_cong (Eq.trans (by kernel_rfl) (show [(0,MV.str m),(3,.bool true),(8,.int .i64 (8 * (m.length : Int))),(9,.int .i64 ((i : Int) + 1))] = V77 m true (8 * (m.length : Int)) (i + 1 : Nat) from by rw [e]; rfl)) (by kernel_rfl) (by kernel_rfl)))
   ·simp (maxSteps := 4000000) (disch := first | omega | exact ok_of (by kernel_rfl) | decide) only [bA.u,seval,cut,if_pos,if_neg,m82b0,V77,K77,R77,hlt,i0,j0,j1,es,i7,i8,tm8,tdi,td2,hx,and1t,h1]
    subst hb'
    refine ((congrArg (fin _) (Run_lp Q _ _ _ _)).trans ?_)
    exact congrArg (fin R77) (RunL_canon (canon_cong (Eq.trans (by kernel_rfl) (show [(0,MV.str m),(3,.bool true),(8,.int .i64 (8 * (m.length : Int))),(9,.int .i64 ((i : Int) + 1))] = V77 m true (8 * (m.length : Int)) (i + 1 : Nat) from by rw [e]; rfl)) (by kernel_rfl) (by kernel_rfl)))
  ·cases over
   ·rw [Bool.and_false,if_neg (by decide),Bool.not_true,Bool.or_false,← ih false]
    simp (maxSteps := 4000000) (disch := first | omega | exact ok_of (by kernel_rfl) | decide) only [bA.u,seval,cut,if_pos,if_neg,m82b0,V77,K77,R77,hlt,i0,j0,j1,es,i7,i8,tm8,tdi,td2,hx,and1t,h1]
    subst hb'
    refine ((congrArg (fin _) (Run_lp Q _ _ _ _)).trans ?_)
    exact congrArg (fin R77) (RunL_canon (canon_cong (Eq.trans (by kernel_rfl) (show [(0,MV.str m),(3,.bool false),(8,.int .i64 (8 * (m.length : Int))),(9,.int .i64 ((i : Int) + 1))] = V77 m false (8 * (m.length : Int)) (i + 1 : Nat) from by rw [e]; rfl)) (by kernel_rfl) (by kernel_rfl)))
   ·rw [Bool.and_true,if_pos rfl]
    simp (maxSteps := 4000000) (disch := first | omega | exact ok_of (by kernel_rfl) | decide) only [bA.u,seval,cut,if_pos,if_neg,m82b0,V77,K77,R77,hlt,i0,j0,j1,es,i7,i8,tm8,tdi,td2,hx,and1t,h1]
theorem c77 (m : List UInt8) (hm : m.length < 1000000) : Call Q 82 [.str m] = some (.bool (maskB m)) := by
 unfold maskB
 rw [Call_fn Q (m := m82) rfl rfl,← c77_loop m hm (8 * m.length) false 0 (by omega)]
 simp (maxSteps := 4000000) (disch := first | omega | exact ok_of (by kernel_rfl) | decide) only [bA.u,seval,cut,if_pos,if_neg,m82,Run_loop]
 exact congrArg (fin R77) (RunL_canon (canon_cong (by kernel_rfl) (by kernel_rfl) (by kernel_rfl)))
theorem c43 (k : Int) (t : List UInt8) (dv : MV) (d : Dn) (hdv : isDir dv d) (ht : t.length < 1000000) (lim : Bool) : Call Q 57 [gM k t dv,.bool lim] = some (.bool (rightB k t d lim)) := by
 have hal := attrs_length d
 have e0 : decide ((0 : Int) < (d.length : Int)) = decide (0 < d.length) := by rw [Bool.eq_iff_iff]; simp
 have e1 : decide ((0 : Int) < (t.length : Int)) = decide (0 < t.length) := by rw [Bool.eq_iff_iff]; simp
 have e2 : decide ((t.length : Int) ≤ 64) = decide (t.length ≤ 64) := by rw [Bool.eq_iff_iff]; simp; omega
 have s4 : ((t.length : Int) == 4) = decide (t.length = 4) := by rw [Bool.eq_iff_iff]; simp; omega
 have s16 : ((t.length : Int) == 16) = decide (t.length = 16) := by rw [Bool.eq_iff_iff]; simp; omega
 have s8 : ((t.length : Int) == 8) = decide (t.length = 8) := by rw [Bool.eq_iff_iff]; simp; omega
 have s32 : ((t.length : Int) == 32) = decide (t.length = 32) := by rw [Bool.eq_iff_iff]; simp; omega
 have h77 := c77 (t.drop (t.length / 2)) (by rw [List.length_drop]; omega)
 have tdl : (t.length : Int).tdiv 2 = ((t.length / 2 : Nat) : Int) := by rw [Int.tdiv_eq_ediv_of_nonneg (by omega)]; omega
 have hc := cut_from (s := t) (i := ((t.length / 2 : Nat) : Int)) (k := t.length / 2) rfl (by omega)
 have h65 := c65 83 high t ht (fits_high t)
 unfold rightB gM
 rw [high_eq,Call_fn Q (m := m57) rfl rfl]
 rcases hdv with rfl | ⟨rfl,rfl⟩
 ·by_cases h4 : k = 4
  ·have q4 : (k == 4) = true := by rw [h4]; rfl
   rw [if_pos h4]
   cases lim
   ·simp (maxSteps := 4000000) (disch := first | omega | exact ok_of (by kernel_rfl) | decide) only [bA.u,seval,if_pos,if_neg,m57,hal,e0,e1,e2,s4,s16,s8,s32,h77,tdl,hcd hc,hc,h65,q4]
   ·simp (maxSteps := 4000000) (disch := first | omega | exact ok_of (by kernel_rfl) | decide) only [bA.u,seval,if_pos,if_neg,m57,hal,e0,e1,e2,s4,s16,s8,s32,h77,tdl,hcd hc,hc,h65,q4]
  have q4 : (k == 4) = false := by rw [beq_eq_false_iff_ne]; exact h4
  rw [if_neg h4]
  by_cases h7 : k = 7
  ·have q7 : (k == 7) = true := by rw [h7]; rfl
   rw [if_pos h7]
   cases lim
   ·rw [if_neg (by decide)]
    cases x4 : decide (t.length = 4)
    ·simp (maxSteps := 4000000) (disch := first | omega | exact ok_of (by kernel_rfl) | decide) only [bA.u,seval,if_pos,if_neg,m57,hal,e0,e1,e2,s4,s16,s8,s32,h77,tdl,hcd hc,hc,h65,q4,q7,x4]
    ·simp (maxSteps := 4000000) (disch := first | omega | exact ok_of (by kernel_rfl) | decide) only [bA.u,seval,if_pos,if_neg,m57,hal,e0,e1,e2,s4,s16,s8,s32,h77,tdl,hcd hc,hc,h65,q4,q7,x4]
   ·rw [if_pos rfl]
    cases x8 : decide (t.length = 8)
    ·cases x32 : decide (t.length = 32)
     ·simp (maxSteps := 4000000) (disch := first | omega | exact ok_of (by kernel_rfl) | decide) only [bA.u,seval,if_pos,if_neg,m57,hal,e0,e1,e2,s4,s16,s8,s32,h77,tdl,hcd hc,hc,h65,q4,q7,x8,x32]
     ·simp (maxSteps := 4000000) (disch := first | omega | exact ok_of (by kernel_rfl) | decide) only [bA.u,seval,if_pos,if_neg,m57,hal,e0,e1,e2,s4,s16,s8,s32,h77,tdl,hcd hc,hc,h65,q4,q7,x8,x32]
    ·simp (maxSteps := 4000000) (disch := first | omega | exact ok_of (by kernel_rfl) | decide) only [bA.u,seval,if_pos,if_neg,m57,hal,e0,e1,e2,s4,s16,s8,s32,h77,tdl,hcd hc,hc,h65,q4,q7,x8]
  have q7 : (k == 7) = false := by rw [beq_eq_false_iff_ne]; exact h7
  rw [if_neg h7]
  cases x1 : decide (0 < t.length)
  ·cases lim
   ·simp (maxSteps := 4000000) (disch := first | omega | exact ok_of (by kernel_rfl) | decide) only [bA.u,seval,if_pos,if_neg,m57,hal,e0,e1,e2,s4,s16,s8,s32,h77,tdl,hcd hc,hc,h65,q4,q7,x1]
   ·cases x2 : decide (t.length ≤ 64)
    ·simp (maxSteps := 4000000) (disch := first | omega | exact ok_of (by kernel_rfl) | decide) only [bA.u,seval,if_pos,if_neg,m57,hal,e0,e1,e2,s4,s16,s8,s32,h77,tdl,hcd hc,hc,h65,q4,q7,x1,x2]
    ·simp (maxSteps := 4000000) (disch := first | omega | exact ok_of (by kernel_rfl) | decide) only [bA.u,seval,if_pos,if_neg,m57,hal,e0,e1,e2,s4,s16,s8,s32,h77,tdl,hcd hc,hc,h65,q4,q7,x1,x2]
  ·cases x2 : decide (t.length ≤ 64)
   ·simp (maxSteps := 4000000) (disch := first | omega | exact ok_of (by kernel_rfl) | decide) only [bA.u,seval,if_pos,if_neg,m57,hal,e0,e1,e2,s4,s16,s8,s32,h77,tdl,hcd hc,hc,h65,q4,q7,x1,x2]
   ·simp (maxSteps := 4000000) (disch := first | omega | exact ok_of (by kernel_rfl) | decide) only [bA.u,seval,if_pos,if_neg,m57,hal,e0,e1,e2,s4,s16,s8,s32,h77,tdl,hcd hc,hc,h65,q4,q7,x1,x2]
 ·by_cases h4 : k = 4
  ·have q4 : (k == 4) = true := by rw [h4]; rfl
   rw [if_pos h4]
   cases lim
   ·simp (maxSteps := 4000000) (disch := first | omega | exact ok_of (by kernel_rfl) | decide) only [bA.u,seval,if_pos,if_neg,m57,hal,e0,e1,e2,s4,s16,s8,s32,h77,tdl,hcd hc,hc,h65,q4]
   ·simp (maxSteps := 4000000) (disch := first | omega | exact ok_of (by kernel_rfl) | decide) only [bA.u,seval,if_pos,if_neg,m57,hal,e0,e1,e2,s4,s16,s8,s32,h77,tdl,hcd hc,hc,h65,q4]
  have q4 : (k == 4) = false := by rw [beq_eq_false_iff_ne]; exact h4
  rw [if_neg h4]
  by_cases h7 : k = 7
  ·have q7 : (k == 7) = true := by rw [h7]; rfl
   rw [if_pos h7]
   cases lim
   ·rw [if_neg (by decide)]
    cases x4 : decide (t.length = 4)
    ·simp (maxSteps := 4000000) (disch := first | omega | exact ok_of (by kernel_rfl) | decide) only [bA.u,seval,if_pos,if_neg,m57,hal,e0,e1,e2,s4,s16,s8,s32,h77,tdl,hcd hc,hc,h65,q4,q7,x4]
    ·simp (maxSteps := 4000000) (disch := first | omega | exact ok_of (by kernel_rfl) | decide) only [bA.u,seval,if_pos,if_neg,m57,hal,e0,e1,e2,s4,s16,s8,s32,h77,tdl,hcd hc,hc,h65,q4,q7,x4]
   ·rw [if_pos rfl]
    cases x8 : decide (t.length = 8)
    ·cases x32 : decide (t.length = 32)
     ·simp (maxSteps := 4000000) (disch := first | omega | exact ok_of (by kernel_rfl) | decide) only [bA.u,seval,if_pos,if_neg,m57,hal,e0,e1,e2,s4,s16,s8,s32,h77,tdl,hcd hc,hc,h65,q4,q7,x8,x32]
     ·simp (maxSteps := 4000000) (disch := first | omega | exact ok_of (by kernel_rfl) | decide) only [bA.u,seval,if_pos,if_neg,m57,hal,e0,e1,e2,s4,s16,s8,s32,h77,tdl,hcd hc,hc,h65,q4,q7,x8,x32]
    ·simp (maxSteps := 4000000) (disch := first | omega | exact ok_of (by kernel_rfl) | decide) only [bA.u,seval,if_pos,if_neg,m57,hal,e0,e1,e2,s4,s16,s8,s32,h77,tdl,hcd hc,hc,h65,q4,q7,x8]
  have q7 : (k == 7) = false := by rw [beq_eq_false_iff_ne]; exact h7
  rw [if_neg h7]
  cases x1 : decide (0 < t.length)
  ·cases lim
   ·simp (maxSteps := 4000000) (disch := first | omega | exact ok_of (by kernel_rfl) | decide) only [bA.u,seval,if_pos,if_neg,m57,hal,e0,e1,e2,s4,s16,s8,s32,h77,tdl,hcd hc,hc,h65,q4,q7,x1]
   ·cases x2 : decide (t.length ≤ 64)
    ·simp (maxSteps := 4000000) (disch := first | omega | exact ok_of (by kernel_rfl) | decide) only [bA.u,seval,if_pos,if_neg,m57,hal,e0,e1,e2,s4,s16,s8,s32,h77,tdl,hcd hc,hc,h65,q4,q7,x1,x2]
    ·simp (maxSteps := 4000000) (disch := first | omega | exact ok_of (by kernel_rfl) | decide) only [bA.u,seval,if_pos,if_neg,m57,hal,e0,e1,e2,s4,s16,s8,s32,h77,tdl,hcd hc,hc,h65,q4,q7,x1,x2]
  ·cases x2 : decide (t.length ≤ 64)
   ·simp (maxSteps := 4000000) (disch := first | omega | exact ok_of (by kernel_rfl) | decide) only [bA.u,seval,if_pos,if_neg,m57,hal,e0,e1,e2,s4,s16,s8,s32,h77,tdl,hcd hc,hc,h65,q4,q7,x1,x2]
   ·simp (maxSteps := 4000000) (disch := first | omega | exact ok_of (by kernel_rfl) | decide) only [bA.u,seval,if_pos,if_neg,m57,hal,e0,e1,e2,s4,s16,s8,s32,h77,tdl,hcd hc,hc,h65,q4,q7,x1,x2]
end Go.Mini.Nm
namespace Go.Mini.Nm
open Go Go.Mini Go.Proofs.YtaehaajckndejaaGreatDoor
set_option maxRecDepth 100000
set_option maxHeartbeats 4000000
theorem c14 (k : Int) (t : List UInt8) (dv : MV) (d : Dn) (hdv : isDir dv d) (ht : t.length < 1000000) (hl : okLens d) (lim : Bool) : Call Q 35 [gM k t dv,.bool lim] = some (valR k t d lim) := by
 have hal := attrs_length d
 have e0 : decide ((0 : Int) < (d.length : Int)) = decide (0 < d.length) := by rw [Bool.eq_iff_iff]; simp
 have hk := c42 k
 have hd := c19d hdv hl
 have hrt := c43 k t dv d hdv ht lim
 unfold gM at hrt ⊢
 unfold valR valE valV
 rw [Call_fn Q (m := m35) rfl rfl]
 rcases hdv with rfl | ⟨rfl,rfl⟩
 ·cases hb : kindB k
  ·rw [hb] at hk
   simp only [Bool.not_false,Bool.true_or,if_true]
   rw [if_neg (by decide)]
   simp (maxSteps := 4000000) (disch := first | omega | exact ok_of (by kernel_rfl) | decide) only [bA.u,seval,cut,if_pos,if_neg,m35,hk,hrt,hd,zero5,List.set,e0,hal]
  ·rw [hb] at hk
   simp only [Bool.not_true,Bool.false_or]
   cases q4 : (k == 4)
   ·have ne4 : (k != 4) = true := by rw [bne,q4]; rfl
    simp only [Bool.not_false,Bool.true_and,Bool.false_and,Bool.or_false,Bool.false_eq_true,if_false]
    cases x1 : decide (0 < List.length d)
    ·have tne : (t != []) = true ∨ (t != []) = false := by cases (t != []) <;> simp
     rw [if_neg (show ¬ false = true by decide)]
     cases hr : rightB k t d lim
     ·rw [hr] at hrt
      rw [if_neg (by decide),if_neg (by decide)]
      simp (maxSteps := 4000000) (disch := first | omega | exact ok_of (by kernel_rfl) | decide) only [bA.u,seval,cut,if_pos,if_neg,m35,hk,hrt,hd,q4,ne4,bnt ne4,x1,hr,tne,zero5,List.set,e0,hal]
     ·rw [hr] at hrt
      rw [if_pos rfl,if_pos rfl]
      simp (maxSteps := 4000000) (disch := first | omega | exact ok_of (by kernel_rfl) | decide) only [bA.u,seval,cut,if_pos,if_neg,m35,hk,hrt,hd,q4,ne4,bnt ne4,x1,hr,tne,zero5,List.set,e0,hal]
    ·rw [if_pos rfl,if_neg (by decide)]
     simp (maxSteps := 4000000) (disch := first | omega | exact ok_of (by kernel_rfl) | decide) only [bA.u,seval,cut,if_pos,if_neg,m35,hk,hrt,hd,q4,ne4,bnt ne4,x1,zero5,List.set,e0,hal]
   ·have ne4 : (k != 4) = false := by rw [bne,q4]; rfl
    have hk4 : k = 4 := by simpa using q4
    subst hk4
    simp only [Bool.not_true,Bool.false_and,Bool.true_and,Bool.false_or,if_true]
    cases x0 : (t == [])
    ·have tne : (t != []) = true := by rw [bne,x0]; rfl
     simp only [Bool.not_false,if_true]
     rw [if_neg (by decide)]
     simp (maxSteps := 4000000) (disch := first | omega | exact ok_of (by kernel_rfl) | decide) only [bA.u,seval,cut,if_pos,if_neg,m35,hk,hrt,hd,q4,ne4,bnn ne4,x0,tne,bnt tne,zero5,List.set,e0,hal]
    ·have tne : (t != []) = false := by rw [bne,x0]; rfl
     have ht0 : t = [] := by simpa using x0
     simp only [Bool.not_true,Bool.false_eq_true,if_false]
     rcases dnE_or d with h | h | h
     ·have hv : dnVal d = .agg [.int .i64 0,.int .i64 16,.bool true,.nilsl,kidsM ((kidsV d).getD [])] := by unfold dnVal; rw [if_pos h]
      rw [h] at hd
      rw [hv] at hd ⊢
      simp only [h,if_true]
      cases hkk : (kidsV d).getD [] with
      | nil =>
       rw [hkk] at hd
       simp only [kidsM] at hd ⊢
       cases hr : rightB 4 t d lim
       ·rw [hr] at hrt
        rw [if_neg (by decide),if_neg (by decide)]
        simp (maxSteps := 4000000) (disch := first | omega | exact ok_of (by kernel_rfl) | decide) only [bA.u,seval,cut,if_pos,if_neg,m35,hk,hrt,hd,q4,ne4,bnn ne4,x0,hr,tne,bnn tne,zero5,List.set,e0,hal]
       ·rw [hr] at hrt
        rw [if_pos rfl,if_pos rfl]
        simp (maxSteps := 4000000) (disch := first | omega | exact ok_of (by kernel_rfl) | decide) only [bA.u,seval,cut,if_pos,if_neg,m35,hk,hrt,hd,q4,ne4,bnn ne4,x0,hr,tne,bnn tne,zero5,List.set,e0,hal]
      | cons kk ks =>
       rw [hkk] at hd
       simp only [kidsM] at hd ⊢
       cases hr : rightB 4 t d lim
       ·rw [hr] at hrt
        rw [if_neg (by decide),if_neg (by decide)]
        simp (maxSteps := 4000000) (disch := first | omega | exact ok_of (by kernel_rfl) | decide) only [bA.u,seval,cut,if_pos,if_neg,m35,hk,hrt,hd,q4,ne4,bnn ne4,x0,hr,tne,bnn tne,zero5,List.set,e0,hal]
       ·rw [hr] at hrt
        rw [if_pos rfl,if_pos rfl]
        simp (maxSteps := 4000000) (disch := first | omega | exact ok_of (by kernel_rfl) | decide) only [bA.u,seval,cut,if_pos,if_neg,m35,hk,hrt,hd,q4,ne4,bnn ne4,x0,hr,tne,bnn tne,zero5,List.set,e0,hal]
     ·have hv : dnVal d = .agg zero5 := by unfold dnVal; rw [h]; exact if_neg (by decide)
      rw [h,hv] at hd
      rw [h,if_neg (show ¬ (30 : Int) = 0 by decide),if_neg (by decide)]
      simp (maxSteps := 4000000) (disch := first | omega | exact ok_of (by kernel_rfl) | decide) only [bA.u,seval,cut,if_pos,if_neg,m35,hk,hrt,hd,q4,ne4,bnn ne4,x0,tne,bnn tne,zero5,List.set,e0,hal]
     ·have hv : dnVal d = .agg zero5 := by unfold dnVal; rw [h]; exact if_neg (by decide)
      rw [h,hv] at hd
      rw [h,if_neg (show ¬ (31 : Int) = 0 by decide),if_neg (by decide)]
      simp (maxSteps := 4000000) (disch := first | omega | exact ok_of (by kernel_rfl) | decide) only [bA.u,seval,cut,if_pos,if_neg,m35,hk,hrt,hd,q4,ne4,bnn ne4,x0,tne,bnn tne,zero5,List.set,e0,hal]
 ·cases hb : kindB k
  ·rw [hb] at hk
   simp only [Bool.not_false,Bool.true_or,if_true]
   rw [if_neg (by decide)]
   simp (maxSteps := 4000000) (disch := first | omega | exact ok_of (by kernel_rfl) | decide) only [bA.u,seval,cut,if_pos,if_neg,m35,hk,hrt,hd,zero5,List.set,e0,hal]
  ·rw [hb] at hk
   simp only [Bool.not_true,Bool.false_or]
   cases q4 : (k == 4)
   ·have ne4 : (k != 4) = true := by rw [bne,q4]; rfl
    simp only [Bool.not_false,Bool.true_and,Bool.false_and,Bool.or_false,Bool.false_eq_true,if_false]
    simp only [List.length_nil,Nat.lt_irrefl,decide_false,Bool.false_eq_true,if_false]
    cases hr : rightB k t [] lim
    ·rw [hr] at hrt
     rw [if_neg (by decide),if_neg (by decide)]
     simp (maxSteps := 4000000) (disch := first | omega | exact ok_of (by kernel_rfl) | decide) only [bA.u,seval,cut,if_pos,if_neg,m35,hk,hrt,hd,q4,ne4,bnt ne4,hr,zero5,List.set,e0,hal]
    ·rw [hr] at hrt
     rw [if_pos rfl,if_pos rfl]
     simp (maxSteps := 4000000) (disch := first | omega | exact ok_of (by kernel_rfl) | decide) only [bA.u,seval,cut,if_pos,if_neg,m35,hk,hrt,hd,q4,ne4,bnt ne4,hr,zero5,List.set,e0,hal]
   ·have ne4 : (k != 4) = false := by rw [bne,q4]; rfl
    have hk4 : k = 4 := by simpa using q4
    subst hk4
    simp only [Bool.not_true,Bool.false_and,Bool.true_and,Bool.false_or,if_true]
    cases x0 : (t == [])
    ·have tne : (t != []) = true := by rw [bne,x0]; rfl
     simp only [Bool.not_false,if_true]
     rw [if_neg (by decide)]
     simp (maxSteps := 4000000) (disch := first | omega | exact ok_of (by kernel_rfl) | decide) only [bA.u,seval,cut,if_pos,if_neg,m35,hk,hrt,hd,q4,ne4,bnn ne4,x0,tne,bnt tne,zero5,List.set,e0,hal]
    ·have tne : (t != []) = false := by rw [bne,x0]; rfl
     have ht0 : t = [] := by simpa using x0
     simp only [Bool.not_true,Bool.false_eq_true,if_false]
     rcases dnE_or [] with h | h | h
     ·have hv : dnVal [] = .agg [.int .i64 0,.int .i64 16,.bool true,.nilsl,kidsM ((kidsV []).getD [])] := by unfold dnVal; rw [if_pos h]
      rw [h] at hd
      rw [hv] at hd ⊢
      simp only [h,if_true]
      cases hkk : (kidsV []).getD [] with
      | nil =>
       rw [hkk] at hd
       simp only [kidsM] at hd ⊢
       cases hr : rightB 4 t [] lim
       ·rw [hr] at hrt
        rw [if_neg (by decide),if_neg (by decide)]
        simp (maxSteps := 4000000) (disch := first | omega | exact ok_of (by kernel_rfl) | decide) only [bA.u,seval,cut,if_pos,if_neg,m35,hk,hrt,hd,q4,ne4,bnn ne4,x0,hr,tne,bnn tne,zero5,List.set,e0,hal]
       ·rw [hr] at hrt
        rw [if_pos rfl,if_pos rfl]
        simp (maxSteps := 4000000) (disch := first | omega | exact ok_of (by kernel_rfl) | decide) only [bA.u,seval,cut,if_pos,if_neg,m35,hk,hrt,hd,q4,ne4,bnn ne4,x0,hr,tne,bnn tne,zero5,List.set,e0,hal]
      | cons kk ks =>
       rw [hkk] at hd
       simp only [kidsM] at hd ⊢
       cases hr : rightB 4 t [] lim
       ·rw [hr] at hrt
        rw [if_neg (by decide),if_neg (by decide)]
        simp (maxSteps := 4000000) (disch := first | omega | exact ok_of (by kernel_rfl) | decide) only [bA.u,seval,cut,if_pos,if_neg,m35,hk,hrt,hd,q4,ne4,bnn ne4,x0,hr,tne,bnn tne,zero5,List.set,e0,hal]
       ·rw [hr] at hrt
        rw [if_pos rfl,if_pos rfl]
        simp (maxSteps := 4000000) (disch := first | omega | exact ok_of (by kernel_rfl) | decide) only [bA.u,seval,cut,if_pos,if_neg,m35,hk,hrt,hd,q4,ne4,bnn ne4,x0,hr,tne,bnn tne,zero5,List.set,e0,hal]
     ·have hv : dnVal [] = .agg zero5 := by unfold dnVal; rw [h]; exact if_neg (by decide)
      rw [h,hv] at hd
      rw [h,if_neg (show ¬ (30 : Int) = 0 by decide),if_neg (by decide)]
      simp (maxSteps := 4000000) (disch := first | omega | exact ok_of (by kernel_rfl) | decide) only [bA.u,seval,cut,if_pos,if_neg,m35,hk,hrt,hd,q4,ne4,bnn ne4,x0,tne,bnn tne,zero5,List.set,e0,hal]
     ·have hv : dnVal [] = .agg zero5 := by unfold dnVal; rw [h]; exact if_neg (by decide)
      rw [h,hv] at hd
      rw [h,if_neg (show ¬ (31 : Int) = 0 by decide),if_neg (by decide)]
      simp (maxSteps := 4000000) (disch := first | omega | exact ok_of (by kernel_rfl) | decide) only [bA.u,seval,cut,if_pos,if_neg,m35,hk,hrt,hd,q4,ne4,bnn ne4,x0,tne,bnn tne,zero5,List.set,e0,hal]
end Go.Mini.Nm
namespace Go.Mini.Nm
open Go Go.Mini Go.Proofs.YtaehaajckndejaaGreatDoor
set_option maxRecDepth 100000
set_option maxHeartbeats 4000000
def texts (l : List (List UInt8)) : List MV := l.map .str
theorem texts_length (l : List (List UInt8)) : (texts l).length = l.length := by simp [texts]
theorem texts_get {l : List (List UInt8)} {i : Nat} {s : List UInt8} (h : l[i]? = some s) : (texts l)[i]? = some (.str s) := by simp [texts,h]
theorem splits_all (q : UInt8→Bool) : ∀ s : List UInt8,s.any q = false→∀ p ∈ splits s,p.any q = false
 | [],_,p,hp=>by simp [splits] at hp; subst hp; rfl
 | c :: r,h,p,hp=>by
  rw [List.any_cons,Bool.or_eq_false_iff] at h
  have ih := splits_all q r h.2
  unfold splits at hp
  split at hp
  ·rcases List.mem_cons.1 hp with rfl | hp
   ·rfl
   ·exact ih p hp
  ·have hn := splits_ne r
   cases hs : splits r with
   | nil=>exact (hn hs).elim
   | cons a ps =>
    rw [hs] at hp ih
    simp only at hp
    rcases List.mem_cons.1 hp with rfl | hp
    ·rw [List.any_cons,h.1,Bool.false_or]; exact ih a (by simp)
    ·exact ih p (by simp [hp])
theorem index_at (x : UInt8) : ∀ (s : List UInt8) (i : Nat),atB s x i = if Lib.index s [x] = -1 then -1 else Lib.index s [x] + i
 | [],i=>rfl
 | c :: r,i=>by
  have ih := index_at x r (i + 1)
  unfold atB
  by_cases h : c = x
  ·subst h
   have : Lib.index (c :: r) [c] = 0 := by rw [Lib.index]; simp [List.isPrefixOf]
   rw [if_pos rfl,this,if_neg (by decide)]
   omega
  ·have hp : ([x] : List UInt8).isPrefixOf (c :: r) = false := by simp [List.isPrefixOf,Ne.symm h]
   have hix : Lib.index (c :: r) [x] = if Lib.index r [x] == -1 then -1 else Lib.index r [x] + 1 := by rw [Lib.index,hp]; simp
   have hge := Lib.index_ge r [x]
   rw [if_neg h,ih,hix]
   by_cases hm : Lib.index r [x] = -1
   ·rw [if_pos hm,if_pos (beq_iff_eq.2 hm),if_pos rfl]
   ·rw [if_neg hm,if_neg (fun e=>hm (beq_iff_eq.1 e)),if_neg (by omega)]
    omega
theorem cut_at (s : List UInt8) (x : UInt8) : Lib.cut s [x] = match atB s x 0 with
  | .ofNat k=>(s.take k,s.drop (k + 1),true)
  | _=>(s,[],false) := by
 have h := index_at x s 0
 have hge := Lib.index_ge s [x]
 unfold Lib.cut
 by_cases hm : Lib.index s [x] = -1
 ·rw [h,if_pos hm,if_neg (by omega)]
  all_goals rfl
 ·obtain ⟨j,hj⟩ : ∃ j : Nat,Lib.index s [x] = j := ⟨(Lib.index s [x]).toNat,by omega⟩
  rw [h,if_neg hm,if_pos (by omega),hj]
  show _ = (s.take (j + 0),s.drop (j + 0 + 1),true)
  simp
theorem indexAny_till : ∀ (r : List UInt8),Lib.indexAny r [47,58,63,35] = if till r = r.length then -1 else (till r : Int)
 | []=>rfl
 | c :: r=>by
  have ih := indexAny_till r
  have hle := till_le r
  have hc : ([47,58,63,35] : List UInt8).contains c = stopB c := by
   unfold stopB
   simp only [List.contains_cons,List.contains_nil,Bool.or_false,Bool.or_assoc]
  unfold Lib.indexAny till
  rw [hc]
  cases hs : stopB c
  ·simp only [Bool.false_eq_true,if_false]
   by_cases hm : till r = r.length
   ·have e1 : Lib.indexAny r [47,58,63,35] = -1 := by rw [ih,if_pos hm]
    rw [e1,if_pos (by rfl),if_pos (by simp [hm])]
   ·have e1 : Lib.indexAny r [47,58,63,35] = (till r : Int) := by rw [ih,if_neg hm]
    rw [e1,if_neg (by rw [beq_iff_eq]; omega),if_neg (by simp; omega)]
    omega
  ·simp only [if_true]
   rw [if_neg (by simp)]
   all_goals rfl
def R28 : List (Nat × Option (Bool × Nat) × PK) := [(2,none,.other)]
def V28 (L : List (List UInt8)) (i : Int) : List (Nat × MV) := [(7,.sl 1 (texts L)),(8,.int .i64 (L.length : Int)),(9,.int .i64 i)]
def K28 : List Item := [.blk 0,.code (.seq (.rg [⟨some (.v 2),.mv (.c (.bool true)),none⟩]) .ret)]
theorem any_bad (p : List UInt8) : p.any badC = !p.all okC := by
 unfold badC
 induction p with
 | nil=>rfl
 | cons c r ih=>rw [List.any_cons,List.all_cons,ih]; cases okC c <;> rfl
theorem c28_loop (L : List (List UInt8)) (hL : L.length < 1000000) (hp : ∀ p ∈ L,p.length < 1000000 ∧ p.any high = false) : ∀ (r : List (List UInt8)) (i : Nat),L.drop i = r→i + r.length = L.length →
  fin R28 (RunL Q m36k0 m36b0 K28 ⟨V28 L i,[],[],1⟩) = some (.bool (r.all labelB))
 | [],i,hd,hi=>by
  have hi' : i = L.length := by simpa using hi
  subst hi'
  have hlt : decide ((L.length : Int) < (L.length : Int)) = false := by simp
  obtain ⟨b',hb'⟩ : ∃ b',b' = m36b0 := ⟨_,rfl⟩
  rw [RunL_eq,show Item.lp m36k0 m36b0 = Item.lp m36k0 b' by rw [hb']]
  simp (maxSteps := 4000000) (disch := first | omega | exact ok_of (by kernel_rfl) | decide) only [bA.u,seval,cut,if_pos,if_neg,m36b0,V28,R28,K28,hlt]
 | l :: r,i,hd,hi=>by
  simp only [List.length_cons] at hi
  have hlt : decide ((i : Int) < (L.length : Int)) = true := by simp; omega
  have i0 : (0 : Int) ≤ (i : Int) := by omega
  have i1 : (i : Int) < (L.length : Int) := by omega
  have hg : L[i]? = some l := by
   have := congrArg (·[0]?) hd
   simpa [List.getElem?_drop] using this
  have hd' : L.drop (i + 1) = r := by
   have := congrArg (List.drop 1) hd
   simpa [List.drop_drop] using this
  have lL := texts_length L
  have gL := texts_get hg
  have hpl := hp l (List.mem_of_getElem? hg)
  have h65 := c65 60 badC l hpl.1 (fits_bad l hpl.2)
  rw [any_bad] at h65
  have e : ((i : Int) + 1) = ((i + 1 : Nat) : Int) := by omega
  have ih := c28_loop L hL hp r (i + 1) hd' (by omega)
  rw [List.all_cons]
  generalize r.all labelB = rest at ih ⊢
  unfold labelB labelE
  by_cases h1 : 1 ≤ l.length
  ·have q1 : decide ((l.length : Int) < 1) = false := by simp; omega
   have z0 : (0 : Int) < (l.length : Int) := by omega
   have j1 : (l.length : Int) - 1 = ((l.length - 1 : Nat) : Int) := by omega
   have b1 : (0 : Int) ≤ ((l.length - 1 : Nat) : Int) := by omega
   have b2 : ((l.length - 1 : Nat) : Int) < (l.length : Int) := by omega
   rw [decide_eq_true h1]
   by_cases h2 : l.length ≤ 63
   ·have q2 : decide (63 < (l.length : Int)) = false := by simp; omega
    rw [decide_eq_true h2]
    cases x1 : (l.getD 0 0 == 45)
    ·cases x2 : (l.getD (l.length - 1) 0 == 45)
     ·cases x3 : l.all okC
      ·rw [x3] at h65
       simp only [Bool.and_false,Bool.false_and]
       obtain ⟨b',hb'⟩ : ∃ b',b' = m36b0 := ⟨_,rfl⟩
       rw [RunL_eq,show Item.lp m36k0 m36b0 = Item.lp m36k0 b' by rw [hb']]
       simp (maxSteps := 4000000) (disch := first | omega | exact ok_of (by kernel_rfl) | decide) only [bA.u,seval,cut,if_pos,if_neg,m36b0,V28,R28,K28,hlt,i0,i1,lL,gL,eq45,q1,q2,z0,j1,b1,b2,x1,x2,h65]
      ·rw [x3] at h65
       simp only [Bool.not_false,Bool.and_true,Bool.true_and]
       rw [← ih]
       obtain ⟨rhs,hr⟩ : ∃ z,z = fin R28 (RunL Q m36k0 m36b0 K28 ⟨V28 L (i + 1 : Nat),[],[],1⟩) := ⟨_,rfl⟩
       rw [← hr]
       obtain ⟨b',hb'⟩ : ∃ b',b' = m36b0 := ⟨_,rfl⟩
       rw [RunL_eq,show Item.lp m36k0 m36b0 = Item.lp m36k0 b' by rw [hb']]
       simp (maxSteps := 4000000) (disch := first | omega | exact ok_of (by kernel_rfl) | decide) only [bA.u,seval,cut,if_pos,if_neg,m36b0,V28,R28,K28,hlt,i0,i1,lL,gL,eq45,q1,q2,z0,j1,b1,b2,x1,x2,h65]
       subst hb'
       refine ((congrArg (fin _) (Run_lp Q _ _ _ _)).trans ?_)
       rw [hr]
       exact congrArg (fin R28) (RunL_canon (canon_cong (Eq.trans (by kernel_rfl) (show [(7,MV.sl 1 (texts L)),(8,.int .i64 (L.length : Int)),(9,.int .i64 ((i : Int) + 1))] = V28 L (i + 1 : Nat) from by rw [e]; rfl)) (by kernel_rfl) (by kernel_rfl)))
     ·simp only [Bool.not_true,Bool.and_false,Bool.false_and]
      obtain ⟨b',hb'⟩ : ∃ b',b' = m36b0 := ⟨_,rfl⟩
      rw [RunL_eq,show Item.lp m36k0 m36b0 = Item.lp m36k0 b' by rw [hb']]
      simp (maxSteps := 4000000) (disch := first | omega | exact ok_of (by kernel_rfl) | decide) only [bA.u,seval,cut,if_pos,if_neg,m36b0,V28,R28,K28,hlt,i0,i1,lL,gL,eq45,q1,q2,z0,j1,b1,b2,x1,x2]
    ·simp only [Bool.not_true,Bool.and_false,Bool.false_and]
     obtain ⟨b',hb'⟩ : ∃ b',b' = m36b0 := ⟨_,rfl⟩
     rw [RunL_eq,show Item.lp m36k0 m36b0 = Item.lp m36k0 b' by rw [hb']]
     simp (maxSteps := 4000000) (disch := first | omega | exact ok_of (by kernel_rfl) | decide) only [bA.u,seval,cut,if_pos,if_neg,m36b0,V28,R28,K28,hlt,i0,i1,lL,gL,eq45,q1,q2,z0,x1]
   ·have q2 : decide (63 < (l.length : Int)) = true := by simp; omega
    rw [decide_eq_false h2]
    simp only [Bool.and_false,Bool.false_and]
    obtain ⟨b',hb'⟩ : ∃ b',b' = m36b0 := ⟨_,rfl⟩
    rw [RunL_eq,show Item.lp m36k0 m36b0 = Item.lp m36k0 b' by rw [hb']]
    simp (maxSteps := 4000000) (disch := first | omega | exact ok_of (by kernel_rfl) | decide) only [bA.u,seval,cut,if_pos,if_neg,m36b0,V28,R28,K28,hlt,i0,i1,lL,gL,eq45,q1,q2]
  ·have q1 : decide ((l.length : Int) < 1) = true := decide_eq_true (by omega)
   rw [decide_eq_false h1]
   simp only [Bool.false_and]
   obtain ⟨b',hb'⟩ : ∃ b',b' = m36b0 := ⟨_,rfl⟩
   rw [RunL_eq,show Item.lp m36k0 m36b0 = Item.lp m36k0 b' by rw [hb']]
   simp (maxSteps := 4000000) (disch := first | omega | exact ok_of (by kernel_rfl) | decide) only [bA.u,seval,cut,if_pos,if_neg,m36b0,V28,R28,K28,hlt,i0,i1,lL,gL,eq45,q1]
theorem splits_len (s : List UInt8) : (splits s).length ≤ s.length + 1 ∧ ∀ p ∈ splits s,p.length ≤ s.length := by
 refine ⟨?_,fun p hp=>?_⟩
 ·induction s with
  | nil=>simp [splits]
  | cons c r ih =>
   unfold splits
   split
   ·simp; omega
   ·have hn := splits_ne r
    cases hs : splits r with
    | nil=>exact (hn hs).elim
    | cons a ps=>rw [hs] at ih; simp at ih ⊢; omega
 ·rw [← split_eq] at hp
  exact split_length s p hp
theorem c28 (s : List UInt8) (hs : s.length < 100000) (ha : s.any high = false) : Call Q 36 [.str s] = some (.bool (machB s)) := by
 have hsp : Call Q 58 [.str s,.str [46]] = some (.sl 1 (texts (splits s))) := by
  rw [Call_prim Q (g := pSplit) rfl]
  simp only [pSplit]
  rw [if_pos ⟨by decide,by omega⟩,split_eq]
  all_goals rfl
 have hl := splits_len s
 have lL := texts_length (splits s)
 unfold machB
 rw [Call_fn Q (m := m36) rfl rfl,← c28_loop (splits s) (by omega) (fun p hp=>⟨by have := hl.2 p hp; omega,splits_all high s ha p hp⟩) (splits s) 0 rfl (by omega)]
 simp (maxSteps := 4000000) (disch := first | omega | exact ok_of (by kernel_rfl) | decide) only [bA.u,seval,cut,if_pos,if_neg,m36,Run_loop,hsp,lL]
 exact congrArg (fin R28) (RunL_canon (canon_cong (by kernel_rfl) (by kernel_rfl) (by kernel_rfl)))
theorem c32 (h l : List UInt8) (hh : h.length < 100000) (hl2 : l.length < 100000) (ha : h.any high = false) : Call Q 40 [.str h,.str l] = some (.bool (underB h l)) := by
 have h28 := c28 h hh ha
 have h30 := c30 h l (by omega) (by omega)
 have h29 := c29 h (by omega)
 have h29' := c29 l (by omega)
 unfold underB
 rw [Call_fn Q (m := m40) rfl rfl]
 cases hm : machB h
 ·rw [hm] at h28
  simp (maxSteps := 4000000) (disch := first | omega | exact ok_of (by kernel_rfl) | decide) only [bA.u,seval,cut,if_pos,if_neg,m40,h28]
 ·rw [hm] at h28
  by_cases hl : l = []
  ·subst hl
   rw [if_pos rfl]
   simp (maxSteps := 4000000) (disch := first | omega | exact ok_of (by kernel_rfl) | decide) only [bA.u,seval,cut,if_pos,if_neg,m40,h28]
  ·have q : (l == []) = false := by rw [eqStr]; simp [hl]
   have q0 : (0 : Int) < (l.length : Int) := by have := List.length_pos_iff.2 hl; omega
   rw [if_neg hl]
   by_cases hd : l.getD 0 0 = 46
   ·have q1 : (l.getD 0 0 == 46) = true := by rw [hd]; rfl
    rw [if_pos hd]
    simp (maxSteps := 4000000) (disch := first | omega | exact ok_of (by kernel_rfl) | decide) only [bA.u,seval,cut,if_pos,if_neg,m40,h28,h30,q,q0,q1,eq46]
   ·have q1 : (l.getD 0 0 == 46) = false := by rw [beq_eq_false_iff_ne]; exact hd
    rw [if_neg hd]
    unfold alikeB
    rw [← eqStr]
    simp (maxSteps := 4000000) (disch := first | omega | exact ok_of (by kernel_rfl) | decide) only [bA.u,seval,cut,if_pos,if_neg,m40,h28,h29,h29',q,q0,q1,eq46]
end Go.Mini.Nm
