/- General names: the document's over Mini: as values. -/
import Derived.Test.YtncpjcojnjbhlaaGreatDoorG12
namespace Go.Mini
open Go Go.Proofs.YtncpjcojnjbhlaaGreatDoor
set_option maxRecDepth 10000
set_option maxHeartbeats 40000000
set_option linter.unusedSimpArgs false


theorem high_eq : (fun c : UInt8 => decide (128 ≤ c.toNat)) = high := rfl
def U74 (lim : Bool) (n i : Int) : List (Nat × MV) := [(1, .bool lim), (2, .ptr 0 0), (5, .int .i64 n), (9, .int .i64 i)]
theorem c74_ascii (kk : Int) (t : List UInt8) (dv : MV) (dd : Dn) (hdv : isDir dv dd) (ht : t.length < 1000000) (lim : Bool) (K : List Item) : ∀ (r : List UInt8) (i : Nat), t.drop i = r → i + r.length = t.length →
    fin R74 (RunL Q m74k1 m74b1 (.blk 2 :: K) ⟨U74 lim t.length i, [], O74 kk t dv, 2⟩) = if r.any high = true then some (.bool false) else fin R74 (Run Q K ⟨(72, .bool false) :: U74 lim t.length t.length, [], O74 kk t dv, 14⟩)
  | [], i, hd, hi => by
    have hi' : i = t.length := by simpa using hi
    subst hi'
    have hlt : decide ((t.length : Int) < (t.length : Int)) = false := by simp
    obtain ⟨b', hb'⟩ : ∃ b', b' = m74b1 := ⟨_, rfl⟩
    rw [RunL_eq, show Item.lp m74k1 m74b1 = Item.lp m74k1 b' by rw [hb']]
    rw [if_neg (by simp)]
    simp (maxSteps := 99999999) (disch := first | decide | omega | exact ok_of (by kernel_rfl)) only [m74b1, U74, O74, R74, hlt, Nat.reduceAdd, Nat.reduceMul, Nat.reduceLeDiff, Nat.reduceEqDiff, Nat.reduceLT, reduceCtorEq, cut, Int.reduceLE, Int.reduceLT, Int.reduceToNat, Int.reduceEq, Int.reduceNeg, Int.reduceMul, Int.reduceAdd, Int.reduceSub, bC.u, bN.u, bD.u]
  | c :: r, i, hd, hi => by
    simp only [List.length_cons] at hi
    have hlt : decide ((i : Int) < (t.length : Int)) = true := by simp; omega
    have i0 : (0 : Int) ≤ (i : Int) := by omega
    have i1 : (i : Int) < (t.length : Int) := by omega
    have hg : t[i]? = some c := by
      have := congrArg (·[0]?) hd
      simpa [List.getElem?_drop] using this
    have hg' : t.getD i 0 = c := by rw [List.getD_eq_getElem?_getD, hg]; rfl
    have hd' : t.drop (i + 1) = r := by
      have := congrArg (List.drop 1) hd
      simpa [List.drop_drop] using this
    have e : ((i : Int) + 1) = ((i + 1 : Nat) : Int) := by omega
    have ih := c74_ascii kk t dv dd hdv ht lim K r (i + 1) hd' (by omega)
    have e1 : decide ((128 : Int) ≤ (c.toNat : Int)) = high c := by unfold high; rw [Bool.eq_iff_iff]; simp; omega
    rw [List.any_cons]
    obtain ⟨b', hb'⟩ : ∃ b', b' = m74b1 := ⟨_, rfl⟩
    rw [RunL_eq, show Item.lp m74k1 m74b1 = Item.lp m74k1 b' by rw [hb']]
    cases hp : high c
    · rw [Bool.false_or, ← ih]
      obtain ⟨rhs, hr⟩ : ∃ z, z = fin R74 (RunL Q m74k1 m74b1 (.blk 2 :: K) ⟨U74 lim t.length (i + 1 : Nat), [], O74 kk t dv, 2⟩) := ⟨_, rfl⟩
      rw [← hr]
      simp (maxSteps := 99999999) (disch := first | decide | omega | exact ok_of (by kernel_rfl)) only [m74b1, U74, O74, R74, hlt, i0, i1, hg', e1, hp, Nat.reduceAdd, Nat.reduceMul, Nat.reduceLeDiff, Nat.reduceEqDiff, Nat.reduceLT, reduceCtorEq, cut, Int.reduceLE, Int.reduceLT, Int.reduceToNat, Int.reduceEq, Int.reduceNeg, Int.reduceMul, Int.reduceAdd, Int.reduceSub, bC.u, bN.u, bD.u]
      subst hb'
      refine ((congrArg (fin _) (Run_lp Q _ _ _ _)).trans ?_)
      rw [hr]
      rcases hdv with rfl | ⟨rfl, rfl⟩ <;> exact congrArg (fin R74) (RunL_canon (canon_cong (Eq.trans (by kernel_rfl) (show [(1, MV.bool lim), (2, .ptr 0 0), (5, .int .i64 (t.length : Int)), (9, .int .i64 ((i : Int) + 1))] = U74 lim t.length (i + 1 : Nat) from by rw [e]; rfl)) (by kernel_rfl) (by kernel_rfl)))
    · rw [Bool.true_or, if_pos rfl]
      simp (maxSteps := 99999999) (disch := first | decide | omega | exact ok_of (by kernel_rfl)) only [m74b1, U74, O74, R74, hlt, i0, i1, hg', e1, hp, Nat.reduceAdd, Nat.reduceMul, Nat.reduceLeDiff, Nat.reduceEqDiff, Nat.reduceLT, reduceCtorEq, cut, Int.reduceLE, Int.reduceLT, Int.reduceToNat, Int.reduceEq, Int.reduceNeg, Int.reduceMul, Int.reduceAdd, Int.reduceSub, bC.u, bN.u, bD.u]
theorem c74 (k : Int) (t : List UInt8) (dv : MV) (d : Dn) (hdv : isDir dv d) (ht : t.length < 1000000) (lim : Bool) : Call Q 74 [gM k t dv, .bool lim] = some (.bool (rightB k t d lim)) := by
  have hal := attrs_length d
  have e0 : decide ((0 : Int) < (d.length : Int)) = decide (0 < d.length) := by rw [Bool.eq_iff_iff]; simp
  have e1 : decide ((0 : Int) < (t.length : Int)) = decide (0 < t.length) := by rw [Bool.eq_iff_iff]; simp
  have e2 : decide ((t.length : Int) ≤ 64) = decide (t.length ≤ 64) := by rw [Bool.eq_iff_iff]; simp; omega
  have s4 : ((t.length : Int) == 4) = decide (t.length = 4) := by rw [Bool.eq_iff_iff]; simp; omega
  have s16 : ((t.length : Int) == 16) = decide (t.length = 16) := by rw [Bool.eq_iff_iff]; simp; omega
  have s8 : ((t.length : Int) != 8) = !decide (t.length = 8) := by rw [bne, show ((t.length : Int) == 8) = decide (t.length = 8) by rw [Bool.eq_iff_iff]; simp; omega]
  have s32 : ((t.length : Int) != 32) = !decide (t.length = 32) := by rw [bne, show ((t.length : Int) == 32) = decide (t.length = 32) by rw [Bool.eq_iff_iff]; simp; omega]
  unfold rightB gM
  rw [high_eq, Call_fn Q (m := m74) rfl rfl]
  by_cases h4 : k = 4
  · have q4 : (k == 4) = true := by rw [h4]; rfl
    rw [if_pos h4]
    rcases hdv with rfl | ⟨rfl, rfl⟩
    · cases lim
      · simp (maxSteps := 99999999) (disch := first | decide | omega | exact ok_of (by kernel_rfl)) only [m74, q4, hal, e0, Nat.reduceAdd, Nat.reduceMul, Nat.reduceLeDiff, Nat.reduceEqDiff, Nat.reduceLT, reduceCtorEq, cut, Int.reduceLE, Int.reduceLT, Int.reduceToNat, Int.reduceEq, Int.reduceNeg, Int.reduceMul, Int.reduceAdd, Int.reduceSub, bC.u, bB.u, bN.u, bD.u]
      · simp (maxSteps := 99999999) (disch := first | decide | omega | exact ok_of (by kernel_rfl)) only [m74, q4, hal, e0, Nat.reduceAdd, Nat.reduceMul, Nat.reduceLeDiff, Nat.reduceEqDiff, Nat.reduceLT, reduceCtorEq, cut, Int.reduceLE, Int.reduceLT, Int.reduceToNat, Int.reduceEq, Int.reduceNeg, Int.reduceMul, Int.reduceAdd, Int.reduceSub, bC.u, bB.u, bN.u, bD.u]
    · cases lim
      · simp (maxSteps := 99999999) (disch := first | decide | omega | exact ok_of (by kernel_rfl)) only [m74, q4, hal, e0, Nat.reduceAdd, Nat.reduceMul, Nat.reduceLeDiff, Nat.reduceEqDiff, Nat.reduceLT, reduceCtorEq, cut, Int.reduceLE, Int.reduceLT, Int.reduceToNat, Int.reduceEq, Int.reduceNeg, Int.reduceMul, Int.reduceAdd, Int.reduceSub, bC.u, bB.u, bN.u, bD.u]
      · simp (maxSteps := 99999999) (disch := first | decide | omega | exact ok_of (by kernel_rfl)) only [m74, q4, hal, e0, Nat.reduceAdd, Nat.reduceMul, Nat.reduceLeDiff, Nat.reduceEqDiff, Nat.reduceLT, reduceCtorEq, cut, Int.reduceLE, Int.reduceLT, Int.reduceToNat, Int.reduceEq, Int.reduceNeg, Int.reduceMul, Int.reduceAdd, Int.reduceSub, bC.u, bB.u, bN.u, bD.u]
  have q4 : (k == 4) = false := by rw [beq_eq_false_iff_ne]; exact h4
  rw [if_neg h4]
  by_cases h7 : k = 7
  · have q7 : (k == 7) = true := by rw [h7]; rfl
    rw [if_pos h7]
    cases lim
    · rw [if_neg (by decide)]
      cases x4 : decide (t.length = 4)
      · simp (maxSteps := 99999999) (disch := first | decide | omega | exact ok_of (by kernel_rfl)) only [m74, q4, q7, s4, s16, x4, Nat.reduceAdd, Nat.reduceMul, Nat.reduceLeDiff, Nat.reduceEqDiff, Nat.reduceLT, reduceCtorEq, cut, Int.reduceLE, Int.reduceLT, Int.reduceToNat, Int.reduceEq, Int.reduceNeg, Int.reduceMul, Int.reduceAdd, Int.reduceSub, bC.u, bB.u, bN.u, bD.u]
      · simp (maxSteps := 99999999) (disch := first | decide | omega | exact ok_of (by kernel_rfl)) only [m74, q4, q7, s4, s16, x4, Nat.reduceAdd, Nat.reduceMul, Nat.reduceLeDiff, Nat.reduceEqDiff, Nat.reduceLT, reduceCtorEq, cut, Int.reduceLE, Int.reduceLT, Int.reduceToNat, Int.reduceEq, Int.reduceNeg, Int.reduceMul, Int.reduceAdd, Int.reduceSub, bC.u, bB.u, bN.u, bD.u]
    · rw [if_pos rfl]
      cases x8 : decide (t.length = 8)
      · cases x32 : decide (t.length = 32)
        · simp (maxSteps := 99999999) (disch := first | decide | omega | exact ok_of (by kernel_rfl)) only [m74, q4, q7, s8, s32, x8, x32, Nat.reduceAdd, Nat.reduceMul, Nat.reduceLeDiff, Nat.reduceEqDiff, Nat.reduceLT, reduceCtorEq, cut, Int.reduceLE, Int.reduceLT, Int.reduceToNat, Int.reduceEq, Int.reduceNeg, Int.reduceMul, Int.reduceAdd, Int.reduceSub, bC.u, bB.u, bN.u, bD.u]
        · have hl : t.length = 8 ∨ t.length = 32 := .inr (by simpa using x32)
          rw [Bool.or_true, Bool.true_and]
          obtain ⟨rhs, hr⟩ : ∃ z, z = some (MV.bool (maskB (t.drop (t.length / 2)))) := ⟨_, rfl⟩
          rw [← hr]
          simp (maxSteps := 99999999) (disch := first | decide | omega | exact ok_of (by kernel_rfl)) only [m74, Run_loop, q4, q7, s8, s32, x8, x32, Nat.reduceAdd, Nat.reduceMul, Nat.reduceLeDiff, Nat.reduceEqDiff, Nat.reduceLT, reduceCtorEq, cut, Int.reduceLE, Int.reduceLT, Int.reduceToNat, Int.reduceEq, Int.reduceNeg, Int.reduceMul, Int.reduceAdd, Int.reduceSub, bC.u, bB.u, bN.u, bD.u]
          have hm := fun K => c74_mask k t dv d hdv hl K (8 * (t.drop (t.length / 2)).length) false 0 (by rw [List.length_drop]; omega)
          rw [hr]
          rcases hdv with rfl | ⟨rfl, rfl⟩
          · refine (congrArg (fin _) (RunL_canon (canon_cong (V := V74 t.length false (0 : Nat)) (O := O74 k t (.sl 2 (attrs d))) (nx := 2) (by kernel_rfl) (by kernel_rfl) (by kernel_rfl)))).trans ?_
            exact hm _
          · refine (congrArg (fin _) (RunL_canon (canon_cong (V := V74 t.length false (0 : Nat)) (O := O74 k t .nilsl) (nx := 2) (by kernel_rfl) (by kernel_rfl) (by kernel_rfl)))).trans ?_
            exact hm _
      · have hl : t.length = 8 ∨ t.length = 32 := .inl (by simpa using x8)
        rw [Bool.true_or, Bool.true_and]
        obtain ⟨rhs, hr⟩ : ∃ z, z = some (MV.bool (maskB (t.drop (t.length / 2)))) := ⟨_, rfl⟩
        rw [← hr]
        simp (maxSteps := 99999999) (disch := first | decide | omega | exact ok_of (by kernel_rfl)) only [m74, Run_loop, q4, q7, s8, s32, x8, Nat.reduceAdd, Nat.reduceMul, Nat.reduceLeDiff, Nat.reduceEqDiff, Nat.reduceLT, reduceCtorEq, cut, Int.reduceLE, Int.reduceLT, Int.reduceToNat, Int.reduceEq, Int.reduceNeg, Int.reduceMul, Int.reduceAdd, Int.reduceSub, bC.u, bB.u, bN.u, bD.u]
        have hm := fun K => c74_mask k t dv d hdv hl K (8 * (t.drop (t.length / 2)).length) false 0 (by rw [List.length_drop]; omega)
        rw [hr]
        rcases hdv with rfl | ⟨rfl, rfl⟩
        · refine (congrArg (fin _) (RunL_canon (canon_cong (V := V74 t.length false (0 : Nat)) (O := O74 k t (.sl 2 (attrs d))) (nx := 2) (by kernel_rfl) (by kernel_rfl) (by kernel_rfl)))).trans ?_
          exact hm _
        · refine (congrArg (fin _) (RunL_canon (canon_cong (V := V74 t.length false (0 : Nat)) (O := O74 k t .nilsl) (nx := 2) (by kernel_rfl) (by kernel_rfl) (by kernel_rfl)))).trans ?_
          exact hm _
  have q7 : (k == 7) = false := by rw [beq_eq_false_iff_ne]; exact h7
  rw [if_neg h7]
  obtain ⟨rhs, hr⟩ : ∃ z, z = some (MV.bool ((decide (0 < t.length) || lim) && decide (t.length ≤ 64) && !t.any high)) := ⟨_, rfl⟩
  rw [← hr]
  simp (maxSteps := 99999999) (disch := first | decide | omega | exact ok_of (by kernel_rfl)) only [m74, Run_loop, q4, q7, Nat.reduceAdd, Nat.reduceMul, Nat.reduceLeDiff, Nat.reduceEqDiff, Nat.reduceLT, reduceCtorEq, cut, Int.reduceLE, Int.reduceLT, Int.reduceToNat, Int.reduceEq, Int.reduceNeg, Int.reduceMul, Int.reduceAdd, Int.reduceSub, bC.u, bB.u, bN.u, bD.u]
  have hasc := fun K => c74_ascii k t dv d hdv ht lim K t 0 rfl (by omega)
  rcases hdv with rfl | ⟨rfl, rfl⟩
  · refine (congrArg (fin _) (RunL_canon (canon_cong (V := U74 lim t.length (0 : Nat)) (O := O74 k t (.sl 2 (attrs d))) (nx := 2) (by kernel_rfl) (by kernel_rfl) (by kernel_rfl)))).trans ?_
    refine (hasc _).trans ?_
    rw [hr]
    cases ha : t.any high
    · rw [if_neg (by decide), Bool.not_false, Bool.and_true]
      cases x1 : decide (0 < t.length)
      · cases lim
        · simp (maxSteps := 99999999) (disch := first | decide | omega | exact ok_of (by kernel_rfl)) only [U74, O74, R74, e1, x1, Nat.reduceAdd, Nat.reduceMul, Nat.reduceLeDiff, Nat.reduceEqDiff, Nat.reduceLT, reduceCtorEq, cut, Int.reduceLE, Int.reduceLT, Int.reduceToNat, Int.reduceEq, Int.reduceNeg, Int.reduceMul, Int.reduceAdd, Int.reduceSub, bC.u, bB.u, bN.u, bD.u]
        · cases x2 : decide (t.length ≤ 64)
          · simp (maxSteps := 99999999) (disch := first | decide | omega | exact ok_of (by kernel_rfl)) only [U74, O74, R74, e1, e2, x1, x2, Nat.reduceAdd, Nat.reduceMul, Nat.reduceLeDiff, Nat.reduceEqDiff, Nat.reduceLT, reduceCtorEq, cut, Int.reduceLE, Int.reduceLT, Int.reduceToNat, Int.reduceEq, Int.reduceNeg, Int.reduceMul, Int.reduceAdd, Int.reduceSub, bC.u, bB.u, bN.u, bD.u]
          · simp (maxSteps := 99999999) (disch := first | decide | omega | exact ok_of (by kernel_rfl)) only [U74, O74, R74, e1, e2, x1, x2, Nat.reduceAdd, Nat.reduceMul, Nat.reduceLeDiff, Nat.reduceEqDiff, Nat.reduceLT, reduceCtorEq, cut, Int.reduceLE, Int.reduceLT, Int.reduceToNat, Int.reduceEq, Int.reduceNeg, Int.reduceMul, Int.reduceAdd, Int.reduceSub, bC.u, bB.u, bN.u, bD.u]
      · cases x2 : decide (t.length ≤ 64)
        · simp (maxSteps := 99999999) (disch := first | decide | omega | exact ok_of (by kernel_rfl)) only [U74, O74, R74, e1, e2, x1, x2, Nat.reduceAdd, Nat.reduceMul, Nat.reduceLeDiff, Nat.reduceEqDiff, Nat.reduceLT, reduceCtorEq, cut, Int.reduceLE, Int.reduceLT, Int.reduceToNat, Int.reduceEq, Int.reduceNeg, Int.reduceMul, Int.reduceAdd, Int.reduceSub, bC.u, bB.u, bN.u, bD.u]
        · simp (maxSteps := 99999999) (disch := first | decide | omega | exact ok_of (by kernel_rfl)) only [U74, O74, R74, e1, e2, x1, x2, Nat.reduceAdd, Nat.reduceMul, Nat.reduceLeDiff, Nat.reduceEqDiff, Nat.reduceLT, reduceCtorEq, cut, Int.reduceLE, Int.reduceLT, Int.reduceToNat, Int.reduceEq, Int.reduceNeg, Int.reduceMul, Int.reduceAdd, Int.reduceSub, bC.u, bB.u, bN.u, bD.u]
    · rw [if_pos rfl, Bool.not_true, Bool.and_false]
  · refine (congrArg (fin _) (RunL_canon (canon_cong (V := U74 lim t.length (0 : Nat)) (O := O74 k t .nilsl) (nx := 2) (by kernel_rfl) (by kernel_rfl) (by kernel_rfl)))).trans ?_
    refine (hasc _).trans ?_
    rw [hr]
    cases ha : t.any high
    · rw [if_neg (by decide), Bool.not_false, Bool.and_true]
      cases x1 : decide (0 < t.length)
      · cases lim
        · simp (maxSteps := 99999999) (disch := first | decide | omega | exact ok_of (by kernel_rfl)) only [U74, O74, R74, e1, x1, Nat.reduceAdd, Nat.reduceMul, Nat.reduceLeDiff, Nat.reduceEqDiff, Nat.reduceLT, reduceCtorEq, cut, Int.reduceLE, Int.reduceLT, Int.reduceToNat, Int.reduceEq, Int.reduceNeg, Int.reduceMul, Int.reduceAdd, Int.reduceSub, bC.u, bB.u, bN.u, bD.u]
        · cases x2 : decide (t.length ≤ 64)
          · simp (maxSteps := 99999999) (disch := first | decide | omega | exact ok_of (by kernel_rfl)) only [U74, O74, R74, e1, e2, x1, x2, Nat.reduceAdd, Nat.reduceMul, Nat.reduceLeDiff, Nat.reduceEqDiff, Nat.reduceLT, reduceCtorEq, cut, Int.reduceLE, Int.reduceLT, Int.reduceToNat, Int.reduceEq, Int.reduceNeg, Int.reduceMul, Int.reduceAdd, Int.reduceSub, bC.u, bB.u, bN.u, bD.u]
          · simp (maxSteps := 99999999) (disch := first | decide | omega | exact ok_of (by kernel_rfl)) only [U74, O74, R74, e1, e2, x1, x2, Nat.reduceAdd, Nat.reduceMul, Nat.reduceLeDiff, Nat.reduceEqDiff, Nat.reduceLT, reduceCtorEq, cut, Int.reduceLE, Int.reduceLT, Int.reduceToNat, Int.reduceEq, Int.reduceNeg, Int.reduceMul, Int.reduceAdd, Int.reduceSub, bC.u, bB.u, bN.u, bD.u]
      · cases x2 : decide (t.length ≤ 64)
        · simp (maxSteps := 99999999) (disch := first | decide | omega | exact ok_of (by kernel_rfl)) only [U74, O74, R74, e1, e2, x1, x2, Nat.reduceAdd, Nat.reduceMul, Nat.reduceLeDiff, Nat.reduceEqDiff, Nat.reduceLT, reduceCtorEq, cut, Int.reduceLE, Int.reduceLT, Int.reduceToNat, Int.reduceEq, Int.reduceNeg, Int.reduceMul, Int.reduceAdd, Int.reduceSub, bC.u, bB.u, bN.u, bD.u]
        · simp (maxSteps := 99999999) (disch := first | decide | omega | exact ok_of (by kernel_rfl)) only [U74, O74, R74, e1, e2, x1, x2, Nat.reduceAdd, Nat.reduceMul, Nat.reduceLeDiff, Nat.reduceEqDiff, Nat.reduceLT, reduceCtorEq, cut, Int.reduceLE, Int.reduceLT, Int.reduceToNat, Int.reduceEq, Int.reduceNeg, Int.reduceMul, Int.reduceAdd, Int.reduceSub, bC.u, bB.u, bN.u, bD.u]
    · rw [if_pos rfl, Bool.not_true, Bool.and_false]

/-! ### As values -/
def valE (k : Int) (t : List UInt8) (d : Dn) (lim : Bool) : Int :=
  if (!kindB k || (!(k == 4) && decide (0 < d.length)) || (k == 4 && !(t == []))) = true then 30
  else if (k == 4) = true then (if dnE d = 0 then (if rightB k t d lim = true then 0 else 31) else 31)
  else if rightB k t d lim = true then 0 else 31
def valV (k : Int) (t : List UInt8) (d : Dn) : MV := if (k == 4) = true then .agg [.int .i64 2, .int .i64 4, .bool true, .nilsl, .sl 5 [dnVal d]] else .agg [.int .i64 2, .int .i64 k, .bool false, .bs t, .nilsl]
def valR (k : Int) (t : List UInt8) (d : Dn) (lim : Bool) : MV := .tup [if valE k t d lim = 0 then valV k t d else .agg zero5, .int .i64 (valE k t d lim)]
theorem call_nil (f : Nat) (m : MFunc) (hf : Q.prim f = none) (hm : Q.fn f = some m) (h : entry m [.nilsl] = entry m [.sl 2 (attrs [])]) : Call Q f [.nilsl] = Call Q f [.sl 2 (attrs [])] := by
  rw [Call_fn Q hf hm, Call_fn Q hf hm, h]
theorem c20d {dv : MV} {d : Dn} (hdv : isDir dv d) (hl : okLens d) : Call Q 20 [dv] = some (.tup [dnVal d, .int .i64 (dnE d)]) := by
  rcases hdv with rfl | ⟨rfl, rfl⟩
  · exact c20 d hl
  · rw [call_nil 20 m20 rfl rfl rfl]; exact c20 [] hl
theorem c19d {dv : MV} {d : Dn} (hdv : isDir dv d) (hl : okLens d) : Call Q 19 [dv] = some (.tup [dnVal d, .int .i64 (dnE d)]) := by
  rcases hdv with rfl | ⟨rfl, rfl⟩
  · exact c19 d hl
  · rw [call_nil 19 m19 rfl rfl rfl]; exact c19 [] hl
end Go.Mini
