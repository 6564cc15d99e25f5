/- General names as values: the document's over Mini. -/
import Derived.Test.YtncpjcojnjbhlaaGreatDoorG13
namespace Go.Mini
open Go Go.Proofs.YtncpjcojnjbhlaaGreatDoor
set_option maxRecDepth 10000
set_option maxHeartbeats 40000000
set_option linter.unusedSimpArgs false


theorem c35 (k : Int) (t : List UInt8) (dv : MV) (d : Dn) (hdv : isDir dv d) (ht : t.length < 1000000) (hl : okLens d) (lim : Bool) : Call Q 35 [gM k t dv, .bool lim] = some (valR k t d lim) := by
  have hal := attrs_length d
  have e0 : decide ((0 : Int) < (d.length : Int)) = decide (0 < d.length) := by rw [Bool.eq_iff_iff]; simp
  have hk := c73 k
  have hd := c20d hdv hl
  have hrt := c74 k t dv d hdv ht lim
  unfold gM at hrt ⊢
  unfold valR valE valV
  rw [Call_fn Q (m := m35) rfl rfl]
  rcases hdv with rfl | ⟨rfl, rfl⟩
  · cases hb : kindB k
    · rw [hb] at hk
      simp only [Bool.not_false, Bool.true_or, if_true]
      rw [if_neg (by decide)]
      simp (maxSteps := 99999999) (disch := first | decide | omega | exact ok_of (by kernel_rfl)) only [m35, hk, hrt, hd, zero5, List.set, e0, hal, Nat.reduceAdd, Nat.reduceMul, Nat.reduceLeDiff, Nat.reduceEqDiff, Nat.reduceLT, reduceCtorEq, cut, Nat.reducePow, Int.reduceDiv, Int.reduceMod, Int.reduceBNe, Int.reduceBEq, Int.reduceLE, Int.reduceLT, Int.reduceToNat, Int.reduceEq, Int.reduceNeg, Int.reduceMul, Int.reduceAdd, Int.reduceSub, bC.u, bB.u, bN.u, bL.u, bR.u, bD.u]
    · rw [hb] at hk
      simp only [Bool.not_true, Bool.false_or]
      cases q4 : (k == 4)
      · have ne4 : (k != 4) = true := by rw [bne, q4]; rfl
        simp only [Bool.not_false, Bool.true_and, Bool.false_and, Bool.or_false, Bool.false_eq_true, if_false]
        cases x1 : decide (0 < List.length d)
        · have tne : (t != []) = true ∨ (t != []) = false := by cases (t != []) <;> simp
          rw [if_neg (show ¬ false = true by decide)]
          cases hr : rightB k t d lim
          · rw [hr] at hrt
            rw [if_neg (by decide), if_neg (by decide)]
            simp (maxSteps := 99999999) (disch := first | decide | omega | exact ok_of (by kernel_rfl)) only [m35, hk, hrt, hd, q4, ne4, x1, hr, tne, zero5, List.set, e0, hal, Nat.reduceAdd, Nat.reduceMul, Nat.reduceLeDiff, Nat.reduceEqDiff, Nat.reduceLT, reduceCtorEq, cut, Nat.reducePow, Int.reduceDiv, Int.reduceMod, Int.reduceBNe, Int.reduceBEq, Int.reduceLE, Int.reduceLT, Int.reduceToNat, Int.reduceEq, Int.reduceNeg, Int.reduceMul, Int.reduceAdd, Int.reduceSub, bC.u, bB.u, bN.u, bL.u, bR.u, bD.u]
          · rw [hr] at hrt
            rw [if_pos rfl, if_pos rfl]
            simp (maxSteps := 99999999) (disch := first | decide | omega | exact ok_of (by kernel_rfl)) only [m35, hk, hrt, hd, q4, ne4, x1, hr, tne, zero5, List.set, e0, hal, Nat.reduceAdd, Nat.reduceMul, Nat.reduceLeDiff, Nat.reduceEqDiff, Nat.reduceLT, reduceCtorEq, cut, Nat.reducePow, Int.reduceDiv, Int.reduceMod, Int.reduceBNe, Int.reduceBEq, Int.reduceLE, Int.reduceLT, Int.reduceToNat, Int.reduceEq, Int.reduceNeg, Int.reduceMul, Int.reduceAdd, Int.reduceSub, bC.u, bB.u, bN.u, bL.u, bR.u, bD.u]
        · rw [if_pos rfl, if_neg (by decide)]
          simp (maxSteps := 99999999) (disch := first | decide | omega | exact ok_of (by kernel_rfl)) only [m35, hk, hrt, hd, q4, ne4, x1, zero5, List.set, e0, hal, Nat.reduceAdd, Nat.reduceMul, Nat.reduceLeDiff, Nat.reduceEqDiff, Nat.reduceLT, reduceCtorEq, cut, Nat.reducePow, Int.reduceDiv, Int.reduceMod, Int.reduceBNe, Int.reduceBEq, Int.reduceLE, Int.reduceLT, Int.reduceToNat, Int.reduceEq, Int.reduceNeg, Int.reduceMul, Int.reduceAdd, Int.reduceSub, bC.u, bB.u, bN.u, bL.u, bR.u, bD.u]
      · have ne4 : (k != 4) = false := by rw [bne, q4]; rfl
        have hk4 : k = 4 := by simpa using q4
        subst hk4
        simp only [Bool.not_true, Bool.false_and, Bool.true_and, Bool.false_or, if_true]
        cases x0 : (t == [])
        · have tne : (t != []) = true := by rw [bne, x0]; rfl
          simp only [Bool.not_false, if_true]
          rw [if_neg (by decide)]
          simp (maxSteps := 99999999) (disch := first | decide | omega | exact ok_of (by kernel_rfl)) only [m35, hk, hrt, hd, q4, ne4, x0, tne, zero5, List.set, e0, hal, Nat.reduceAdd, Nat.reduceMul, Nat.reduceLeDiff, Nat.reduceEqDiff, Nat.reduceLT, reduceCtorEq, cut, Nat.reducePow, Int.reduceDiv, Int.reduceMod, Int.reduceBNe, Int.reduceBEq, Int.reduceLE, Int.reduceLT, Int.reduceToNat, Int.reduceEq, Int.reduceNeg, Int.reduceMul, Int.reduceAdd, Int.reduceSub, bC.u, bB.u, bN.u, bL.u, bR.u, bD.u]
        · have tne : (t != []) = false := by rw [bne, x0]; rfl
          have ht0 : t = [] := by simpa using x0
          simp only [Bool.not_true, Bool.false_eq_true, if_false]
          rcases dnE_or d with h | h | h
          · have hv : dnVal d = .agg [.int .i64 0, .int .i64 16, .bool true, .nilsl, kidsM ((kidsV d).getD [])] := by unfold dnVal; rw [if_pos h]
            rw [h] at hd
            rw [hv] at hd ⊢
            simp only [h, if_true]
            cases hkk : (kidsV d).getD [] with
            | nil =>
              rw [hkk] at hd
              simp only [kidsM] at hd ⊢
              cases hr : rightB 4 t d lim
              · rw [hr] at hrt
                rw [if_neg (by decide), if_neg (by decide)]
                simp (maxSteps := 99999999) (disch := first | decide | omega | exact ok_of (by kernel_rfl)) only [m35, hk, hrt, hd, q4, ne4, x0, hr, tne, zero5, List.set, e0, hal, Nat.reduceAdd, Nat.reduceMul, Nat.reduceLeDiff, Nat.reduceEqDiff, Nat.reduceLT, reduceCtorEq, cut, Nat.reducePow, Int.reduceDiv, Int.reduceMod, Int.reduceBNe, Int.reduceBEq, Int.reduceLE, Int.reduceLT, Int.reduceToNat, Int.reduceEq, Int.reduceNeg, Int.reduceMul, Int.reduceAdd, Int.reduceSub, bC.u, bB.u, bN.u, bL.u, bR.u, bD.u]
              · rw [hr] at hrt
                rw [if_pos rfl, if_pos rfl]
                simp (maxSteps := 99999999) (disch := first | decide | omega | exact ok_of (by kernel_rfl)) only [m35, hk, hrt, hd, q4, ne4, x0, hr, tne, zero5, List.set, e0, hal, Nat.reduceAdd, Nat.reduceMul, Nat.reduceLeDiff, Nat.reduceEqDiff, Nat.reduceLT, reduceCtorEq, cut, Nat.reducePow, Int.reduceDiv, Int.reduceMod, Int.reduceBNe, Int.reduceBEq, Int.reduceLE, Int.reduceLT, Int.reduceToNat, Int.reduceEq, Int.reduceNeg, Int.reduceMul, Int.reduceAdd, Int.reduceSub, bC.u, bB.u, bN.u, bL.u, bR.u, bD.u]
            | cons kk ks =>
              rw [hkk] at hd
              simp only [kidsM] at hd ⊢
              cases hr : rightB 4 t d lim
              · rw [hr] at hrt
                rw [if_neg (by decide), if_neg (by decide)]
                simp (maxSteps := 99999999) (disch := first | decide | omega | exact ok_of (by kernel_rfl)) only [m35, hk, hrt, hd, q4, ne4, x0, hr, tne, zero5, List.set, e0, hal, Nat.reduceAdd, Nat.reduceMul, Nat.reduceLeDiff, Nat.reduceEqDiff, Nat.reduceLT, reduceCtorEq, cut, Nat.reducePow, Int.reduceDiv, Int.reduceMod, Int.reduceBNe, Int.reduceBEq, Int.reduceLE, Int.reduceLT, Int.reduceToNat, Int.reduceEq, Int.reduceNeg, Int.reduceMul, Int.reduceAdd, Int.reduceSub, bC.u, bB.u, bN.u, bL.u, bR.u, bD.u]
              · rw [hr] at hrt
                rw [if_pos rfl, if_pos rfl]
                simp (maxSteps := 99999999) (disch := first | decide | omega | exact ok_of (by kernel_rfl)) only [m35, hk, hrt, hd, q4, ne4, x0, hr, tne, zero5, List.set, e0, hal, Nat.reduceAdd, Nat.reduceMul, Nat.reduceLeDiff, Nat.reduceEqDiff, Nat.reduceLT, reduceCtorEq, cut, Nat.reducePow, Int.reduceDiv, Int.reduceMod, Int.reduceBNe, Int.reduceBEq, Int.reduceLE, Int.reduceLT, Int.reduceToNat, Int.reduceEq, Int.reduceNeg, Int.reduceMul, Int.reduceAdd, Int.reduceSub, bC.u, bB.u, bN.u, bL.u, bR.u, bD.u]
          · have hv : dnVal d = .agg zero5 := by unfold dnVal; rw [h]; exact if_neg (by decide)
            rw [h, hv] at hd
            rw [h, if_neg (show ¬ (30 : Int) = 0 by decide), if_neg (by decide)]
            simp (maxSteps := 99999999) (disch := first | decide | omega | exact ok_of (by kernel_rfl)) only [m35, hk, hrt, hd, q4, ne4, x0, tne, zero5, List.set, e0, hal, Nat.reduceAdd, Nat.reduceMul, Nat.reduceLeDiff, Nat.reduceEqDiff, Nat.reduceLT, reduceCtorEq, cut, Nat.reducePow, Int.reduceDiv, Int.reduceMod, Int.reduceBNe, Int.reduceBEq, Int.reduceLE, Int.reduceLT, Int.reduceToNat, Int.reduceEq, Int.reduceNeg, Int.reduceMul, Int.reduceAdd, Int.reduceSub, bC.u, bB.u, bN.u, bL.u, bR.u, bD.u]
          · have hv : dnVal d = .agg zero5 := by unfold dnVal; rw [h]; exact if_neg (by decide)
            rw [h, hv] at hd
            rw [h, if_neg (show ¬ (31 : Int) = 0 by decide), if_neg (by decide)]
            simp (maxSteps := 99999999) (disch := first | decide | omega | exact ok_of (by kernel_rfl)) only [m35, hk, hrt, hd, q4, ne4, x0, tne, zero5, List.set, e0, hal, Nat.reduceAdd, Nat.reduceMul, Nat.reduceLeDiff, Nat.reduceEqDiff, Nat.reduceLT, reduceCtorEq, cut, Nat.reducePow, Int.reduceDiv, Int.reduceMod, Int.reduceBNe, Int.reduceBEq, Int.reduceLE, Int.reduceLT, Int.reduceToNat, Int.reduceEq, Int.reduceNeg, Int.reduceMul, Int.reduceAdd, Int.reduceSub, bC.u, bB.u, bN.u, bL.u, bR.u, bD.u]
  · cases hb : kindB k
    · rw [hb] at hk
      simp only [Bool.not_false, Bool.true_or, if_true]
      rw [if_neg (by decide)]
      simp (maxSteps := 99999999) (disch := first | decide | omega | exact ok_of (by kernel_rfl)) only [m35, hk, hrt, hd, zero5, List.set, e0, hal, Nat.reduceAdd, Nat.reduceMul, Nat.reduceLeDiff, Nat.reduceEqDiff, Nat.reduceLT, reduceCtorEq, cut, Nat.reducePow, Int.reduceDiv, Int.reduceMod, Int.reduceBNe, Int.reduceBEq, Int.reduceLE, Int.reduceLT, Int.reduceToNat, Int.reduceEq, Int.reduceNeg, Int.reduceMul, Int.reduceAdd, Int.reduceSub, bC.u, bB.u, bN.u, bL.u, bR.u, bD.u]
    · rw [hb] at hk
      simp only [Bool.not_true, Bool.false_or]
      cases q4 : (k == 4)
      · have ne4 : (k != 4) = true := by rw [bne, q4]; rfl
        simp only [Bool.not_false, Bool.true_and, Bool.false_and, Bool.or_false, Bool.false_eq_true, if_false]
        simp only [List.length_nil, Nat.lt_irrefl, decide_false, Bool.false_eq_true, if_false]
        cases hr : rightB k t [] lim
        · rw [hr] at hrt
          rw [if_neg (by decide), if_neg (by decide)]
          simp (maxSteps := 99999999) (disch := first | decide | omega | exact ok_of (by kernel_rfl)) only [m35, hk, hrt, hd, q4, ne4, hr, zero5, List.set, e0, hal, Nat.reduceAdd, Nat.reduceMul, Nat.reduceLeDiff, Nat.reduceEqDiff, Nat.reduceLT, reduceCtorEq, cut, Nat.reducePow, Int.reduceDiv, Int.reduceMod, Int.reduceBNe, Int.reduceBEq, Int.reduceLE, Int.reduceLT, Int.reduceToNat, Int.reduceEq, Int.reduceNeg, Int.reduceMul, Int.reduceAdd, Int.reduceSub, bC.u, bB.u, bN.u, bL.u, bR.u, bD.u]
        · rw [hr] at hrt
          rw [if_pos rfl, if_pos rfl]
          simp (maxSteps := 99999999) (disch := first | decide | omega | exact ok_of (by kernel_rfl)) only [m35, hk, hrt, hd, q4, ne4, hr, zero5, List.set, e0, hal, Nat.reduceAdd, Nat.reduceMul, Nat.reduceLeDiff, Nat.reduceEqDiff, Nat.reduceLT, reduceCtorEq, cut, Nat.reducePow, Int.reduceDiv, Int.reduceMod, Int.reduceBNe, Int.reduceBEq, Int.reduceLE, Int.reduceLT, Int.reduceToNat, Int.reduceEq, Int.reduceNeg, Int.reduceMul, Int.reduceAdd, Int.reduceSub, bC.u, bB.u, bN.u, bL.u, bR.u, bD.u]
      · have ne4 : (k != 4) = false := by rw [bne, q4]; rfl
        have hk4 : k = 4 := by simpa using q4
        subst hk4
        simp only [Bool.not_true, Bool.false_and, Bool.true_and, Bool.false_or, if_true]
        cases x0 : (t == [])
        · have tne : (t != []) = true := by rw [bne, x0]; rfl
          simp only [Bool.not_false, if_true]
          rw [if_neg (by decide)]
          simp (maxSteps := 99999999) (disch := first | decide | omega | exact ok_of (by kernel_rfl)) only [m35, hk, hrt, hd, q4, ne4, x0, tne, zero5, List.set, e0, hal, Nat.reduceAdd, Nat.reduceMul, Nat.reduceLeDiff, Nat.reduceEqDiff, Nat.reduceLT, reduceCtorEq, cut, Nat.reducePow, Int.reduceDiv, Int.reduceMod, Int.reduceBNe, Int.reduceBEq, Int.reduceLE, Int.reduceLT, Int.reduceToNat, Int.reduceEq, Int.reduceNeg, Int.reduceMul, Int.reduceAdd, Int.reduceSub, bC.u, bB.u, bN.u, bL.u, bR.u, bD.u]
        · have tne : (t != []) = false := by rw [bne, x0]; rfl
          have ht0 : t = [] := by simpa using x0
          simp only [Bool.not_true, Bool.false_eq_true, if_false]
          rcases dnE_or [] with h | h | h
          · have hv : dnVal [] = .agg [.int .i64 0, .int .i64 16, .bool true, .nilsl, kidsM ((kidsV []).getD [])] := by unfold dnVal; rw [if_pos h]
            rw [h] at hd
            rw [hv] at hd ⊢
            simp only [h, if_true]
            cases hkk : (kidsV []).getD [] with
            | nil =>
              rw [hkk] at hd
              simp only [kidsM] at hd ⊢
              cases hr : rightB 4 t [] lim
              · rw [hr] at hrt
                rw [if_neg (by decide), if_neg (by decide)]
                simp (maxSteps := 99999999) (disch := first | decide | omega | exact ok_of (by kernel_rfl)) only [m35, hk, hrt, hd, q4, ne4, x0, hr, tne, zero5, List.set, e0, hal, Nat.reduceAdd, Nat.reduceMul, Nat.reduceLeDiff, Nat.reduceEqDiff, Nat.reduceLT, reduceCtorEq, cut, Nat.reducePow, Int.reduceDiv, Int.reduceMod, Int.reduceBNe, Int.reduceBEq, Int.reduceLE, Int.reduceLT, Int.reduceToNat, Int.reduceEq, Int.reduceNeg, Int.reduceMul, Int.reduceAdd, Int.reduceSub, bC.u, bB.u, bN.u, bL.u, bR.u, bD.u]
              · rw [hr] at hrt
                rw [if_pos rfl, if_pos rfl]
                simp (maxSteps := 99999999) (disch := first | decide | omega | exact ok_of (by kernel_rfl)) only [m35, hk, hrt, hd, q4, ne4, x0, hr, tne, zero5, List.set, e0, hal, Nat.reduceAdd, Nat.reduceMul, Nat.reduceLeDiff, Nat.reduceEqDiff, Nat.reduceLT, reduceCtorEq, cut, Nat.reducePow, Int.reduceDiv, Int.reduceMod, Int.reduceBNe, Int.reduceBEq, Int.reduceLE, Int.reduceLT, Int.reduceToNat, Int.reduceEq, Int.reduceNeg, Int.reduceMul, Int.reduceAdd, Int.reduceSub, bC.u, bB.u, bN.u, bL.u, bR.u, bD.u]
            | cons kk ks =>
              rw [hkk] at hd
              simp only [kidsM] at hd ⊢
              cases hr : rightB 4 t [] lim
              · rw [hr] at hrt
                rw [if_neg (by decide), if_neg (by decide)]
                simp (maxSteps := 99999999) (disch := first | decide | omega | exact ok_of (by kernel_rfl)) only [m35, hk, hrt, hd, q4, ne4, x0, hr, tne, zero5, List.set, e0, hal, Nat.reduceAdd, Nat.reduceMul, Nat.reduceLeDiff, Nat.reduceEqDiff, Nat.reduceLT, reduceCtorEq, cut, Nat.reducePow, Int.reduceDiv, Int.reduceMod, Int.reduceBNe, Int.reduceBEq, Int.reduceLE, Int.reduceLT, Int.reduceToNat, Int.reduceEq, Int.reduceNeg, Int.reduceMul, Int.reduceAdd, Int.reduceSub, bC.u, bB.u, bN.u, bL.u, bR.u, bD.u]
              · rw [hr] at hrt
                rw [if_pos rfl, if_pos rfl]
                simp (maxSteps := 99999999) (disch := first | decide | omega | exact ok_of (by kernel_rfl)) only [m35, hk, hrt, hd, q4, ne4, x0, hr, tne, zero5, List.set, e0, hal, Nat.reduceAdd, Nat.reduceMul, Nat.reduceLeDiff, Nat.reduceEqDiff, Nat.reduceLT, reduceCtorEq, cut, Nat.reducePow, Int.reduceDiv, Int.reduceMod, Int.reduceBNe, Int.reduceBEq, Int.reduceLE, Int.reduceLT, Int.reduceToNat, Int.reduceEq, Int.reduceNeg, Int.reduceMul, Int.reduceAdd, Int.reduceSub, bC.u, bB.u, bN.u, bL.u, bR.u, bD.u]
          · have hv : dnVal [] = .agg zero5 := by unfold dnVal; rw [h]; exact if_neg (by decide)
            rw [h, hv] at hd
            rw [h, if_neg (show ¬ (30 : Int) = 0 by decide), if_neg (by decide)]
            simp (maxSteps := 99999999) (disch := first | decide | omega | exact ok_of (by kernel_rfl)) only [m35, hk, hrt, hd, q4, ne4, x0, tne, zero5, List.set, e0, hal, Nat.reduceAdd, Nat.reduceMul, Nat.reduceLeDiff, Nat.reduceEqDiff, Nat.reduceLT, reduceCtorEq, cut, Nat.reducePow, Int.reduceDiv, Int.reduceMod, Int.reduceBNe, Int.reduceBEq, Int.reduceLE, Int.reduceLT, Int.reduceToNat, Int.reduceEq, Int.reduceNeg, Int.reduceMul, Int.reduceAdd, Int.reduceSub, bC.u, bB.u, bN.u, bL.u, bR.u, bD.u]
          · have hv : dnVal [] = .agg zero5 := by unfold dnVal; rw [h]; exact if_neg (by decide)
            rw [h, hv] at hd
            rw [h, if_neg (show ¬ (31 : Int) = 0 by decide), if_neg (by decide)]
            simp (maxSteps := 99999999) (disch := first | decide | omega | exact ok_of (by kernel_rfl)) only [m35, hk, hrt, hd, q4, ne4, x0, tne, zero5, List.set, e0, hal, Nat.reduceAdd, Nat.reduceMul, Nat.reduceLeDiff, Nat.reduceEqDiff, Nat.reduceLT, reduceCtorEq, cut, Nat.reducePow, Int.reduceDiv, Int.reduceMod, Int.reduceBNe, Int.reduceBEq, Int.reduceLE, Int.reduceLT, Int.reduceToNat, Int.reduceEq, Int.reduceNeg, Int.reduceMul, Int.reduceAdd, Int.reduceSub, bC.u, bB.u, bN.u, bL.u, bR.u, bD.u]
end Go.Mini
