/- DNs' general names over Mini: their values; within one another. -/
import Derived.Test.YtncpjcojnjbhlaaGreatDoorE2
namespace Go.Mini
open Go Go.Proofs.YtncpjcojnjbhlaaGreatDoor
set_option maxRecDepth 10000
set_option maxHeartbeats 40000000
set_option linter.unusedSimpArgs false

theorem c42_4 : Call Q 42 [.int .i64 4] = some (.bool true) := Call_iff.2 ⟨40, by kernel_rfl⟩

def gnM (d : Dn) : MV := .agg [.int .i64 4, .str [], .sl 2 (attrs d)]

theorem c43_4 (d : Dn) (lim : Bool) : Call Q 43 [gnM d, .bool lim] = some (.bool (lim || decide (0 < d.length))) := by
  have hal := attrs_length d
  have e0 : decide ((0 : Int) < (d.length : Int)) = decide (0 < d.length) := by rw [Bool.eq_iff_iff]; simp
  unfold gnM
  rw [Call_fn Q (m := m43) rfl rfl]
  cases lim
  · simp (maxSteps := 99999999) (disch := first | decide | omega | exact ok_of (by kernel_rfl)) only [m43, hal, e0, Nat.reduceAdd, Nat.reduceMul, Nat.reduceLeDiff, Nat.reduceEqDiff, Nat.reduceLT, reduceCtorEq, cut, Int.reduceLE, Int.reduceLT, Int.reduceToNat, Int.reduceEq, Int.reduceNeg, Int.reduceMul, Int.reduceAdd, Int.reduceSub, Int.reduceDiv, Int.reduceMod, Int.reduceBNe, Int.reduceBEq, Nat.reducePow, bC.u, bB.u, bN.u, bL.u, bR.u, bD.u]
  · simp (maxSteps := 99999999) (disch := first | decide | omega | exact ok_of (by kernel_rfl)) only [m43, hal, e0, Nat.reduceAdd, Nat.reduceMul, Nat.reduceLeDiff, Nat.reduceEqDiff, Nat.reduceLT, reduceCtorEq, cut, Int.reduceLE, Int.reduceLT, Int.reduceToNat, Int.reduceEq, Int.reduceNeg, Int.reduceMul, Int.reduceAdd, Int.reduceSub, Int.reduceDiv, Int.reduceMod, Int.reduceBNe, Int.reduceBEq, Nat.reducePow, bC.u, bB.u, bN.u, bL.u, bR.u, bD.u]

def genE (d : Dn) (lim : Bool) : Int := if dnE d = 0 then (if (lim || decide (0 < d.length)) = true then 0 else 31) else 31
def genV (d : Dn) : MV := .agg [.int .i64 2, .int .i64 4, .bool true, .nilsl, .sl 5 [dnVal d]]
theorem genE_or (d : Dn) (lim : Bool) : genE d lim = 0 ∨ genE d lim = 31 := by
  unfold genE
  repeat' split
  all_goals first | exact Or.inl rfl | exact Or.inr rfl
theorem dnE_or (d : Dn) : dnE d = 0 ∨ dnE d = 30 ∨ dnE d = 31 := by
  unfold dnE
  split
  · exact Or.inr (Or.inl rfl)
  · split
    · exact Or.inr (Or.inl rfl)
    · split
      · exact Or.inr (Or.inr rfl)
      · exact Or.inl rfl

theorem c14_4 (d : Dn) (hl : okLens d) (lim : Bool) : Call Q 14 [gnM d, .bool lim] = some (.tup [if genE d lim = 0 then genV d else .agg zero5, .int .i64 (genE d lim)]) := by
  have hal := attrs_length d
  have h42 := c42_4
  have h43 := c43_4 d lim
  have h19 := c19 d hl
  unfold gnM at h43 ⊢
  rw [Call_fn Q (m := m14) rfl rfl]
  rcases dnE_or d with h | h | h
  · have hv : dnVal d = .agg [.int .i64 0, .int .i64 16, .bool true, .nilsl, kidsM ((kidsV d).getD [])] := by unfold dnVal; rw [if_pos h]
    unfold genE genV
    rw [if_pos h]
    rw [h] at h19
    rw [hv] at h19 ⊢
    cases hk : (kidsV d).getD [] with
    | nil =>
      rw [hk] at h19
      simp only [kidsM] at h19 ⊢
      cases hb : (lim || decide (0 < d.length))
      · rw [hb] at h43
        rw [if_neg (by decide), if_neg (by decide)]
        simp (maxSteps := 99999999) (disch := first | decide | omega | exact ok_of (by kernel_rfl)) only [m14, h42, h43, h19, hal, zero5, List.set, Nat.reduceAdd, Nat.reduceMul, Nat.reduceLeDiff, Nat.reduceEqDiff, Nat.reduceLT, reduceCtorEq, cut, Int.reduceLE, Int.reduceLT, Int.reduceToNat, Int.reduceEq, Int.reduceNeg, Int.reduceMul, Int.reduceAdd, Int.reduceSub, Int.reduceDiv, Int.reduceMod, Int.reduceBNe, Int.reduceBEq, Nat.reducePow, bC.u, bB.u, bN.u, bL.u, bR.u, bD.u]
      · rw [hb] at h43
        rw [if_pos rfl, if_pos rfl]
        simp (maxSteps := 99999999) (disch := first | decide | omega | exact ok_of (by kernel_rfl)) only [m14, h42, h43, h19, hal, zero5, List.set, Nat.reduceAdd, Nat.reduceMul, Nat.reduceLeDiff, Nat.reduceEqDiff, Nat.reduceLT, reduceCtorEq, cut, Int.reduceLE, Int.reduceLT, Int.reduceToNat, Int.reduceEq, Int.reduceNeg, Int.reduceMul, Int.reduceAdd, Int.reduceSub, Int.reduceDiv, Int.reduceMod, Int.reduceBNe, Int.reduceBEq, Nat.reducePow, bC.u, bB.u, bN.u, bL.u, bR.u, bD.u]
    | cons k ks =>
      rw [hk] at h19
      simp only [kidsM] at h19 ⊢
      cases hb : (lim || decide (0 < d.length))
      · rw [hb] at h43
        rw [if_neg (by decide), if_neg (by decide)]
        simp (maxSteps := 99999999) (disch := first | decide | omega | exact ok_of (by kernel_rfl)) only [m14, h42, h43, h19, hal, zero5, List.set, Nat.reduceAdd, Nat.reduceMul, Nat.reduceLeDiff, Nat.reduceEqDiff, Nat.reduceLT, reduceCtorEq, cut, Int.reduceLE, Int.reduceLT, Int.reduceToNat, Int.reduceEq, Int.reduceNeg, Int.reduceMul, Int.reduceAdd, Int.reduceSub, Int.reduceDiv, Int.reduceMod, Int.reduceBNe, Int.reduceBEq, Nat.reducePow, bC.u, bB.u, bN.u, bL.u, bR.u, bD.u]
      · rw [hb] at h43
        rw [if_pos rfl, if_pos rfl]
        simp (maxSteps := 99999999) (disch := first | decide | omega | exact ok_of (by kernel_rfl)) only [m14, h42, h43, h19, hal, zero5, List.set, Nat.reduceAdd, Nat.reduceMul, Nat.reduceLeDiff, Nat.reduceEqDiff, Nat.reduceLT, reduceCtorEq, cut, Int.reduceLE, Int.reduceLT, Int.reduceToNat, Int.reduceEq, Int.reduceNeg, Int.reduceMul, Int.reduceAdd, Int.reduceSub, Int.reduceDiv, Int.reduceMod, Int.reduceBNe, Int.reduceBEq, Nat.reducePow, bC.u, bB.u, bN.u, bL.u, bR.u, bD.u]
  · have hv : dnVal d = .agg zero5 := by unfold dnVal; rw [h]; exact if_neg (by decide)
    unfold genE
    rw [h, if_neg (show ¬ (30 : Int) = 0 by decide), if_neg (by decide)]
    rw [h, hv] at h19
    simp (maxSteps := 99999999) (disch := first | decide | omega | exact ok_of (by kernel_rfl)) only [m14, h42, h43, h19, hal, zero5, List.set, Nat.reduceAdd, Nat.reduceMul, Nat.reduceLeDiff, Nat.reduceEqDiff, Nat.reduceLT, reduceCtorEq, cut, Int.reduceLE, Int.reduceLT, Int.reduceToNat, Int.reduceEq, Int.reduceNeg, Int.reduceMul, Int.reduceAdd, Int.reduceSub, Int.reduceDiv, Int.reduceMod, Int.reduceBNe, Int.reduceBEq, Nat.reducePow, bC.u, bB.u, bN.u, bL.u, bR.u, bD.u]
  · have hv : dnVal d = .agg zero5 := by unfold dnVal; rw [h]; exact if_neg (by decide)
    unfold genE
    rw [h, if_neg (show ¬ (31 : Int) = 0 by decide), if_neg (by decide)]
    rw [h, hv] at h19
    simp (maxSteps := 99999999) (disch := first | decide | omega | exact ok_of (by kernel_rfl)) only [m14, h42, h43, h19, hal, zero5, List.set, Nat.reduceAdd, Nat.reduceMul, Nat.reduceLeDiff, Nat.reduceEqDiff, Nat.reduceLT, reduceCtorEq, cut, Int.reduceLE, Int.reduceLT, Int.reduceToNat, Int.reduceEq, Int.reduceNeg, Int.reduceMul, Int.reduceAdd, Int.reduceSub, Int.reduceDiv, Int.reduceMod, Int.reduceBNe, Int.reduceBEq, Nat.reducePow, bC.u, bB.u, bN.u, bL.u, bR.u, bD.u]

def withinB (a b : Dn) : Bool := decide (genE a false = 0) && decide (genE b true = 0) && decide (b.length ≤ a.length) && decide (a.take b.length = b)

theorem cut_attrs (a : Dn) (n : Nat) (h : n ≤ a.length) : cut (attrs a) none (some (.int .i64 (n : Int))) = some (attrs (a.take n)) := by
  have hal := attrs_length a
  simp only [cut]
  rw [if_pos ⟨Int.le_refl _, by omega, by omega⟩]
  simp [attrs, List.map_take]

theorem c10_4 (a b : Dn) (ha : okLens a) (hb : okLens b) : Call Q 10 [gnM a, gnM b] = some (.bool (withinB a b)) := by
  have la := attrs_length a
  have lb := attrs_length b
  have h1 := c14_4 a ha false
  have h2 := c14_4 b hb true
  have ht : (a.take b.length).length < 1000000 := by have := ha.1; rw [List.length_take]; omega
  have h24 := c24 (a.take b.length) b ht hb.1
  unfold gnM at h1 h2 ⊢
  unfold withinB
  rw [Call_fn Q (m := m10) rfl rfl]
  rcases genE_or a false with e1 | e1
  · rw [e1, if_pos rfl] at h1
    unfold genV at h1
    rcases genE_or b true with e2 | e2
    · rw [e2, if_pos rfl] at h2
      unfold genV at h2
      rw [e1, e2]
      by_cases hle : b.length ≤ a.length
      · have d1 : decide ((b.length : Int) ≤ (a.length : Int)) = true := by simp; omega
        have d2 : decide (b.length ≤ a.length) = true := by simp; omega
        have hc := cut_attrs a b.length hle
        rw [d2]
        simp (maxSteps := 99999999) (disch := first | decide | omega | exact ok_of (by kernel_rfl)) only [m10, h1, h2, h24, la, lb, d1, hc, Nat.reduceAdd, Nat.reduceMul, Nat.reduceLeDiff, Nat.reduceEqDiff, Nat.reduceLT, reduceCtorEq, Int.reduceLE, Int.reduceLT, Int.reduceToNat, Int.reduceEq, Int.reduceNeg, Int.reduceMul, Int.reduceAdd, Int.reduceSub, Int.reduceDiv, Int.reduceMod, Int.reduceBNe, Int.reduceBEq, Nat.reducePow, bC.u, bB.u, bN.u, bL.u, bR.u, bD.u]
      · have d1 : decide ((b.length : Int) ≤ (a.length : Int)) = false := by simp; omega
        have d2 : decide (b.length ≤ a.length) = false := by simp; omega
        rw [d2]
        simp (maxSteps := 99999999) (disch := first | decide | omega | exact ok_of (by kernel_rfl)) only [m10, h1, h2, la, lb, d1, Nat.reduceAdd, Nat.reduceMul, Nat.reduceLeDiff, Nat.reduceEqDiff, Nat.reduceLT, reduceCtorEq, cut, Int.reduceLE, Int.reduceLT, Int.reduceToNat, Int.reduceEq, Int.reduceNeg, Int.reduceMul, Int.reduceAdd, Int.reduceSub, Int.reduceDiv, Int.reduceMod, Int.reduceBNe, Int.reduceBEq, Nat.reducePow, bC.u, bB.u, bN.u, bL.u, bR.u, bD.u]
    · rw [e2, if_neg (by decide)] at h2
      rw [e1, e2]
      simp (maxSteps := 99999999) (disch := first | decide | omega | exact ok_of (by kernel_rfl)) only [m10, h1, h2, la, lb, zero5, Nat.reduceAdd, Nat.reduceMul, Nat.reduceLeDiff, Nat.reduceEqDiff, Nat.reduceLT, reduceCtorEq, cut, Int.reduceLE, Int.reduceLT, Int.reduceToNat, Int.reduceEq, Int.reduceNeg, Int.reduceMul, Int.reduceAdd, Int.reduceSub, Int.reduceDiv, Int.reduceMod, Int.reduceBNe, Int.reduceBEq, Nat.reducePow, bC.u, bB.u, bN.u, bL.u, bR.u, bD.u]
  · rw [e1, if_neg (by decide)] at h1
    rw [e1]
    rcases genE_or b true with e2 | e2
    · rw [e2, if_pos rfl] at h2
      unfold genV at h2
      simp (maxSteps := 99999999) (disch := first | decide | omega | exact ok_of (by kernel_rfl)) only [m10, h1, h2, la, lb, zero5, Nat.reduceAdd, Nat.reduceMul, Nat.reduceLeDiff, Nat.reduceEqDiff, Nat.reduceLT, reduceCtorEq, cut, Int.reduceLE, Int.reduceLT, Int.reduceToNat, Int.reduceEq, Int.reduceNeg, Int.reduceMul, Int.reduceAdd, Int.reduceSub, Int.reduceDiv, Int.reduceMod, Int.reduceBNe, Int.reduceBEq, Nat.reducePow, bC.u, bB.u, bN.u, bL.u, bR.u, bD.u]
    · rw [e2, if_neg (by decide)] at h2
      simp (maxSteps := 99999999) (disch := first | decide | omega | exact ok_of (by kernel_rfl)) only [m10, h1, h2, la, lb, zero5, Nat.reduceAdd, Nat.reduceMul, Nat.reduceLeDiff, Nat.reduceEqDiff, Nat.reduceLT, reduceCtorEq, cut, Int.reduceLE, Int.reduceLT, Int.reduceToNat, Int.reduceEq, Int.reduceNeg, Int.reduceMul, Int.reduceAdd, Int.reduceSub, Int.reduceDiv, Int.reduceMod, Int.reduceBNe, Int.reduceBEq, Nat.reducePow, bC.u, bB.u, bN.u, bL.u, bR.u, bD.u]
end Go.Mini
