/- Within, as the document has it, over Mini: whole. -/
import Derived.Test.YtncpjcojnjbhlaaGreatDoorW1
namespace Go.Mini
open Go Go.Proofs.YtncpjcojnjbhlaaGreatDoor
set_option maxRecDepth 10000
set_option maxHeartbeats 40000000
set_option linter.unusedSimpArgs false


theorem c11_1 (k : Int) (hk : k = 1) (t : List UInt8) (d : Dn) (k2 : Int) (t2 : List UInt8) (d2 : Dn) (ht : t.length < 1000000 ∧ okLens d) (ht2 : t2.length < 1000000 ∧ okLens d2) : Call Q 11 [gM k t (.sl 2 (attrs d)), gM k2 t2 (.sl 2 (attrs d2))] = some (.bool (withB k t d k2 t2 d2)) := by
  obtain ⟨x1, x2, x3, x4, x5, q1⟩ := valR_shape k t d false
  obtain ⟨y1, y2, y3, y4, y5, q2⟩ := valR_shape k2 t2 d2 true
  have h1 := c35 k t (.sl 2 (attrs d)) d (.inl rfl) ht.1 ht.2 false
  have h2 := c35 k2 t2 (.sl 2 (attrs d2)) d2 (.inl rfl) ht2.1 ht2.2 true
  rw [q1] at h1
  rw [q2] at h2
  unfold gM at h1 h2 ⊢
  unfold withB
  generalize valE k t d false = e1 at h1 ⊢
  generalize valE k2 t2 d2 true = e2 at h2 ⊢
  rw [Call_fn Q (m := m11) rfl rfl]
  by_cases hkk : k = k2
  rotate_left
  · rw [decide_eq_false hkk, Bool.and_false, Bool.false_and]
    apply hide; intro rhs hrhs
    simp (maxSteps := 99999999) (disch := first | decide | omega | exact ok_of (by kernel_rfl)) only [m11, h1, h2, hkk, if_pos, if_neg, Nat.reduceAdd, Nat.reduceMul, Nat.reduceLeDiff, Nat.reduceEqDiff, Nat.reduceLT, reduceCtorEq, cut, Int.reduceLE, Int.reduceLT, Int.reduceToNat, Int.reduceEq, Int.reduceNeg, Int.reduceMul, Int.reduceAdd, Int.reduceSub, bne, bC.u, bB.u, bN.u, bL.u, bR.u, bI.u, bD.u]
    repeat' ((first | refine finB ?_ ?_ | refine finG ?_ ?_ | refine finD ?_ ?_ | refine runB ?_ ?_ | refine runG ?_ ?_ | refine runD ?_ ?_) <;> intro hx <;> (try simp only [beq_iff_eq, beq_eq_false_iff_ne, ne_eq, beqt, beqf, decide_eq_true_eq, decide_eq_false_iff_not, Bool.not_eq_true', Bool.not_eq_false', Bool.not_not, Bool.not_eq_true, Bool.and_eq_true, Bool.or_eq_true, decide_true, decide_false, Bool.false_eq_true, reduceCtorEq] at hx) <;> (try simp (maxSteps := 99999999) (disch := first | decide | omega | exact ok_of (by kernel_rfl)) only [hx, m11, h1, h2, hkk, if_pos, if_neg, Nat.reduceAdd, Nat.reduceMul, Nat.reduceLeDiff, Nat.reduceEqDiff, Nat.reduceLT, reduceCtorEq, cut, Int.reduceLE, Int.reduceLT, Int.reduceToNat, Int.reduceEq, Int.reduceNeg, Int.reduceMul, Int.reduceAdd, Int.reduceSub, bne, bC.u, bB.u, bN.u, bL.u, bR.u, bI.u, bD.u]))
    all_goals first | (exfalso; omega) | (subst hrhs; rfl)
  subst hkk
  subst hk
  have h36 := c36 t t2 ht.1 ht2.1
  apply hide; intro rhs hrhs
  simp (maxSteps := 99999999) (disch := first | decide | omega | exact ok_of (by kernel_rfl)) only [m11, h1, h2, h36, if_pos, if_neg, Nat.reduceAdd, Nat.reduceMul, Nat.reduceLeDiff, Nat.reduceEqDiff, Nat.reduceLT, reduceCtorEq, cut, Int.reduceLE, Int.reduceLT, Int.reduceToNat, Int.reduceEq, Int.reduceNeg, Int.reduceMul, Int.reduceAdd, Int.reduceSub, bne, bC.u, bB.u, bN.u, bL.u, bR.u, bI.u, bD.u]
  repeat' ((first | refine finB ?_ ?_ | refine finG ?_ ?_ | refine finD ?_ ?_ | refine runB ?_ ?_ | refine runG ?_ ?_ | refine runD ?_ ?_) <;> intro hx <;> (try simp only [beq_iff_eq, beq_eq_false_iff_ne, ne_eq, beqt, beqf, decide_eq_true_eq, decide_eq_false_iff_not, Bool.not_eq_true', Bool.not_eq_false', Bool.not_not, Bool.not_eq_true, Bool.and_eq_true, Bool.or_eq_true, decide_true, decide_false, Bool.false_eq_true, reduceCtorEq] at hx) <;> (try simp (maxSteps := 99999999) (disch := first | decide | omega | exact ok_of (by kernel_rfl)) only [hx, m11, h1, h2, h36, if_pos, if_neg, Nat.reduceAdd, Nat.reduceMul, Nat.reduceLeDiff, Nat.reduceEqDiff, Nat.reduceLT, reduceCtorEq, cut, Int.reduceLE, Int.reduceLT, Int.reduceToNat, Int.reduceEq, Int.reduceNeg, Int.reduceMul, Int.reduceAdd, Int.reduceSub, bne, bC.u, bB.u, bN.u, bL.u, bR.u, bI.u, bD.u]))
  all_goals first | (exfalso; omega) | (subst hrhs; simp_all [withK])

theorem c11_2 (k : Int) (hk : k = 2) (t : List UInt8) (d : Dn) (k2 : Int) (t2 : List UInt8) (d2 : Dn) (ht : t.length < 1000000 ∧ okLens d) (ht2 : t2.length < 1000000 ∧ okLens d2) : Call Q 11 [gM k t (.sl 2 (attrs d)), gM k2 t2 (.sl 2 (attrs d2))] = some (.bool (withB k t d k2 t2 d2)) := by
  obtain ⟨x1, x2, x3, x4, x5, q1⟩ := valR_shape k t d false
  obtain ⟨y1, y2, y3, y4, y5, q2⟩ := valR_shape k2 t2 d2 true
  have h1 := c35 k t (.sl 2 (attrs d)) d (.inl rfl) ht.1 ht.2 false
  have h2 := c35 k2 t2 (.sl 2 (attrs d2)) d2 (.inl rfl) ht2.1 ht2.2 true
  rw [q1] at h1
  rw [q2] at h2
  unfold gM at h1 h2 ⊢
  unfold withB
  generalize valE k t d false = e1 at h1 ⊢
  generalize valE k2 t2 d2 true = e2 at h2 ⊢
  rw [Call_fn Q (m := m11) rfl rfl]
  by_cases hkk : k = k2
  rotate_left
  · rw [decide_eq_false hkk, Bool.and_false, Bool.false_and]
    apply hide; intro rhs hrhs
    simp (maxSteps := 99999999) (disch := first | decide | omega | exact ok_of (by kernel_rfl)) only [m11, h1, h2, hkk, if_pos, if_neg, Nat.reduceAdd, Nat.reduceMul, Nat.reduceLeDiff, Nat.reduceEqDiff, Nat.reduceLT, reduceCtorEq, cut, Int.reduceLE, Int.reduceLT, Int.reduceToNat, Int.reduceEq, Int.reduceNeg, Int.reduceMul, Int.reduceAdd, Int.reduceSub, bne, bC.u, bB.u, bN.u, bL.u, bR.u, bI.u, bD.u]
    repeat' ((first | refine finB ?_ ?_ | refine finG ?_ ?_ | refine finD ?_ ?_ | refine runB ?_ ?_ | refine runG ?_ ?_ | refine runD ?_ ?_) <;> intro hx <;> (try simp only [beq_iff_eq, beq_eq_false_iff_ne, ne_eq, beqt, beqf, decide_eq_true_eq, decide_eq_false_iff_not, Bool.not_eq_true', Bool.not_eq_false', Bool.not_not, Bool.not_eq_true, Bool.and_eq_true, Bool.or_eq_true, decide_true, decide_false, Bool.false_eq_true, reduceCtorEq] at hx) <;> (try simp (maxSteps := 99999999) (disch := first | decide | omega | exact ok_of (by kernel_rfl)) only [hx, m11, h1, h2, hkk, if_pos, if_neg, Nat.reduceAdd, Nat.reduceMul, Nat.reduceLeDiff, Nat.reduceEqDiff, Nat.reduceLT, reduceCtorEq, cut, Int.reduceLE, Int.reduceLT, Int.reduceToNat, Int.reduceEq, Int.reduceNeg, Int.reduceMul, Int.reduceAdd, Int.reduceSub, bne, bC.u, bB.u, bN.u, bL.u, bR.u, bI.u, bD.u]))
    all_goals first | (exfalso; omega) | (subst hrhs; rfl)
  subst hkk
  subst hk
  have h37 := c37 t ht.1
  have h38 := c38 t t2 ht.1
  have h39 := c39 t (46 :: t2) ht.1
  apply hide; intro rhs hrhs
  simp (maxSteps := 99999999) (disch := first | decide | omega | exact ok_of (by kernel_rfl)) only [m11, h1, h2, h37, h38, h39, if_pos, if_neg, Nat.reduceAdd, Nat.reduceMul, Nat.reduceLeDiff, Nat.reduceEqDiff, Nat.reduceLT, reduceCtorEq, cut, Int.reduceLE, Int.reduceLT, Int.reduceToNat, Int.reduceEq, Int.reduceNeg, Int.reduceMul, Int.reduceAdd, Int.reduceSub, bne, bC.u, bB.u, bN.u, bL.u, bR.u, bI.u, bD.u]
  repeat' ((first | refine finB ?_ ?_ | refine finG ?_ ?_ | refine finD ?_ ?_ | refine runB ?_ ?_ | refine runG ?_ ?_ | refine runD ?_ ?_) <;> intro hx <;> (try simp only [beq_iff_eq, beq_eq_false_iff_ne, ne_eq, beqt, beqf, decide_eq_true_eq, decide_eq_false_iff_not, Bool.not_eq_true', Bool.not_eq_false', Bool.not_not, Bool.not_eq_true, Bool.and_eq_true, Bool.or_eq_true, decide_true, decide_false, Bool.false_eq_true, reduceCtorEq] at hx) <;> (try simp (maxSteps := 99999999) (disch := first | decide | omega | exact ok_of (by kernel_rfl)) only [hx, m11, h1, h2, h37, h38, h39, if_pos, if_neg, Nat.reduceAdd, Nat.reduceMul, Nat.reduceLeDiff, Nat.reduceEqDiff, Nat.reduceLT, reduceCtorEq, cut, Int.reduceLE, Int.reduceLT, Int.reduceToNat, Int.reduceEq, Int.reduceNeg, Int.reduceMul, Int.reduceAdd, Int.reduceSub, bne, bC.u, bB.u, bN.u, bL.u, bR.u, bI.u, bD.u]))
  all_goals first | (exfalso; omega) | (subst hrhs; simp_all [withK])

theorem c11_6 (k : Int) (hk : k = 6) (t : List UInt8) (d : Dn) (k2 : Int) (t2 : List UInt8) (d2 : Dn) (ht : t.length < 1000000 ∧ okLens d) (ht2 : t2.length < 1000000 ∧ okLens d2) : Call Q 11 [gM k t (.sl 2 (attrs d)), gM k2 t2 (.sl 2 (attrs d2))] = some (.bool (withB k t d k2 t2 d2)) := by
  obtain ⟨x1, x2, x3, x4, x5, q1⟩ := valR_shape k t d false
  obtain ⟨y1, y2, y3, y4, y5, q2⟩ := valR_shape k2 t2 d2 true
  have h1 := c35 k t (.sl 2 (attrs d)) d (.inl rfl) ht.1 ht.2 false
  have h2 := c35 k2 t2 (.sl 2 (attrs d2)) d2 (.inl rfl) ht2.1 ht2.2 true
  rw [q1] at h1
  rw [q2] at h2
  unfold gM at h1 h2 ⊢
  unfold withB
  generalize valE k t d false = e1 at h1 ⊢
  generalize valE k2 t2 d2 true = e2 at h2 ⊢
  rw [Call_fn Q (m := m11) rfl rfl]
  by_cases hkk : k = k2
  rotate_left
  · rw [decide_eq_false hkk, Bool.and_false, Bool.false_and]
    apply hide; intro rhs hrhs
    simp (maxSteps := 99999999) (disch := first | decide | omega | exact ok_of (by kernel_rfl)) only [m11, h1, h2, hkk, if_pos, if_neg, Nat.reduceAdd, Nat.reduceMul, Nat.reduceLeDiff, Nat.reduceEqDiff, Nat.reduceLT, reduceCtorEq, cut, Int.reduceLE, Int.reduceLT, Int.reduceToNat, Int.reduceEq, Int.reduceNeg, Int.reduceMul, Int.reduceAdd, Int.reduceSub, bne, bC.u, bB.u, bN.u, bL.u, bR.u, bI.u, bD.u]
    repeat' ((first | refine finB ?_ ?_ | refine finG ?_ ?_ | refine finD ?_ ?_ | refine runB ?_ ?_ | refine runG ?_ ?_ | refine runD ?_ ?_) <;> intro hx <;> (try simp only [beq_iff_eq, beq_eq_false_iff_ne, ne_eq, beqt, beqf, decide_eq_true_eq, decide_eq_false_iff_not, Bool.not_eq_true', Bool.not_eq_false', Bool.not_not, Bool.not_eq_true, Bool.and_eq_true, Bool.or_eq_true, decide_true, decide_false, Bool.false_eq_true, reduceCtorEq] at hx) <;> (try simp (maxSteps := 99999999) (disch := first | decide | omega | exact ok_of (by kernel_rfl)) only [hx, m11, h1, h2, hkk, if_pos, if_neg, Nat.reduceAdd, Nat.reduceMul, Nat.reduceLeDiff, Nat.reduceEqDiff, Nat.reduceLT, reduceCtorEq, cut, Int.reduceLE, Int.reduceLT, Int.reduceToNat, Int.reduceEq, Int.reduceNeg, Int.reduceMul, Int.reduceAdd, Int.reduceSub, bne, bC.u, bB.u, bN.u, bL.u, bR.u, bI.u, bD.u]))
    all_goals first | (exfalso; omega) | (subst hrhs; rfl)
  subst hkk
  subst hk
  have h40 := c40 t ht.1
  unfold hostA at h40
  unfold withK uriB
  rw [if_neg (by decide), if_neg (by decide), if_pos rfl]
  split at h40
  · rename_i hu
    rw [if_pos hu]
    apply hide; intro rhs hrhs
    simp (maxSteps := 99999999) (disch := first | decide | omega | exact ok_of (by kernel_rfl)) only [m11, h1, h2, h40, if_pos, if_neg, Nat.reduceAdd, Nat.reduceMul, Nat.reduceLeDiff, Nat.reduceEqDiff, Nat.reduceLT, reduceCtorEq, cut, Int.reduceLE, Int.reduceLT, Int.reduceToNat, Int.reduceEq, Int.reduceNeg, Int.reduceMul, Int.reduceAdd, Int.reduceSub, bne, bC.u, bB.u, bN.u, bL.u, bR.u, bI.u, bD.u]
    repeat' ((first | refine finB ?_ ?_ | refine finG ?_ ?_ | refine finD ?_ ?_ | refine runB ?_ ?_ | refine runG ?_ ?_ | refine runD ?_ ?_) <;> intro hx <;> (try simp only [beq_iff_eq, beq_eq_false_iff_ne, ne_eq, beqt, beqf, decide_eq_true_eq, decide_eq_false_iff_not, Bool.not_eq_true', Bool.not_eq_false', Bool.not_not, Bool.not_eq_true, Bool.and_eq_true, Bool.or_eq_true, decide_true, decide_false, Bool.false_eq_true, reduceCtorEq] at hx) <;> (try simp (maxSteps := 99999999) (disch := first | decide | omega | exact ok_of (by kernel_rfl)) only [hx, m11, h1, h2, h40, if_pos, if_neg, Nat.reduceAdd, Nat.reduceMul, Nat.reduceLeDiff, Nat.reduceEqDiff, Nat.reduceLT, reduceCtorEq, cut, Int.reduceLE, Int.reduceLT, Int.reduceToNat, Int.reduceEq, Int.reduceNeg, Int.reduceMul, Int.reduceAdd, Int.reduceSub, bne, bC.u, bB.u, bN.u, bL.u, bR.u, bI.u, bD.u]))
    all_goals first | (exfalso; omega) | (subst hrhs; simp_all)

  · rename_i hu
    rw [if_neg hu]
    have hr : ((t.drop ((Lib.index t [58, 47, 47]).toNat + 3)).take (till (t.drop ((Lib.index t [58, 47, 47]).toNat + 3)))).length < 1000000 := by rw [List.length_take, List.length_drop]; omega
    generalize (t.drop ((Lib.index t [58, 47, 47]).toNat + 3)).take (till (t.drop ((Lib.index t [58, 47, 47]).toNat + 3))) = r at *
    have h41 := c41 r t2 hr
    apply hide; intro rhs hrhs
    simp (maxSteps := 99999999) (disch := first | decide | omega | exact ok_of (by kernel_rfl)) only [m11, h1, h2, h40, h41, if_pos, if_neg, Nat.reduceAdd, Nat.reduceMul, Nat.reduceLeDiff, Nat.reduceEqDiff, Nat.reduceLT, reduceCtorEq, cut, Int.reduceLE, Int.reduceLT, Int.reduceToNat, Int.reduceEq, Int.reduceNeg, Int.reduceMul, Int.reduceAdd, Int.reduceSub, bne, bC.u, bB.u, bN.u, bL.u, bR.u, bI.u, bD.u]
    repeat' ((first | refine finB ?_ ?_ | refine finG ?_ ?_ | refine finD ?_ ?_ | refine runB ?_ ?_ | refine runG ?_ ?_ | refine runD ?_ ?_) <;> intro hx <;> (try simp only [beq_iff_eq, beq_eq_false_iff_ne, ne_eq, beqt, beqf, decide_eq_true_eq, decide_eq_false_iff_not, Bool.not_eq_true', Bool.not_eq_false', Bool.not_not, Bool.not_eq_true, Bool.and_eq_true, Bool.or_eq_true, decide_true, decide_false, Bool.false_eq_true, reduceCtorEq] at hx) <;> (try simp (maxSteps := 99999999) (disch := first | decide | omega | exact ok_of (by kernel_rfl)) only [hx, m11, h1, h2, h40, h41, if_pos, if_neg, Nat.reduceAdd, Nat.reduceMul, Nat.reduceLeDiff, Nat.reduceEqDiff, Nat.reduceLT, reduceCtorEq, cut, Int.reduceLE, Int.reduceLT, Int.reduceToNat, Int.reduceEq, Int.reduceNeg, Int.reduceMul, Int.reduceAdd, Int.reduceSub, bne, bC.u, bB.u, bN.u, bL.u, bR.u, bI.u, bD.u]))
    all_goals first | (exfalso; omega) | (subst hrhs; simp_all)

theorem c11_7 (k : Int) (hk : k = 7) (t : List UInt8) (d : Dn) (k2 : Int) (t2 : List UInt8) (d2 : Dn) (ht : t.length < 1000000 ∧ okLens d) (ht2 : t2.length < 1000000 ∧ okLens d2) : Call Q 11 [gM k t (.sl 2 (attrs d)), gM k2 t2 (.sl 2 (attrs d2))] = some (.bool (withB k t d k2 t2 d2)) := by
  obtain ⟨x1, x2, x3, x4, x5, q1⟩ := valR_shape k t d false
  obtain ⟨y1, y2, y3, y4, y5, q2⟩ := valR_shape k2 t2 d2 true
  have h1 := c35 k t (.sl 2 (attrs d)) d (.inl rfl) ht.1 ht.2 false
  have h2 := c35 k2 t2 (.sl 2 (attrs d2)) d2 (.inl rfl) ht2.1 ht2.2 true
  rw [q1] at h1
  rw [q2] at h2
  unfold gM at h1 h2 ⊢
  unfold withB
  generalize valE k t d false = e1 at h1 ⊢
  generalize valE k2 t2 d2 true = e2 at h2 ⊢
  rw [Call_fn Q (m := m11) rfl rfl]
  by_cases hkk : k = k2
  rotate_left
  · rw [decide_eq_false hkk, Bool.and_false, Bool.false_and]
    apply hide; intro rhs hrhs
    simp (maxSteps := 99999999) (disch := first | decide | omega | exact ok_of (by kernel_rfl)) only [m11, h1, h2, hkk, if_pos, if_neg, Nat.reduceAdd, Nat.reduceMul, Nat.reduceLeDiff, Nat.reduceEqDiff, Nat.reduceLT, reduceCtorEq, cut, Int.reduceLE, Int.reduceLT, Int.reduceToNat, Int.reduceEq, Int.reduceNeg, Int.reduceMul, Int.reduceAdd, Int.reduceSub, bne, bC.u, bB.u, bN.u, bL.u, bR.u, bI.u, bD.u]
    repeat' ((first | refine finB ?_ ?_ | refine finG ?_ ?_ | refine finD ?_ ?_ | refine runB ?_ ?_ | refine runG ?_ ?_ | refine runD ?_ ?_) <;> intro hx <;> (try simp only [beq_iff_eq, beq_eq_false_iff_ne, ne_eq, beqt, beqf, decide_eq_true_eq, decide_eq_false_iff_not, Bool.not_eq_true', Bool.not_eq_false', Bool.not_not, Bool.not_eq_true, Bool.and_eq_true, Bool.or_eq_true, decide_true, decide_false, Bool.false_eq_true, reduceCtorEq] at hx) <;> (try simp (maxSteps := 99999999) (disch := first | decide | omega | exact ok_of (by kernel_rfl)) only [hx, m11, h1, h2, hkk, if_pos, if_neg, Nat.reduceAdd, Nat.reduceMul, Nat.reduceLeDiff, Nat.reduceEqDiff, Nat.reduceLT, reduceCtorEq, cut, Int.reduceLE, Int.reduceLT, Int.reduceToNat, Int.reduceEq, Int.reduceNeg, Int.reduceMul, Int.reduceAdd, Int.reduceSub, bne, bC.u, bB.u, bN.u, bL.u, bR.u, bI.u, bD.u]))
    all_goals first | (exfalso; omega) | (subst hrhs; rfl)
  subst hkk
  subst hk
  by_cases hl : t2.length = 2 * t.length
  · have hn := fun K => c11_net K 7 t (attrs d) t2 (attrs d2) hl ht.1
    have hw : withK 7 t d t2 d2 = netB t t2 := rfl
    rw [hw]
    apply hide; intro rhs hrhs
    simp (maxSteps := 99999999) (disch := first | decide | omega | exact ok_of (by kernel_rfl)) only [m11, h1, h2, Run_loop, Nat.reduceAdd, Nat.reduceMul, Nat.reduceLeDiff, Nat.reduceEqDiff, Nat.reduceLT, reduceCtorEq, cut, Int.reduceLE, Int.reduceLT, Int.reduceToNat, Int.reduceEq, Int.reduceNeg, Int.reduceMul, Int.reduceAdd, Int.reduceSub, bne, bC.u, bB.u, bN.u, bL.u, bR.u, bI.u, bD.u]
    repeat' ((first | refine finB ?_ ?_ | refine finG ?_ ?_ | refine finD ?_ ?_ | refine runB ?_ ?_ | refine runG ?_ ?_ | refine runD ?_ ?_) <;> intro hx <;> (try simp only [beq_iff_eq, beq_eq_false_iff_ne, ne_eq, beqt, beqf, decide_eq_true_eq, decide_eq_false_iff_not, Bool.not_eq_true', Bool.not_eq_false', Bool.not_not, Bool.not_eq_true, Bool.and_eq_true, Bool.or_eq_true, decide_true, decide_false, Bool.false_eq_true, reduceCtorEq] at hx) <;> (try simp (maxSteps := 99999999) (disch := first | decide | omega | exact ok_of (by kernel_rfl)) only [hx, m11, h1, h2, Run_loop, Nat.reduceAdd, Nat.reduceMul, Nat.reduceLeDiff, Nat.reduceEqDiff, Nat.reduceLT, reduceCtorEq, cut, Int.reduceLE, Int.reduceLT, Int.reduceToNat, Int.reduceEq, Int.reduceNeg, Int.reduceMul, Int.reduceAdd, Int.reduceSub, bne, bC.u, bB.u, bN.u, bL.u, bR.u, bI.u, bD.u]))
    all_goals first | (exfalso; omega) | (subst hrhs; first | (simp_all; done) | (refine (congrArg (fin R11) (RunL_canon (st' := ⟨V11 t.length (0 : Nat), [], O11 7 t (attrs d) t2 (attrs d2), 3⟩) (by kernel_rfl))).trans ((hn _).trans ?_); simp_all))
  · have hw : withK 7 t d t2 d2 = false := by
      show netB t t2 = false
      unfold netB
      rw [decide_eq_false (by omega), Bool.false_and]
    rw [hw, Bool.and_false]
    apply hide; intro rhs hrhs
    simp (maxSteps := 99999999) (disch := first | decide | omega | exact ok_of (by kernel_rfl)) only [m11, h1, h2, if_pos, if_neg, Nat.reduceAdd, Nat.reduceMul, Nat.reduceLeDiff, Nat.reduceEqDiff, Nat.reduceLT, reduceCtorEq, cut, Int.reduceLE, Int.reduceLT, Int.reduceToNat, Int.reduceEq, Int.reduceNeg, Int.reduceMul, Int.reduceAdd, Int.reduceSub, bne, bC.u, bB.u, bN.u, bL.u, bR.u, bI.u, bD.u]
    repeat' ((first | refine finB ?_ ?_ | refine finG ?_ ?_ | refine finD ?_ ?_ | refine runB ?_ ?_ | refine runG ?_ ?_ | refine runD ?_ ?_) <;> intro hx <;> (try simp only [beq_iff_eq, beq_eq_false_iff_ne, ne_eq, beqt, beqf, decide_eq_true_eq, decide_eq_false_iff_not, Bool.not_eq_true', Bool.not_eq_false', Bool.not_not, Bool.not_eq_true, Bool.and_eq_true, Bool.or_eq_true, decide_true, decide_false, Bool.false_eq_true, reduceCtorEq] at hx) <;> (try simp (maxSteps := 99999999) (disch := first | decide | omega | exact ok_of (by kernel_rfl)) only [hx, m11, h1, h2, if_pos, if_neg, Nat.reduceAdd, Nat.reduceMul, Nat.reduceLeDiff, Nat.reduceEqDiff, Nat.reduceLT, reduceCtorEq, cut, Int.reduceLE, Int.reduceLT, Int.reduceToNat, Int.reduceEq, Int.reduceNeg, Int.reduceMul, Int.reduceAdd, Int.reduceSub, bne, bC.u, bB.u, bN.u, bL.u, bR.u, bI.u, bD.u]))
    all_goals first | (exfalso; omega) | (subst hrhs; simp_all)

theorem c11_4 (k : Int) (hk : k ≠ 1 ∧ k ≠ 2 ∧ k ≠ 6 ∧ k ≠ 7) (t : List UInt8) (d : Dn) (k2 : Int) (t2 : List UInt8) (d2 : Dn) (ht : t.length < 1000000 ∧ okLens d) (ht2 : t2.length < 1000000 ∧ okLens d2) : Call Q 11 [gM k t (.sl 2 (attrs d)), gM k2 t2 (.sl 2 (attrs d2))] = some (.bool (withB k t d k2 t2 d2)) := by
  obtain ⟨x1, x2, x3, x4, x5, q1⟩ := valR_shape k t d false
  obtain ⟨y1, y2, y3, y4, y5, q2⟩ := valR_shape k2 t2 d2 true
  have h1 := c35 k t (.sl 2 (attrs d)) d (.inl rfl) ht.1 ht.2 false
  have h2 := c35 k2 t2 (.sl 2 (attrs d2)) d2 (.inl rfl) ht2.1 ht2.2 true
  rw [q1] at h1
  rw [q2] at h2
  unfold gM at h1 h2 ⊢
  unfold withB
  generalize valE k t d false = e1 at h1 ⊢
  generalize valE k2 t2 d2 true = e2 at h2 ⊢
  rw [Call_fn Q (m := m11) rfl rfl]
  by_cases hkk : k = k2
  rotate_left
  · rw [decide_eq_false hkk, Bool.and_false, Bool.false_and]
    apply hide; intro rhs hrhs
    simp (maxSteps := 99999999) (disch := first | decide | omega | exact ok_of (by kernel_rfl)) only [m11, h1, h2, hkk, if_pos, if_neg, Nat.reduceAdd, Nat.reduceMul, Nat.reduceLeDiff, Nat.reduceEqDiff, Nat.reduceLT, reduceCtorEq, cut, Int.reduceLE, Int.reduceLT, Int.reduceToNat, Int.reduceEq, Int.reduceNeg, Int.reduceMul, Int.reduceAdd, Int.reduceSub, bne, bC.u, bB.u, bN.u, bL.u, bR.u, bI.u, bD.u]
    repeat' ((first | refine finB ?_ ?_ | refine finG ?_ ?_ | refine finD ?_ ?_ | refine runB ?_ ?_ | refine runG ?_ ?_ | refine runD ?_ ?_) <;> intro hx <;> (try simp only [beq_iff_eq, beq_eq_false_iff_ne, ne_eq, beqt, beqf, decide_eq_true_eq, decide_eq_false_iff_not, Bool.not_eq_true', Bool.not_eq_false', Bool.not_not, Bool.not_eq_true, Bool.and_eq_true, Bool.or_eq_true, decide_true, decide_false, Bool.false_eq_true, reduceCtorEq] at hx) <;> (try simp (maxSteps := 99999999) (disch := first | decide | omega | exact ok_of (by kernel_rfl)) only [hx, m11, h1, h2, hkk, if_pos, if_neg, Nat.reduceAdd, Nat.reduceMul, Nat.reduceLeDiff, Nat.reduceEqDiff, Nat.reduceLT, reduceCtorEq, cut, Int.reduceLE, Int.reduceLT, Int.reduceToNat, Int.reduceEq, Int.reduceNeg, Int.reduceMul, Int.reduceAdd, Int.reduceSub, bne, bC.u, bB.u, bN.u, bL.u, bR.u, bI.u, bD.u]))
    all_goals first | (exfalso; omega) | (subst hrhs; rfl)
  subst hkk
  obtain ⟨k1, k3, k6, k7⟩ := hk
  have ha := attrs_length d
  have hb := attrs_length d2
  have hl := ht.2.1
  have hl2 := ht2.2.1
  have hw : withK k t d t2 d2 = (decide (d2.length ≤ d.length) && decide (d.take d2.length = d2)) := by unfold withK; rw [if_neg k1, if_neg k3, if_neg k6, if_neg k7]
  rw [hw]
  by_cases hd : d2.length ≤ d.length
  · have hc := cut_attrs d d2.length hd
    have h22 := c22 (d.take d2.length) d2 (by rw [List.length_take]; omega)
    apply hide; intro rhs hrhs
    simp (maxSteps := 99999999) (disch := first | decide | omega | exact ok_of (by kernel_rfl)) only [m11, h1, h2, ha, hb, hc, h22, k1, k3, k6, k7, if_pos, if_neg, Nat.reduceAdd, Nat.reduceMul, Nat.reduceLeDiff, Nat.reduceEqDiff, Nat.reduceLT, reduceCtorEq, Int.reduceLE, Int.reduceLT, Int.reduceToNat, Int.reduceEq, Int.reduceNeg, Int.reduceMul, Int.reduceAdd, Int.reduceSub, bne, bC.u, bB.u, bN.u, bL.u, bR.u, bI.u, bD.u]
    repeat' ((first | refine finB ?_ ?_ | refine finG ?_ ?_ | refine finD ?_ ?_ | refine runB ?_ ?_ | refine runG ?_ ?_ | refine runD ?_ ?_) <;> intro hx <;> (try simp only [beq_iff_eq, beq_eq_false_iff_ne, ne_eq, beqt, beqf, decide_eq_true_eq, decide_eq_false_iff_not, Bool.not_eq_true', Bool.not_eq_false', Bool.not_not, Bool.not_eq_true, Bool.and_eq_true, Bool.or_eq_true, decide_true, decide_false, Bool.false_eq_true, reduceCtorEq] at hx) <;> (try simp (maxSteps := 99999999) (disch := first | decide | omega | exact ok_of (by kernel_rfl)) only [hx, m11, h1, h2, ha, hb, hc, h22, k1, k3, k6, k7, if_pos, if_neg, Nat.reduceAdd, Nat.reduceMul, Nat.reduceLeDiff, Nat.reduceEqDiff, Nat.reduceLT, reduceCtorEq, Int.reduceLE, Int.reduceLT, Int.reduceToNat, Int.reduceEq, Int.reduceNeg, Int.reduceMul, Int.reduceAdd, Int.reduceSub, bne, bC.u, bB.u, bN.u, bL.u, bR.u, bI.u, bD.u]))
    all_goals first | (exfalso; omega) | (subst hrhs; simp_all)
  · skip
    apply hide; intro rhs hrhs
    simp (maxSteps := 99999999) (disch := first | decide | omega | exact ok_of (by kernel_rfl)) only [m11, h1, h2, ha, hb, k1, k3, k6, k7, if_pos, if_neg, Nat.reduceAdd, Nat.reduceMul, Nat.reduceLeDiff, Nat.reduceEqDiff, Nat.reduceLT, reduceCtorEq, cut, Int.reduceLE, Int.reduceLT, Int.reduceToNat, Int.reduceEq, Int.reduceNeg, Int.reduceMul, Int.reduceAdd, Int.reduceSub, bne, bC.u, bB.u, bN.u, bL.u, bR.u, bI.u, bD.u]
    repeat' ((first | refine finB ?_ ?_ | refine finG ?_ ?_ | refine finD ?_ ?_ | refine runB ?_ ?_ | refine runG ?_ ?_ | refine runD ?_ ?_) <;> intro hx <;> (try simp only [beq_iff_eq, beq_eq_false_iff_ne, ne_eq, beqt, beqf, decide_eq_true_eq, decide_eq_false_iff_not, Bool.not_eq_true', Bool.not_eq_false', Bool.not_not, Bool.not_eq_true, Bool.and_eq_true, Bool.or_eq_true, decide_true, decide_false, Bool.false_eq_true, reduceCtorEq] at hx) <;> (try simp (maxSteps := 99999999) (disch := first | decide | omega | exact ok_of (by kernel_rfl)) only [hx, m11, h1, h2, ha, hb, k1, k3, k6, k7, if_pos, if_neg, Nat.reduceAdd, Nat.reduceMul, Nat.reduceLeDiff, Nat.reduceEqDiff, Nat.reduceLT, reduceCtorEq, cut, Int.reduceLE, Int.reduceLT, Int.reduceToNat, Int.reduceEq, Int.reduceNeg, Int.reduceMul, Int.reduceAdd, Int.reduceSub, bne, bC.u, bB.u, bN.u, bL.u, bR.u, bI.u, bD.u]))
    all_goals first | (exfalso; omega) | (subst hrhs; simp_all; try (intros; omega))

theorem c11 (k : Int) (t : List UInt8) (d : Dn) (k2 : Int) (t2 : List UInt8) (d2 : Dn) (ht : t.length < 1000000 ∧ okLens d) (ht2 : t2.length < 1000000 ∧ okLens d2) : Call Q 11 [gM k t (.sl 2 (attrs d)), gM k2 t2 (.sl 2 (attrs d2))] = some (.bool (withB k t d k2 t2 d2)) := by
  by_cases k1 : k = 1
  · exact c11_1 k k1 t d k2 t2 d2 ht ht2
  by_cases k3 : k = 2
  · exact c11_2 k k3 t d k2 t2 d2 ht ht2
  by_cases k6 : k = 6
  · exact c11_6 k k6 t d k2 t2 d2 ht ht2
  by_cases k7 : k = 7
  · exact c11_7 k k7 t d k2 t2 d2 ht ht2
  exact c11_4 k ⟨k1, k3, k6, k7⟩ t d k2 t2 d2 ht ht2
end Go.Mini
