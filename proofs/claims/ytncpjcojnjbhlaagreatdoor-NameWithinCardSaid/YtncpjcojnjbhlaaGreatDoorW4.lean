/- Within, the program's, over Mini: whole. -/
import Derived.Test.YtncpjcojnjbhlaaGreatDoorW3
namespace Go.Mini
open Go Go.Proofs.YtncpjcojnjbhlaaGreatDoor
set_option maxRecDepth 10000
set_option maxHeartbeats 40000000
set_option linter.unusedSimpArgs false


theorem valE_right {k : Int} {t : List UInt8} {d : Dn} {lim : Bool} (h : valE k t d lim = 0) : rightB k t d lim = true ∧ kindB k = true := by
  unfold valE at h
  split at h
  · cases h
  · rename_i hk
    have hkk : kindB k = true := by
      cases hq : kindB k
      · rw [hq] at hk; simp at hk
      · rfl
    split at h
    · split at h
      · split at h
        · rename_i hr; exact ⟨hr, hkk⟩
        · cases h
      · cases h
    · split at h
      · rename_i hr; exact ⟨hr, hkk⟩
      · cases h
theorem valE_text {k : Int} {t : List UInt8} {d : Dn} {lim : Bool} (h : valE k t d lim = 0) (h4 : k ≠ 4) (h7 : k ≠ 7) : t.length ≤ 64 ∧ t.any high = false := by
  have := (valE_right h).1
  unfold rightB at this
  rw [if_neg h4, if_neg h7] at this
  simp only [Bool.and_eq_true, decide_eq_true_eq, Bool.not_eq_true'] at this
  exact ⟨this.1.2, this.2⟩
theorem any_drop {P : UInt8 → Bool} {t : List UInt8} (h : t.any P = false) (n : Nat) : (t.drop n).any P = false := by
  rw [List.any_eq_false] at h ⊢
  exact fun x hx => h x (List.mem_of_mem_drop hx)
theorem any_take {P : UInt8 → Bool} {t : List UInt8} (h : t.any P = false) (n : Nat) : (t.take n).any P = false := by
  rw [List.any_eq_false] at h ⊢
  exact fun x hx => h x (List.mem_of_mem_take hx)
theorem ascii_any {t : List UInt8} (h : t.any high = false) : ascii t = true := by
  unfold ascii
  rw [List.any_eq_false] at h
  rw [List.all_eq_true]
  intro x hx
  have := h x hx
  unfold high at this
  simp at this ⊢
  omega
theorem c31 (s sep : List UInt8) (hs : s.length < 1000000) : Call Q 31 [.str s, .str sep] = some (.tup [.str (Lib.cut s sep).1, .str (Lib.cut s sep).2.1, .bool (Lib.cut s sep).2.2]) := by
  rw [Call_prim Q (g := pCut) rfl]
  unfold pCut
  simp only
  rw [if_pos (by omega)]
theorem c33 (s cs : List UInt8) (hs : s.length < 1000000) (hc : cs.length < 1000000) (ha : ascii s = true) (hb : ascii cs = true) : Call Q 33 [.str s, .str cs] = some (.int .i64 (Lib.indexAny s cs)) := by
  rw [Call_prim Q (g := pIndexAny) rfl]
  unfold pIndexAny
  simp only
  rw [if_pos ⟨by omega, by omega, ha, hb⟩]
theorem c24d (a b : Dn) (ha : a.length < 1000000) (hb : b.length < 1000000) (x y : MV) (hx : isDir x a) (hy : isDir y b) : Call Q 24 [x, y] = some (.bool (decide (a = b))) := by
  have h := c24 a b ha hb
  rw [Call_fn Q (m := m24) rfl rfl] at h ⊢
  rcases hx with rfl | ⟨rfl, rfl⟩ <;> rcases hy with rfl | ⟨rfl, rfl⟩ <;> exact h
theorem indexAny_perm (r : List UInt8) : Lib.indexAny r [47, 58, 63, 35] = Lib.indexAny r [47, 58, 63, 35] := rfl
theorem c10_no (k k2 : Int) (t : List UInt8) (dv : MV) (d : Dn) (t2 : List UInt8) (dv2 : MV) (d2 : Dn) (hdv : isDir dv d) (hdv2 : isDir dv2 d2) (ht : t.length < 1000000 ∧ okLens d) (ht2 : t2.length < 1000000 ∧ okLens d2) (hn : ¬ (valE k t d false = 0 ∧ valE k2 t2 d2 true = 0 ∧ k = k2)) : Call Q 10 [gM k t dv, gM k2 t2 dv2] = some (.bool false) := by
  obtain ⟨x1, x2, x3, x4, x5, q1⟩ := valR_shape k t d false
  obtain ⟨y1, y2, y3, y4, y5, q2⟩ := valR_shape k2 t2 d2 true
  have h1 := c14 k t dv d hdv ht.1 ht.2 false
  have h2 := c14 k2 t2 dv2 d2 hdv2 ht2.1 ht2.2 true
  rw [q1] at h1
  rw [q2] at h2
  unfold gM at h1 h2 ⊢
  rw [Call_fn Q (m := m10) rfl rfl]
  generalize valE k t d false = e1 at h1 hn
  generalize valE k2 t2 d2 true = e2 at h2 hn
  rcases hdv with rfl | ⟨rfl, rfl⟩ <;> rcases hdv2 with rfl | ⟨rfl, rfl⟩
  all_goals (
    apply hide; intro rhs hrhs
    simp (maxSteps := 99999999) (disch := first | decide | omega | exact ok_of (by kernel_rfl)) only [m10, h1, h2, if_pos, if_neg, Nat.reduceAdd, Nat.reduceMul, Nat.reduceLeDiff, Nat.reduceEqDiff, Nat.reduceLT, reduceCtorEq, cut, Int.reduceLE, Int.reduceLT, Int.reduceToNat, Int.reduceEq, Int.reduceNeg, Int.reduceMul, Int.reduceAdd, Int.reduceSub, bne, bC.u, bB.u, bN.u, bL.u, bR.u, bI.u, bD.u]
    repeat' ((first | refine finB ?_ ?_ | refine finG ?_ ?_ | refine finD ?_ ?_ | refine runB ?_ ?_ | refine runG ?_ ?_ | refine runD ?_ ?_) <;> intro hx <;> (try simp only [beq_iff_eq, beq_eq_false_iff_ne, ne_eq, beqt, beqf, decide_eq_true_eq, decide_eq_false_iff_not, Bool.not_eq_true', Bool.not_eq_false', Bool.not_not, Bool.not_eq_true, Bool.and_eq_true, Bool.or_eq_true, decide_true, decide_false, Bool.false_eq_true, reduceCtorEq] at hx) <;> (try simp (maxSteps := 99999999) (disch := first | decide | omega | exact ok_of (by kernel_rfl)) only [hx, m10, h1, h2, if_pos, if_neg, Nat.reduceAdd, Nat.reduceMul, Nat.reduceLeDiff, Nat.reduceEqDiff, Nat.reduceLT, reduceCtorEq, cut, Int.reduceLE, Int.reduceLT, Int.reduceToNat, Int.reduceEq, Int.reduceNeg, Int.reduceMul, Int.reduceAdd, Int.reduceSub, bne, bC.u, bB.u, bN.u, bL.u, bR.u, bI.u, bD.u]))
    all_goals first | (exfalso; omega) | (subst hrhs; first | rfl | (exfalso; simp_all)))

theorem c10_2 (k : Int) (hk : k = 2) (t : List UInt8) (dv : MV) (d : Dn) (t2 : List UInt8) (dv2 : MV) (d2 : Dn) (hdv : isDir dv d) (hdv2 : isDir dv2 d2) (ht : t.length < 1000000 ∧ okLens d) (ht2 : t2.length < 1000000 ∧ okLens d2) (hE : valE k t d false = 0) (hF : valE k t2 d2 true = 0) : Call Q 10 [gM k t dv, gM k t2 dv2] = some (.bool (withK k t d t2 d2)) := by
  obtain ⟨x1, x2, x3, x4, x5, q1⟩ := valR_shape k t d false
  obtain ⟨y1, y2, y3, y4, y5, q2⟩ := valR_shape k t2 d2 true
  have h1 := c14 k t dv d hdv ht.1 ht.2 false
  have h2 := c14 k t2 dv2 d2 hdv2 ht2.1 ht2.2 true
  rw [q1] at h1
  rw [q2] at h2
  unfold gM at h1 h2 ⊢
  rw [Call_fn Q (m := m10) rfl rfl]
  subst hk
  rw [hE] at h1
  rw [hF] at h2
  obtain ⟨l1, a1⟩ := valE_text hE (by decide) (by decide)
  obtain ⟨l2, a2⟩ := valE_text hF (by decide) (by decide)
  have h28 := c28 t (by omega) a1
  have h29 := c29 t (by omega)
  have h29' := c29 t2 (by omega)
  have h30 := c30 t (46 :: t2) (by omega) (by simp; omega)
  rcases hdv with rfl | ⟨rfl, rfl⟩ <;> rcases hdv2 with rfl | ⟨rfl, rfl⟩
  all_goals (
    apply hide; intro rhs hrhs
    simp (maxSteps := 99999999) (disch := first | decide | omega | exact ok_of (by kernel_rfl)) only [m10, h1, h2, h28, h29, h29', h30, if_pos, if_neg, Nat.reduceAdd, Nat.reduceMul, Nat.reduceLeDiff, Nat.reduceEqDiff, Nat.reduceLT, reduceCtorEq, cut, Int.reduceLE, Int.reduceLT, Int.reduceToNat, Int.reduceEq, Int.reduceNeg, Int.reduceMul, Int.reduceAdd, Int.reduceSub, bne, bC.u, bB.u, bN.u, bL.u, bR.u, bI.u, bD.u]
    repeat' ((first | refine finB ?_ ?_ | refine finG ?_ ?_ | refine finD ?_ ?_ | refine runB ?_ ?_ | refine runG ?_ ?_ | refine runD ?_ ?_) <;> intro hx <;> (try simp only [beq_iff_eq, beq_eq_false_iff_ne, ne_eq, beqt, beqf, decide_eq_true_eq, decide_eq_false_iff_not, Bool.not_eq_true', Bool.not_eq_false', Bool.not_not, Bool.not_eq_true, Bool.and_eq_true, Bool.or_eq_true, decide_true, decide_false, Bool.false_eq_true, reduceCtorEq] at hx) <;> (try simp (maxSteps := 99999999) (disch := first | decide | omega | exact ok_of (by kernel_rfl)) only [hx, m10, h1, h2, h28, h29, h29', h30, if_pos, if_neg, Nat.reduceAdd, Nat.reduceMul, Nat.reduceLeDiff, Nat.reduceEqDiff, Nat.reduceLT, reduceCtorEq, cut, Int.reduceLE, Int.reduceLT, Int.reduceToNat, Int.reduceEq, Int.reduceNeg, Int.reduceMul, Int.reduceAdd, Int.reduceSub, bne, bC.u, bB.u, bN.u, bL.u, bR.u, bI.u, bD.u]))
    all_goals first | (exfalso; omega) | (subst hrhs; simp_all [withK, alikeB]))

theorem c10_1 (k : Int) (hk : k = 1) (t : List UInt8) (dv : MV) (d : Dn) (t2 : List UInt8) (dv2 : MV) (d2 : Dn) (hdv : isDir dv d) (hdv2 : isDir dv2 d2) (ht : t.length < 1000000 ∧ okLens d) (ht2 : t2.length < 1000000 ∧ okLens d2) (hE : valE k t d false = 0) (hF : valE k t2 d2 true = 0) : Call Q 10 [gM k t dv, gM k t2 dv2] = some (.bool (withK k t d t2 d2)) := by
  obtain ⟨x1, x2, x3, x4, x5, q1⟩ := valR_shape k t d false
  obtain ⟨y1, y2, y3, y4, y5, q2⟩ := valR_shape k t2 d2 true
  have h1 := c14 k t dv d hdv ht.1 ht.2 false
  have h2 := c14 k t2 dv2 d2 hdv2 ht2.1 ht2.2 true
  rw [q1] at h1
  rw [q2] at h2
  unfold gM at h1 h2 ⊢
  rw [Call_fn Q (m := m10) rfl rfl]
  subst hk
  rw [hE] at h1
  rw [hF] at h2
  obtain ⟨l1, a1⟩ := valE_text hE (by decide) (by decide)
  obtain ⟨l2, a2⟩ := valE_text hF (by decide) (by decide)
  have h31 := c31 t [64] (by omega)
  have h31' := c31 t2 [64] (by omega)
  rw [cut_at] at h31 h31'
  show _ = some (MV.bool (mailB t t2))
  unfold mailB
  rcases atB_range t 64 0 with e1 | ⟨i, e1, i1, _⟩
  · rw [e1] at h31 ⊢
    simp only at h31
    rcases hdv with rfl | ⟨rfl, rfl⟩ <;> rcases hdv2 with rfl | ⟨rfl, rfl⟩
    all_goals (
      apply hide; intro rhs hrhs
      simp (maxSteps := 99999999) (disch := first | decide | omega | exact ok_of (by kernel_rfl)) only [m10, h1, h2, h31, if_pos, if_neg, Nat.reduceAdd, Nat.reduceMul, Nat.reduceLeDiff, Nat.reduceEqDiff, Nat.reduceLT, reduceCtorEq, cut, Int.reduceLE, Int.reduceLT, Int.reduceToNat, Int.reduceEq, Int.reduceNeg, Int.reduceMul, Int.reduceAdd, Int.reduceSub, bne, bC.u, bB.u, bN.u, bL.u, bR.u, bI.u, bD.u]
      repeat' ((first | refine finB ?_ ?_ | refine finG ?_ ?_ | refine finD ?_ ?_ | refine runB ?_ ?_ | refine runG ?_ ?_ | refine runD ?_ ?_) <;> intro hx <;> (try simp only [beq_iff_eq, beq_eq_false_iff_ne, ne_eq, beqt, beqf, decide_eq_true_eq, decide_eq_false_iff_not, Bool.not_eq_true', Bool.not_eq_false', Bool.not_not, Bool.not_eq_true, Bool.and_eq_true, Bool.or_eq_true, decide_true, decide_false, Bool.false_eq_true, reduceCtorEq] at hx) <;> (try simp (maxSteps := 99999999) (disch := first | decide | omega | exact ok_of (by kernel_rfl)) only [hx, m10, h1, h2, h31, if_pos, if_neg, Nat.reduceAdd, Nat.reduceMul, Nat.reduceLeDiff, Nat.reduceEqDiff, Nat.reduceLT, reduceCtorEq, cut, Int.reduceLE, Int.reduceLT, Int.reduceToNat, Int.reduceEq, Int.reduceNeg, Int.reduceMul, Int.reduceAdd, Int.reduceSub, bne, bC.u, bB.u, bN.u, bL.u, bR.u, bI.u, bD.u]))
      all_goals first | (exfalso; omega) | (subst hrhs; rfl))
  · rw [Nat.zero_add] at e1
    rw [e1] at h31 ⊢
    cases i with
    | zero =>
      have h31 : Call Q 31 [.str t, .str [64]] = some (.tup [.str [], .str (t.drop 1), .bool true]) := h31
      rcases hdv with rfl | ⟨rfl, rfl⟩ <;> rcases hdv2 with rfl | ⟨rfl, rfl⟩
      all_goals (
        apply hide; intro rhs hrhs
        simp (maxSteps := 99999999) (disch := first | decide | omega | exact ok_of (by kernel_rfl)) only [m10, h1, h2, h31, if_pos, if_neg, Nat.reduceAdd, Nat.reduceMul, Nat.reduceLeDiff, Nat.reduceEqDiff, Nat.reduceLT, reduceCtorEq, cut, Int.reduceLE, Int.reduceLT, Int.reduceToNat, Int.reduceEq, Int.reduceNeg, Int.reduceMul, Int.reduceAdd, Int.reduceSub, bne, bC.u, bB.u, bN.u, bL.u, bR.u, bI.u, bD.u]
        repeat' ((first | refine finB ?_ ?_ | refine finG ?_ ?_ | refine finD ?_ ?_ | refine runB ?_ ?_ | refine runG ?_ ?_ | refine runD ?_ ?_) <;> intro hx <;> (try simp only [beq_iff_eq, beq_eq_false_iff_ne, ne_eq, beqt, beqf, decide_eq_true_eq, decide_eq_false_iff_not, Bool.not_eq_true', Bool.not_eq_false', Bool.not_not, Bool.not_eq_true, Bool.and_eq_true, Bool.or_eq_true, decide_true, decide_false, Bool.false_eq_true, reduceCtorEq] at hx) <;> (try simp (maxSteps := 99999999) (disch := first | decide | omega | exact ok_of (by kernel_rfl)) only [hx, m10, h1, h2, h31, if_pos, if_neg, Nat.reduceAdd, Nat.reduceMul, Nat.reduceLeDiff, Nat.reduceEqDiff, Nat.reduceLT, reduceCtorEq, cut, Int.reduceLE, Int.reduceLT, Int.reduceToNat, Int.reduceEq, Int.reduceNeg, Int.reduceMul, Int.reduceAdd, Int.reduceSub, bne, bC.u, bB.u, bN.u, bL.u, bR.u, bI.u, bD.u]))
        all_goals first | (exfalso; omega) | (subst hrhs; rfl))
    | succ i =>
      have h31 : Call Q 31 [.str t, .str [64]] = some (.tup [.str (t.take (i + 1)), .str (t.drop (i + 2)), .bool true]) := h31
      have hne : (t.take (i + 1) == []) = false := by
        rw [beq_eq_false_iff_ne]
        intro e
        have := congrArg List.length e
        rw [List.length_take, List.length_nil] at this
        omega
      have hlen : (t.drop (i + 2)).length < 1000 := by rw [List.length_drop]; omega
      have h28 := c28 (t.drop (i + 2)) (by omega) (any_drop a1 _)
      have h32 := c32 (t.drop (i + 2)) t2 (by omega) (by omega) (any_drop a1 _)
      have h29 := c29 (t.drop (i + 2)) (by omega)
      show _ = some (MV.bool (machB (t.drop (i + 2)) && _))
      rcases atB_range t2 64 0 with e2 | ⟨j, e2, j1, _⟩
      · rw [e2] at h31' ⊢
        simp only at h31'
        rcases hdv with rfl | ⟨rfl, rfl⟩ <;> rcases hdv2 with rfl | ⟨rfl, rfl⟩
        all_goals (
          apply hide; intro rhs hrhs
          simp (maxSteps := 99999999) (disch := first | decide | omega | exact ok_of (by kernel_rfl)) only [m10, h1, h2, h31, h31', hne, h28, h32, if_pos, if_neg, Nat.reduceAdd, Nat.reduceMul, Nat.reduceLeDiff, Nat.reduceEqDiff, Nat.reduceLT, reduceCtorEq, cut, Int.reduceLE, Int.reduceLT, Int.reduceToNat, Int.reduceEq, Int.reduceNeg, Int.reduceMul, Int.reduceAdd, Int.reduceSub, bne, bC.u, bB.u, bN.u, bL.u, bR.u, bI.u, bD.u]
          repeat' ((first | refine finB ?_ ?_ | refine finG ?_ ?_ | refine finD ?_ ?_ | refine runB ?_ ?_ | refine runG ?_ ?_ | refine runD ?_ ?_) <;> intro hx <;> (try simp only [beq_iff_eq, beq_eq_false_iff_ne, ne_eq, beqt, beqf, decide_eq_true_eq, decide_eq_false_iff_not, Bool.not_eq_true', Bool.not_eq_false', Bool.not_not, Bool.not_eq_true, Bool.and_eq_true, Bool.or_eq_true, decide_true, decide_false, Bool.false_eq_true, reduceCtorEq] at hx) <;> (try simp (maxSteps := 99999999) (disch := first | decide | omega | exact ok_of (by kernel_rfl)) only [hx, m10, h1, h2, h31, h31', hne, h28, h32, if_pos, if_neg, Nat.reduceAdd, Nat.reduceMul, Nat.reduceLeDiff, Nat.reduceEqDiff, Nat.reduceLT, reduceCtorEq, cut, Int.reduceLE, Int.reduceLT, Int.reduceToNat, Int.reduceEq, Int.reduceNeg, Int.reduceMul, Int.reduceAdd, Int.reduceSub, bne, bC.u, bB.u, bN.u, bL.u, bR.u, bI.u, bD.u]))
          all_goals first | (exfalso; omega) | (subst hrhs; simp_all))
      · rw [Nat.zero_add] at e2
        rw [e2] at h31' ⊢
        have h31' : Call Q 31 [.str t2, .str [64]] = some (.tup [.str (t2.take j), .str (t2.drop (j + 1)), .bool true]) := h31'
        have h29' := c29 (t2.drop (j + 1)) (by rw [List.length_drop]; omega)
        show _ = some (MV.bool (machB (t.drop (i + 2)) && (decide (t2.take j = t.take (i + 1)) && alikeB (t2.drop (j + 1)) (t.drop (i + 2)))))
        rcases hdv with rfl | ⟨rfl, rfl⟩ <;> rcases hdv2 with rfl | ⟨rfl, rfl⟩
        all_goals (
          apply hide; intro rhs hrhs
          simp (maxSteps := 99999999) (disch := first | decide | omega | exact ok_of (by kernel_rfl)) only [m10, h1, h2, h31, h31', hne, h28, h29, h29', if_pos, if_neg, Nat.reduceAdd, Nat.reduceMul, Nat.reduceLeDiff, Nat.reduceEqDiff, Nat.reduceLT, reduceCtorEq, cut, Int.reduceLE, Int.reduceLT, Int.reduceToNat, Int.reduceEq, Int.reduceNeg, Int.reduceMul, Int.reduceAdd, Int.reduceSub, bne, bC.u, bB.u, bN.u, bL.u, bR.u, bI.u, bD.u]
          repeat' ((first | refine finB ?_ ?_ | refine finG ?_ ?_ | refine finD ?_ ?_ | refine runB ?_ ?_ | refine runG ?_ ?_ | refine runD ?_ ?_) <;> intro hx <;> (try simp only [beq_iff_eq, beq_eq_false_iff_ne, ne_eq, beqt, beqf, decide_eq_true_eq, decide_eq_false_iff_not, Bool.not_eq_true', Bool.not_eq_false', Bool.not_not, Bool.not_eq_true, Bool.and_eq_true, Bool.or_eq_true, decide_true, decide_false, Bool.false_eq_true, reduceCtorEq] at hx) <;> (try simp (maxSteps := 99999999) (disch := first | decide | omega | exact ok_of (by kernel_rfl)) only [hx, m10, h1, h2, h31, h31', hne, h28, h29, h29', if_pos, if_neg, Nat.reduceAdd, Nat.reduceMul, Nat.reduceLeDiff, Nat.reduceEqDiff, Nat.reduceLT, reduceCtorEq, cut, Int.reduceLE, Int.reduceLT, Int.reduceToNat, Int.reduceEq, Int.reduceNeg, Int.reduceMul, Int.reduceAdd, Int.reduceSub, bne, bC.u, bB.u, bN.u, bL.u, bR.u, bI.u, bD.u]))
          all_goals first | (exfalso; omega) | (subst hrhs; (simp_all [alikeB, eqStr])))

theorem c10_6 (k : Int) (hk : k = 6) (t : List UInt8) (dv : MV) (d : Dn) (t2 : List UInt8) (dv2 : MV) (d2 : Dn) (hdv : isDir dv d) (hdv2 : isDir dv2 d2) (ht : t.length < 1000000 ∧ okLens d) (ht2 : t2.length < 1000000 ∧ okLens d2) (hE : valE k t d false = 0) (hF : valE k t2 d2 true = 0) : Call Q 10 [gM k t dv, gM k t2 dv2] = some (.bool (withK k t d t2 d2)) := by
  obtain ⟨x1, x2, x3, x4, x5, q1⟩ := valR_shape k t d false
  obtain ⟨y1, y2, y3, y4, y5, q2⟩ := valR_shape k t2 d2 true
  have h1 := c14 k t dv d hdv ht.1 ht.2 false
  have h2 := c14 k t2 dv2 d2 hdv2 ht2.1 ht2.2 true
  rw [q1] at h1
  rw [q2] at h2
  unfold gM at h1 h2 ⊢
  rw [Call_fn Q (m := m10) rfl rfl]
  subst hk
  rw [hE] at h1
  rw [hF] at h2
  obtain ⟨l1, a1⟩ := valE_text hE (by decide) (by decide)
  obtain ⟨l2, a2⟩ := valE_text hF (by decide) (by decide)
  have h31 := c31 t [58, 47, 47] (by omega)
  have hge := Lib.index_ge t [58, 47, 47]
  show _ = some (MV.bool (uriB t t2))
  unfold uriB
  unfold Lib.cut at h31
  by_cases hx : Lib.index t [58, 47, 47] = -1
  · rw [if_pos hx]
    rw [if_neg (by omega)] at h31
    have h33 := c33 [] [47, 58, 63, 35] (by simp) (by simp) rfl rfl
    have h33 : Call Q 33 [.str [], .str [47, 58, 63, 35]] = some (.int .i64 (-1)) := h33
    rcases hdv with rfl | ⟨rfl, rfl⟩ <;> rcases hdv2 with rfl | ⟨rfl, rfl⟩
    all_goals (
      apply hide; intro rhs hrhs
      simp (maxSteps := 99999999) (disch := first | decide | omega | exact ok_of (by kernel_rfl)) only [m10, h1, h2, h31, h33, if_pos, if_neg, Nat.reduceAdd, Nat.reduceMul, Nat.reduceLeDiff, Nat.reduceEqDiff, Nat.reduceLT, reduceCtorEq, cut, Int.reduceLE, Int.reduceLT, Int.reduceToNat, Int.reduceEq, Int.reduceNeg, Int.reduceMul, Int.reduceAdd, Int.reduceSub, bne, bC.u, bB.u, bN.u, bL.u, bR.u, bI.u, bD.u]
      repeat' ((first | refine finB ?_ ?_ | refine finG ?_ ?_ | refine finD ?_ ?_ | refine runB ?_ ?_ | refine runG ?_ ?_ | refine runD ?_ ?_) <;> intro hx <;> (try simp only [beq_iff_eq, beq_eq_false_iff_ne, ne_eq, beqt, beqf, decide_eq_true_eq, decide_eq_false_iff_not, Bool.not_eq_true', Bool.not_eq_false', Bool.not_not, Bool.not_eq_true, Bool.and_eq_true, Bool.or_eq_true, decide_true, decide_false, Bool.false_eq_true, reduceCtorEq] at hx) <;> (try simp (maxSteps := 99999999) (disch := first | decide | omega | exact ok_of (by kernel_rfl)) only [hx, m10, h1, h2, h31, h33, if_pos, if_neg, Nat.reduceAdd, Nat.reduceMul, Nat.reduceLeDiff, Nat.reduceEqDiff, Nat.reduceLT, reduceCtorEq, cut, Int.reduceLE, Int.reduceLT, Int.reduceToNat, Int.reduceEq, Int.reduceNeg, Int.reduceMul, Int.reduceAdd, Int.reduceSub, bne, bC.u, bB.u, bN.u, bL.u, bR.u, bI.u, bD.u]))
      all_goals first | (exfalso; omega) | (subst hrhs; rfl))
  · rw [if_neg hx]
    rw [if_pos (by omega)] at h31
    simp only [List.length_cons, List.length_nil, Nat.reduceAdd] at h31
    have hrl : (t.drop ((Lib.index t [58, 47, 47]).toNat + 3)).length ≤ 64 := by rw [List.length_drop]; omega
    have hra := any_drop a1 ((Lib.index t [58, 47, 47]).toNat + 3)
    generalize t.drop ((Lib.index t [58, 47, 47]).toNat + 3) = r at *
    have h33 := c33 r [47, 58, 63, 35] (by omega) (by simp) (ascii_any hra) rfl
    have hp : Lib.indexAny r [47, 58, 63, 35] = Lib.indexAny r [47, 58, 63, 35] := rfl
    rw [show Lib.indexAny r [47, 58, 63, 35] = if till r = r.length then -1 else (till r : Int) by rw [← indexAny_till]] at h33
    have htl := till_le r
    have h32 := c32 (r.take (till r)) t2 (by rw [List.length_take]; omega) (by omega) (any_take hra _)
    by_cases hm : till r = r.length
    · rw [if_pos hm] at h33
      rw [hm, List.take_length] at h32 ⊢
      rcases hdv with rfl | ⟨rfl, rfl⟩ <;> rcases hdv2 with rfl | ⟨rfl, rfl⟩
      all_goals (
        apply hide; intro rhs hrhs
        simp (maxSteps := 99999999) (disch := first | decide | omega | exact ok_of (by kernel_rfl)) only [m10, h1, h2, h31, h33, h32, if_pos, if_neg, Nat.reduceAdd, Nat.reduceMul, Nat.reduceLeDiff, Nat.reduceEqDiff, Nat.reduceLT, reduceCtorEq, cut, Int.reduceLE, Int.reduceLT, Int.reduceToNat, Int.reduceEq, Int.reduceNeg, Int.reduceMul, Int.reduceAdd, Int.reduceSub, bne, bC.u, bB.u, bN.u, bL.u, bR.u, bI.u, bD.u]
        repeat' ((first | refine finB ?_ ?_ | refine finG ?_ ?_ | refine finD ?_ ?_ | refine runB ?_ ?_ | refine runG ?_ ?_ | refine runD ?_ ?_) <;> intro hx <;> (try simp only [beq_iff_eq, beq_eq_false_iff_ne, ne_eq, beqt, beqf, decide_eq_true_eq, decide_eq_false_iff_not, Bool.not_eq_true', Bool.not_eq_false', Bool.not_not, Bool.not_eq_true, Bool.and_eq_true, Bool.or_eq_true, decide_true, decide_false, Bool.false_eq_true, reduceCtorEq] at hx) <;> (try simp (maxSteps := 99999999) (disch := first | decide | omega | exact ok_of (by kernel_rfl)) only [hx, m10, h1, h2, h31, h33, h32, if_pos, if_neg, Nat.reduceAdd, Nat.reduceMul, Nat.reduceLeDiff, Nat.reduceEqDiff, Nat.reduceLT, reduceCtorEq, cut, Int.reduceLE, Int.reduceLT, Int.reduceToNat, Int.reduceEq, Int.reduceNeg, Int.reduceMul, Int.reduceAdd, Int.reduceSub, bne, bC.u, bB.u, bN.u, bL.u, bR.u, bI.u, bD.u]))
        all_goals first | (exfalso; omega) | (subst hrhs; rfl))
    · rw [if_neg hm] at h33
      have hc : cut r none (some (.int .i64 (till r : Int))) = some (r.take (till r)) := cut_to rfl (by omega)
      rcases hdv with rfl | ⟨rfl, rfl⟩ <;> rcases hdv2 with rfl | ⟨rfl, rfl⟩
      all_goals (
        apply hide; intro rhs hrhs
        simp (maxSteps := 99999999) (disch := first | decide | omega | exact ok_of (by kernel_rfl)) only [m10, h1, h2, h31, h33, h32, hc, if_pos, if_neg, Nat.reduceAdd, Nat.reduceMul, Nat.reduceLeDiff, Nat.reduceEqDiff, Nat.reduceLT, reduceCtorEq, Int.reduceLE, Int.reduceLT, Int.reduceToNat, Int.reduceEq, Int.reduceNeg, Int.reduceMul, Int.reduceAdd, Int.reduceSub, bne, bC.u, bB.u, bN.u, bL.u, bR.u, bI.u, bD.u]
        repeat' ((first | refine finB ?_ ?_ | refine finG ?_ ?_ | refine finD ?_ ?_ | refine runB ?_ ?_ | refine runG ?_ ?_ | refine runD ?_ ?_) <;> intro hx <;> (try simp only [beq_iff_eq, beq_eq_false_iff_ne, ne_eq, beqt, beqf, decide_eq_true_eq, decide_eq_false_iff_not, Bool.not_eq_true', Bool.not_eq_false', Bool.not_not, Bool.not_eq_true, Bool.and_eq_true, Bool.or_eq_true, decide_true, decide_false, Bool.false_eq_true, reduceCtorEq] at hx) <;> (try simp (maxSteps := 99999999) (disch := first | decide | omega | exact ok_of (by kernel_rfl)) only [hx, m10, h1, h2, h31, h33, h32, hc, if_pos, if_neg, Nat.reduceAdd, Nat.reduceMul, Nat.reduceLeDiff, Nat.reduceEqDiff, Nat.reduceLT, reduceCtorEq, Int.reduceLE, Int.reduceLT, Int.reduceToNat, Int.reduceEq, Int.reduceNeg, Int.reduceMul, Int.reduceAdd, Int.reduceSub, bne, bC.u, bB.u, bN.u, bL.u, bR.u, bI.u, bD.u]))
        all_goals first | (exfalso; omega) | (subst hrhs; rfl))

theorem c10_7 (k : Int) (hk : k = 7) (t : List UInt8) (dv : MV) (d : Dn) (t2 : List UInt8) (dv2 : MV) (d2 : Dn) (hdv : isDir dv d) (hdv2 : isDir dv2 d2) (ht : t.length < 1000000 ∧ okLens d) (ht2 : t2.length < 1000000 ∧ okLens d2) (hE : valE k t d false = 0) (hF : valE k t2 d2 true = 0) : Call Q 10 [gM k t dv, gM k t2 dv2] = some (.bool (withK k t d t2 d2)) := by
  obtain ⟨x1, x2, x3, x4, x5, q1⟩ := valR_shape k t d false
  obtain ⟨y1, y2, y3, y4, y5, q2⟩ := valR_shape k t2 d2 true
  have h1 := c14 k t dv d hdv ht.1 ht.2 false
  have h2 := c14 k t2 dv2 d2 hdv2 ht2.1 ht2.2 true
  rw [q1] at h1
  rw [q2] at h2
  unfold gM at h1 h2 ⊢
  rw [Call_fn Q (m := m10) rfl rfl]
  subst hk
  rw [hE] at h1
  rw [hF] at h2
  show _ = some (MV.bool (netB t t2))
  by_cases hl : t2.length = 2 * t.length
  · rw [← net_fold t t2 hl]
    have hn := fun K => c10_net K t t2 hl ht.1
    have l1 := andS_len (t2.drop t.length) (List.range t.length) t
    have l2 := andS_len (t2.drop t.length) (List.range t.length) (t2.take t.length)
    rw [List.length_take, Nat.min_eq_left (by omega)] at l2
    have e3 : (t2.drop t.length).take (t2.length - t.length) = t2.drop t.length := by rw [List.take_of_length_le]; simp
    have e4 : (t2.drop t.length).length = t.length := by rw [List.length_drop]; omega
    have e5 : (t2.take t.length).length = t.length := by rw [List.length_take]; omega
    generalize hx : (List.range t.length).foldl (andS (t2.drop t.length)) t = x at *
    generalize hy : (List.range t.length).foldl (andS (t2.drop t.length)) (t2.take t.length) = y at *
    have h34 := c34 x y
    have fact : ∀ K, S10 K (t2.drop t.length) t.length (x, y) t.length = some (.bool (x == y)) → True := fun _ _ => trivial
    rcases hdv with rfl | ⟨rfl, rfl⟩ <;> rcases hdv2 with rfl | ⟨rfl, rfl⟩
    all_goals (
      apply hide; intro rhs hrhs
      simp (maxSteps := 99999999) (disch := first | decide | omega | exact ok_of (by kernel_rfl)) only [m10, h1, h2, Run_loop, e3, e4, e5, Nat.sub_zero, if_pos, if_neg, Nat.reduceAdd, Nat.reduceMul, Nat.reduceLeDiff, Nat.reduceEqDiff, Nat.reduceLT, reduceCtorEq, cut, Int.reduceLE, Int.reduceLT, Int.reduceToNat, Int.reduceEq, Int.reduceNeg, Int.reduceMul, Int.reduceAdd, Int.reduceSub, bne, bC.u, bB.u, bN.u, bL.u, bR.u, bI.u, bD.u]
      repeat' ((first | refine finB ?_ ?_ | refine finG ?_ ?_ | refine finD ?_ ?_ | refine runB ?_ ?_ | refine runG ?_ ?_ | refine runD ?_ ?_) <;> intro hx <;> (try simp only [beq_iff_eq, beq_eq_false_iff_ne, ne_eq, beqt, beqf, decide_eq_true_eq, decide_eq_false_iff_not, Bool.not_eq_true', Bool.not_eq_false', Bool.not_not, Bool.not_eq_true, Bool.and_eq_true, Bool.or_eq_true, decide_true, decide_false, Bool.false_eq_true, reduceCtorEq] at hx) <;> (try simp (maxSteps := 99999999) (disch := first | decide | omega | exact ok_of (by kernel_rfl)) only [hx, m10, h1, h2, Run_loop, e3, e4, e5, Nat.sub_zero, if_pos, if_neg, Nat.reduceAdd, Nat.reduceMul, Nat.reduceLeDiff, Nat.reduceEqDiff, Nat.reduceLT, reduceCtorEq, cut, Int.reduceLE, Int.reduceLT, Int.reduceToNat, Int.reduceEq, Int.reduceNeg, Int.reduceMul, Int.reduceAdd, Int.reduceSub, bne, bC.u, bB.u, bN.u, bL.u, bR.u, bI.u, bD.u]))
      all_goals first | (exfalso; omega) | (subst hrhs; refine (congrArg (fin R10) (RunL_canon (st' := ⟨V10 t.length 0, [], O10 t (t2.take t.length) (t2.drop t.length), 4⟩) (by kernel_rfl))).trans ((hn _).trans ?_); unfold S10; obtain ⟨b', hb'⟩ : ∃ b', b' = m10b0 := ⟨_, rfl⟩; rw [RunL_eq, show Item.lp m10k0 m10b0 = Item.lp m10k0 b' by rw [hb']]; simp (maxSteps := 99999999) (disch := first | decide | omega | exact ok_of (by kernel_rfl)) only [m10b0, V10, O10, R10, l1, l2, h34, decide_eq_false (Int.lt_irrefl _), if_pos, if_neg, Nat.reduceAdd, Nat.reduceMul, Nat.reduceLeDiff, Nat.reduceEqDiff, Nat.reduceLT, reduceCtorEq, cut, Int.reduceLE, Int.reduceLT, Int.reduceToNat, Int.reduceEq, Int.reduceNeg, Int.reduceMul, Int.reduceAdd, Int.reduceSub, bne, bC.u, bB.u, bN.u, bL.u, bR.u, bI.u, bD.u]))
  · have hw : netB t t2 = false := by
      unfold netB
      rw [decide_eq_false (by omega), Bool.false_and]
    rw [hw]
    rcases hdv with rfl | ⟨rfl, rfl⟩ <;> rcases hdv2 with rfl | ⟨rfl, rfl⟩
    all_goals (
      apply hide; intro rhs hrhs
      simp (maxSteps := 99999999) (disch := first | decide | omega | exact ok_of (by kernel_rfl)) only [m10, h1, h2, if_pos, if_neg, Nat.reduceAdd, Nat.reduceMul, Nat.reduceLeDiff, Nat.reduceEqDiff, Nat.reduceLT, reduceCtorEq, cut, Int.reduceLE, Int.reduceLT, Int.reduceToNat, Int.reduceEq, Int.reduceNeg, Int.reduceMul, Int.reduceAdd, Int.reduceSub, bne, bC.u, bB.u, bN.u, bL.u, bR.u, bI.u, bD.u]
      repeat' ((first | refine finB ?_ ?_ | refine finG ?_ ?_ | refine finD ?_ ?_ | refine runB ?_ ?_ | refine runG ?_ ?_ | refine runD ?_ ?_) <;> intro hx <;> (try simp only [beq_iff_eq, beq_eq_false_iff_ne, ne_eq, beqt, beqf, decide_eq_true_eq, decide_eq_false_iff_not, Bool.not_eq_true', Bool.not_eq_false', Bool.not_not, Bool.not_eq_true, Bool.and_eq_true, Bool.or_eq_true, decide_true, decide_false, Bool.false_eq_true, reduceCtorEq] at hx) <;> (try simp (maxSteps := 99999999) (disch := first | decide | omega | exact ok_of (by kernel_rfl)) only [hx, m10, h1, h2, if_pos, if_neg, Nat.reduceAdd, Nat.reduceMul, Nat.reduceLeDiff, Nat.reduceEqDiff, Nat.reduceLT, reduceCtorEq, cut, Int.reduceLE, Int.reduceLT, Int.reduceToNat, Int.reduceEq, Int.reduceNeg, Int.reduceMul, Int.reduceAdd, Int.reduceSub, bne, bC.u, bB.u, bN.u, bL.u, bR.u, bI.u, bD.u]))
      all_goals first | (exfalso; omega) | (subst hrhs; rfl))

theorem c10_44 (k : Int) (hk : k ≠ 1 ∧ k ≠ 2 ∧ k ≠ 6 ∧ k ≠ 7) (t : List UInt8) (dv : MV) (d : Dn) (t2 : List UInt8) (dv2 : MV) (d2 : Dn) (hdv : isDir dv d) (hdv2 : isDir dv2 d2) (ht : t.length < 1000000 ∧ okLens d) (ht2 : t2.length < 1000000 ∧ okLens d2) (hE : valE k t d false = 0) (hF : valE k t2 d2 true = 0) : Call Q 10 [gM k t dv, gM k t2 dv2] = some (.bool (withK k t d t2 d2)) := by
  obtain ⟨x1, x2, x3, x4, x5, q1⟩ := valR_shape k t d false
  obtain ⟨y1, y2, y3, y4, y5, q2⟩ := valR_shape k t2 d2 true
  have h1 := c14 k t dv d hdv ht.1 ht.2 false
  have h2 := c14 k t2 dv2 d2 hdv2 ht2.1 ht2.2 true
  rw [q1] at h1
  rw [q2] at h2
  unfold gM at h1 h2 ⊢
  rw [Call_fn Q (m := m10) rfl rfl]
  obtain ⟨k1, k3, k6, k7⟩ := hk
  rw [hE] at h1
  rw [hF] at h2
  have ha := attrs_length d
  have hb := attrs_length d2
  have hl := ht.2.1
  have hl2 := ht2.2.1
  have hw : withK k t d t2 d2 = (decide (d2.length ≤ d.length) && decide (d.take d2.length = d2)) := by unfold withK; rw [if_neg k1, if_neg k3, if_neg k6, if_neg k7]
  rw [hw]
  have hpos : 0 < d.length := by
    have hr := (valE_right hE).1
    have hk := (valE_right hE).2
    unfold kindB at hk
    simp only [Bool.or_eq_true, beq_iff_eq] at hk
    have h4 : k = 4 := by omega
    unfold rightB at hr
    rw [if_pos h4, Bool.false_or, decide_eq_true_eq] at hr
    exact hr
  have hdv' : dv = .sl 2 (attrs d) := by
    rcases hdv with h | ⟨_, h⟩
    · exact h
    · rw [h] at hpos; cases hpos
  subst hdv'
  have hc0 : cut (attrs d) none (some (.int .i64 (0 : Int))) = some [] := cut_attrs d 0 (Nat.zero_le _)
  have h24 := c24d [] [] (by simp) (by simp) _ _ (.inl rfl) (.inr ⟨rfl, rfl⟩)
  have h24 : Call Q 24 [.sl 2 [], .nilsl] = some (.bool true) := h24
  rcases hdv2 with rfl | ⟨rfl, rfl⟩
  · by_cases hd : d2.length ≤ d.length
    · have hc := cut_attrs d d2.length hd
      have h24 := c24d (d.take d2.length) d2 (by rw [List.length_take]; omega) (by omega) _ _ (.inl rfl) (.inl rfl)
      apply hide; intro rhs hrhs
      simp (maxSteps := 99999999) (disch := first | decide | omega | exact ok_of (by kernel_rfl)) only [m10, h1, h2, ha, hb, hc, h24, k1, k3, k6, k7, if_pos, if_neg, Nat.reduceAdd, Nat.reduceMul, Nat.reduceLeDiff, Nat.reduceEqDiff, Nat.reduceLT, reduceCtorEq, Int.reduceLE, Int.reduceLT, Int.reduceToNat, Int.reduceEq, Int.reduceNeg, Int.reduceMul, Int.reduceAdd, Int.reduceSub, bne, bC.u, bB.u, bN.u, bL.u, bR.u, bI.u, bD.u]
      repeat' ((first | refine finB ?_ ?_ | refine finG ?_ ?_ | refine finD ?_ ?_ | refine runB ?_ ?_ | refine runG ?_ ?_ | refine runD ?_ ?_) <;> intro hx <;> (try simp only [beq_iff_eq, beq_eq_false_iff_ne, ne_eq, beqt, beqf, decide_eq_true_eq, decide_eq_false_iff_not, Bool.not_eq_true', Bool.not_eq_false', Bool.not_not, Bool.not_eq_true, Bool.and_eq_true, Bool.or_eq_true, decide_true, decide_false, Bool.false_eq_true, reduceCtorEq] at hx) <;> (try simp (maxSteps := 99999999) (disch := first | decide | omega | exact ok_of (by kernel_rfl)) only [hx, m10, h1, h2, ha, hb, hc, h24, k1, k3, k6, k7, if_pos, if_neg, Nat.reduceAdd, Nat.reduceMul, Nat.reduceLeDiff, Nat.reduceEqDiff, Nat.reduceLT, reduceCtorEq, Int.reduceLE, Int.reduceLT, Int.reduceToNat, Int.reduceEq, Int.reduceNeg, Int.reduceMul, Int.reduceAdd, Int.reduceSub, bne, bC.u, bB.u, bN.u, bL.u, bR.u, bI.u, bD.u]))
      all_goals first | (exfalso; omega) | (subst hrhs; simp_all)
    · skip
      apply hide; intro rhs hrhs
      simp (maxSteps := 99999999) (disch := first | decide | omega | exact ok_of (by kernel_rfl)) only [m10, h1, h2, ha, hb, k1, k3, k6, k7, if_pos, if_neg, Nat.reduceAdd, Nat.reduceMul, Nat.reduceLeDiff, Nat.reduceEqDiff, Nat.reduceLT, reduceCtorEq, cut, Int.reduceLE, Int.reduceLT, Int.reduceToNat, Int.reduceEq, Int.reduceNeg, Int.reduceMul, Int.reduceAdd, Int.reduceSub, bne, bC.u, bB.u, bN.u, bL.u, bR.u, bI.u, bD.u]
      repeat' ((first | refine finB ?_ ?_ | refine finG ?_ ?_ | refine finD ?_ ?_ | refine runB ?_ ?_ | refine runG ?_ ?_ | refine runD ?_ ?_) <;> intro hx <;> (try simp only [beq_iff_eq, beq_eq_false_iff_ne, ne_eq, beqt, beqf, decide_eq_true_eq, decide_eq_false_iff_not, Bool.not_eq_true', Bool.not_eq_false', Bool.not_not, Bool.not_eq_true, Bool.and_eq_true, Bool.or_eq_true, decide_true, decide_false, Bool.false_eq_true, reduceCtorEq] at hx) <;> (try simp (maxSteps := 99999999) (disch := first | decide | omega | exact ok_of (by kernel_rfl)) only [hx, m10, h1, h2, ha, hb, k1, k3, k6, k7, if_pos, if_neg, Nat.reduceAdd, Nat.reduceMul, Nat.reduceLeDiff, Nat.reduceEqDiff, Nat.reduceLT, reduceCtorEq, cut, Int.reduceLE, Int.reduceLT, Int.reduceToNat, Int.reduceEq, Int.reduceNeg, Int.reduceMul, Int.reduceAdd, Int.reduceSub, bne, bC.u, bB.u, bN.u, bL.u, bR.u, bI.u, bD.u]))
      all_goals first | (exfalso; omega) | (subst hrhs; (simp_all; try (intros; omega)))
  · skip
    apply hide; intro rhs hrhs
    simp (maxSteps := 99999999) (disch := first | decide | omega | exact ok_of (by kernel_rfl)) only [m10, h1, h2, ha, hb, hc0, h24, k1, k3, k6, k7, if_pos, if_neg, Nat.reduceAdd, Nat.reduceMul, Nat.reduceLeDiff, Nat.reduceEqDiff, Nat.reduceLT, reduceCtorEq, Int.reduceLE, Int.reduceLT, Int.reduceToNat, Int.reduceEq, Int.reduceNeg, Int.reduceMul, Int.reduceAdd, Int.reduceSub, bne, bC.u, bB.u, bN.u, bL.u, bR.u, bI.u, bD.u]
    repeat' ((first | refine finB ?_ ?_ | refine finG ?_ ?_ | refine finD ?_ ?_ | refine runB ?_ ?_ | refine runG ?_ ?_ | refine runD ?_ ?_) <;> intro hx <;> (try simp only [beq_iff_eq, beq_eq_false_iff_ne, ne_eq, beqt, beqf, decide_eq_true_eq, decide_eq_false_iff_not, Bool.not_eq_true', Bool.not_eq_false', Bool.not_not, Bool.not_eq_true, Bool.and_eq_true, Bool.or_eq_true, decide_true, decide_false, Bool.false_eq_true, reduceCtorEq] at hx) <;> (try simp (maxSteps := 99999999) (disch := first | decide | omega | exact ok_of (by kernel_rfl)) only [hx, m10, h1, h2, ha, hb, hc0, h24, k1, k3, k6, k7, if_pos, if_neg, Nat.reduceAdd, Nat.reduceMul, Nat.reduceLeDiff, Nat.reduceEqDiff, Nat.reduceLT, reduceCtorEq, Int.reduceLE, Int.reduceLT, Int.reduceToNat, Int.reduceEq, Int.reduceNeg, Int.reduceMul, Int.reduceAdd, Int.reduceSub, bne, bC.u, bB.u, bN.u, bL.u, bR.u, bI.u, bD.u]))
    all_goals first | (exfalso; omega) | (subst hrhs; simp_all)


theorem c10 (k k2 : Int) (t : List UInt8) (dv : MV) (d : Dn) (t2 : List UInt8) (dv2 : MV) (d2 : Dn) (hdv : isDir dv d) (hdv2 : isDir dv2 d2) (ht : t.length < 1000000 ∧ okLens d) (ht2 : t2.length < 1000000 ∧ okLens d2) : Call Q 10 [gM k t dv, gM k2 t2 dv2] = some (.bool (withB k t d k2 t2 d2)) := by
  by_cases h : valE k t d false = 0 ∧ valE k2 t2 d2 true = 0 ∧ k = k2
  · obtain ⟨hE, hF, rfl⟩ := h
    have e : withB k t d k t2 d2 = withK k t d t2 d2 := by unfold withB; rw [decide_eq_true hE, decide_eq_true hF, decide_eq_true rfl]; rfl
    rw [e]
    by_cases k1 : k = 1
    · exact c10_1 k k1 t dv d t2 dv2 d2 hdv hdv2 ht ht2 hE hF
    by_cases k3 : k = 2
    · exact c10_2 k k3 t dv d t2 dv2 d2 hdv hdv2 ht ht2 hE hF
    by_cases k6 : k = 6
    · exact c10_6 k k6 t dv d t2 dv2 d2 hdv hdv2 ht ht2 hE hF
    by_cases k7 : k = 7
    · exact c10_7 k k7 t dv d t2 dv2 d2 hdv hdv2 ht ht2 hE hF
    exact c10_44 k ⟨k1, k3, k6, k7⟩ t dv d t2 dv2 d2 hdv hdv2 ht ht2 hE hF
  · rw [c10_no k k2 t dv d t2 dv2 d2 hdv hdv2 ht ht2 h]
    unfold withB
    by_cases hE : valE k t d false = 0
    · by_cases hF : valE k2 t2 d2 true = 0
      · rw [decide_eq_false (fun e => h ⟨hE, hF, e⟩), Bool.and_false, Bool.false_and]
      · rw [decide_eq_false hF, Bool.and_false, Bool.false_and, Bool.false_and]
    · rw [decide_eq_false hE, Bool.false_and, Bool.false_and, Bool.false_and]
/-! ### The law -/
theorem fold9_le : ∀ (d : Dn) (n m : Int), 0 ≤ n → foldE g9 n d = .inl m → n ≤ m ∧ ∀ a ∈ d, (a.1.length : Int) + (a.2.length : Int) ≤ 3000
  | [], n, m, _, h => by
    simp only [foldE, Sum.inl.injEq] at h
    exact ⟨by omega, by simp⟩
  | a :: r, n, m, h0, h => by
    rw [foldE_cons] at h
    unfold g9 at h
    split at h
    · rename_i n' hn
      split at hn
      · cases hn
      · cases hn
        obtain ⟨h1, h2⟩ := fold9_le r _ m (by omega) h
        refine ⟨by omega, fun b hb => ?_⟩
        rcases List.mem_cons.1 hb with rfl | hb
        · omega
        · exact h2 b hb
    · cases h
theorem shortB_lens {t : List UInt8} {d : Dn} (h : shortB t d = true) : t.length < 1000000 ∧ okLens d := by
  unfold shortB at h
  split at h
  · rename_i n hn
    have hn0 : n ≤ 3000 := by simpa using h
    obtain ⟨h1, h2⟩ := fold9_le d _ n (by omega) hn
    refine ⟨by omega, by omega, fun a ha => ?_⟩
    have := h2 a ha
    exact ⟨by omega, by omega⟩
  · cases h
theorem c3 (k k2 : Int) (t : List UInt8) (dv : MV) (d : Dn) (t2 : List UInt8) (dv2 : MV) (d2 : Dn) (hdv : isDir dv d) (hdv2 : isDir dv2 d2) (hb : bigN t d) (hb2 : bigN t2 d2) :
    Call Q 3 [gM k t dv, gM k2 t2 dv2] = some (.bool true) := by
  have h8 : Call Q 8 [] = some (.bool true) := anchor_true
  have h9 := c9 k t dv d hdv hb
  have h9' := c9 k2 t2 dv2 d2 hdv2 hb2
  cases hs : shortB t d
  · rw [hs] at h9
    unfold gM at *
    rw [Call_fn Q (m := m3) rfl rfl]
    rcases hdv with rfl | ⟨rfl, rfl⟩ <;> rcases hdv2 with rfl | ⟨rfl, rfl⟩
    all_goals (
      apply hide; intro rhs hrhs
      simp (maxSteps := 99999999) (disch := first | decide | omega | exact ok_of (by kernel_rfl)) only [m3, h8, h9, if_pos, if_neg, Nat.reduceAdd, Nat.reduceMul, Nat.reduceLeDiff, Nat.reduceEqDiff, Nat.reduceLT, reduceCtorEq, cut, Int.reduceLE, Int.reduceLT, Int.reduceToNat, Int.reduceEq, Int.reduceNeg, Int.reduceMul, Int.reduceAdd, Int.reduceSub, bne, bC.u, bB.u, bN.u, bL.u, bR.u, bI.u, bD.u]
      repeat' ((first | refine finB ?_ ?_ | refine finG ?_ ?_ | refine finD ?_ ?_ | refine runB ?_ ?_ | refine runG ?_ ?_ | refine runD ?_ ?_) <;> intro hx <;> (try simp only [beq_iff_eq, beq_eq_false_iff_ne, ne_eq, beqt, beqf, decide_eq_true_eq, decide_eq_false_iff_not, Bool.not_eq_true', Bool.not_eq_false', Bool.not_not, Bool.not_eq_true, Bool.and_eq_true, Bool.or_eq_true, decide_true, decide_false, Bool.false_eq_true, reduceCtorEq] at hx) <;> (try simp (maxSteps := 99999999) (disch := first | decide | omega | exact ok_of (by kernel_rfl)) only [hx, m3, h8, h9, if_pos, if_neg, Nat.reduceAdd, Nat.reduceMul, Nat.reduceLeDiff, Nat.reduceEqDiff, Nat.reduceLT, reduceCtorEq, cut, Int.reduceLE, Int.reduceLT, Int.reduceToNat, Int.reduceEq, Int.reduceNeg, Int.reduceMul, Int.reduceAdd, Int.reduceSub, bne, bC.u, bB.u, bN.u, bL.u, bR.u, bI.u, bD.u]))
      all_goals first | (exfalso; omega) | (subst hrhs; rfl))
  · rw [hs] at h9
    cases hs2 : shortB t2 d2
    · rw [hs2] at h9'
      unfold gM at *
      rw [Call_fn Q (m := m3) rfl rfl]
      rcases hdv with rfl | ⟨rfl, rfl⟩ <;> rcases hdv2 with rfl | ⟨rfl, rfl⟩
      all_goals (
        apply hide; intro rhs hrhs
        simp (maxSteps := 99999999) (disch := first | decide | omega | exact ok_of (by kernel_rfl)) only [m3, h8, h9, h9', if_pos, if_neg, Nat.reduceAdd, Nat.reduceMul, Nat.reduceLeDiff, Nat.reduceEqDiff, Nat.reduceLT, reduceCtorEq, cut, Int.reduceLE, Int.reduceLT, Int.reduceToNat, Int.reduceEq, Int.reduceNeg, Int.reduceMul, Int.reduceAdd, Int.reduceSub, bne, bC.u, bB.u, bN.u, bL.u, bR.u, bI.u, bD.u]
        repeat' ((first | refine finB ?_ ?_ | refine finG ?_ ?_ | refine finD ?_ ?_ | refine runB ?_ ?_ | refine runG ?_ ?_ | refine runD ?_ ?_) <;> intro hx <;> (try simp only [beq_iff_eq, beq_eq_false_iff_ne, ne_eq, beqt, beqf, decide_eq_true_eq, decide_eq_false_iff_not, Bool.not_eq_true', Bool.not_eq_false', Bool.not_not, Bool.not_eq_true, Bool.and_eq_true, Bool.or_eq_true, decide_true, decide_false, Bool.false_eq_true, reduceCtorEq] at hx) <;> (try simp (maxSteps := 99999999) (disch := first | decide | omega | exact ok_of (by kernel_rfl)) only [hx, m3, h8, h9, h9', if_pos, if_neg, Nat.reduceAdd, Nat.reduceMul, Nat.reduceLeDiff, Nat.reduceEqDiff, Nat.reduceLT, reduceCtorEq, cut, Int.reduceLE, Int.reduceLT, Int.reduceToNat, Int.reduceEq, Int.reduceNeg, Int.reduceMul, Int.reduceAdd, Int.reduceSub, bne, bC.u, bB.u, bN.u, bL.u, bR.u, bI.u, bD.u]))
        all_goals first | (exfalso; omega) | (subst hrhs; rfl))
    · rw [hs2] at h9'
      have l1 := shortB_lens hs
      have l2 := shortB_lens hs2
      have h10 := c10 k k2 t dv d t2 dv2 d2 hdv hdv2 l1 l2
      have h11 := c11 k t d k2 t2 d2 l1 l2
      have h12 := c12 k t dv d hdv l1.2.1
      have h12' := c12 k2 t2 dv2 d2 hdv2 l2.2.1
      unfold gM at *
      rw [Call_fn Q (m := m3) rfl rfl]
      rcases hdv with rfl | ⟨rfl, rfl⟩ <;> rcases hdv2 with rfl | ⟨rfl, rfl⟩
      all_goals (
        apply hide; intro rhs hrhs
        simp (maxSteps := 99999999) (disch := first | decide | omega | exact ok_of (by kernel_rfl)) only [m3, h8, h9, h9', h10, h11, h12, h12', if_pos, if_neg, Nat.reduceAdd, Nat.reduceMul, Nat.reduceLeDiff, Nat.reduceEqDiff, Nat.reduceLT, reduceCtorEq, cut, Int.reduceLE, Int.reduceLT, Int.reduceToNat, Int.reduceEq, Int.reduceNeg, Int.reduceMul, Int.reduceAdd, Int.reduceSub, bne, bC.u, bB.u, bN.u, bL.u, bR.u, bI.u, bD.u]
        repeat' ((first | refine finB ?_ ?_ | refine finG ?_ ?_ | refine finD ?_ ?_ | refine runB ?_ ?_ | refine runG ?_ ?_ | refine runD ?_ ?_) <;> intro hx <;> (try simp only [beq_iff_eq, beq_eq_false_iff_ne, ne_eq, beqt, beqf, decide_eq_true_eq, decide_eq_false_iff_not, Bool.not_eq_true', Bool.not_eq_false', Bool.not_not, Bool.not_eq_true, Bool.and_eq_true, Bool.or_eq_true, decide_true, decide_false, Bool.false_eq_true, reduceCtorEq] at hx) <;> (try simp (maxSteps := 99999999) (disch := first | decide | omega | exact ok_of (by kernel_rfl)) only [hx, m3, h8, h9, h9', h10, h11, h12, h12', if_pos, if_neg, Nat.reduceAdd, Nat.reduceMul, Nat.reduceLeDiff, Nat.reduceEqDiff, Nat.reduceLT, reduceCtorEq, cut, Int.reduceLE, Int.reduceLT, Int.reduceToNat, Int.reduceEq, Int.reduceNeg, Int.reduceMul, Int.reduceAdd, Int.reduceSub, bne, bC.u, bB.u, bN.u, bL.u, bR.u, bI.u, bD.u]))
        all_goals first | (exfalso; omega) | (subst hrhs; simp))
end Go.Mini
