/- The clock's law over Mini: times as bytes; the law. -/
import Derived.Test.YtncpjcojnjbhlaaGreatDoorT0
namespace Go.Mini
open Go Go.Proofs.YtncpjcojnjbhlaaGreatDoor
set_option maxRecDepth 10000
set_option linter.unusedSimpArgs false

/-- A time's bytes. -/
def stamp (y m d left : Int) : List UInt8 := two (y % 100) ++ (two m ++ two d ++ two (left / 3600) ++ two (left / 60 % 60) ++ two (left % 60) ++ [90])

theorem month_len (y m : Int) (hy : 1970 ≤ y ∧ y ≤ 2049) (hm : 1 ≤ m ∧ m ≤ 12) : daysF y (m + 1) 1 - daysF y m 1 ≤ 31 ∧ daysF (y + 1) 1 1 - daysF y 12 1 ≤ 31 := by
  have hc : m = 1 ∨ m = 2 ∨ m = 3 ∨ m = 4 ∨ m = 5 ∨ m = 6 ∨ m = 7 ∨ m = 8 ∨ m = 9 ∨ m = 10 ∨ m = 11 ∨ m = 12 := by omega
  rcases hc with rfl | rfl | rfl | rfl | rfl | rfl | rfl | rfl | rfl | rfl | rfl | rfl <;> simp only [daysF, yearF, monF, Int.reduceLE, Int.reduceAdd, if_true, if_false] <;> omega

theorem c25 (t : Int) (h : 946684800 ≤ t ∧ t ≤ 2524607999) : ∃ y m d, 2000 ≤ y ∧ y ≤ 2049 ∧ 1 ≤ m ∧ m ≤ 12 ∧ 1 ≤ d ∧ d ≤ 31 ∧ daysF y m 1 + d = t / 86400 + 1 ∧ (m < 12 → t / 86400 < daysF y (m + 1) 1) ∧ daysF y 1 1 ≤ t / 86400 ∧ t / 86400 < daysF (y + 1) 1 1 ∧
    Call Q 25 [.int .i64 t] = some (.tup [.agg [.int .i64 0, .int .i64 23, .bool false, .bs (stamp y m d (t % 86400)), .nilsl], .int .i64 0]) := by
  have hday : t / 86400 < daysF 2050 1 1 := by simp only [daysF, yearF, monF, Int.reduceLE, if_true]; omega
  have hyear : daysF (1970 + t / 86400 / 366) 1 1 ≤ t / 86400 := by
    simp only [daysF, yearF, monF, Int.reduceLE, if_true]; omega
  obtain ⟨y, y1, y2, y3, y4, y5⟩ := years (t / 86400) (t % 86400) hday (2050 - (1970 + t / 86400 / 366)).toNat (1970 + t / 86400 / 366) (by omega) (by omega) hyear
  have y0 : 2000 ≤ y := by
    rcases Int.lt_or_le y 2000 with hh | hh
    · exfalso
      simp only [daysF, yearF, monF, Int.reduceLE, if_true] at y4
      omega
    · exact hh
  have hjan : daysF y 1 1 ≤ t / 86400 := y3
  obtain ⟨m, nx, m1, m2, m3, m4, m5⟩ := months (t / 86400) (t % 86400) y (by omega) 11 1 (by omega) (by omega) y3
  have hl := month_len y m (by omega) (by omega)
  have hd : t / 86400 - daysF y m 1 ≤ 30 := by
    rcases Int.lt_or_le m 12 with hh | hh
    · have := m4 hh; omega
    · obtain rfl : m = 12 := by omega
      omega
  refine ⟨y, m, t / 86400 - daysF y m 1 + 1, y0, y2, m1, m2, by omega, by omega, by omega, m4, y3, y4, ?_⟩
  have lt0 : decide (t < 0) = false := by simp; omega
  have gt0 : decide (253402300799 < t) = false := by simp; omega
  have ly : decide (y < 2050) = true := by simp; omega
  have p1 := c60 m (by omega)
  have p2 := c60 (t / 86400 - daysF y m 1 + 1) (by omega)
  have p3 := c60 (t % 86400 / 3600) (by omega)
  have p4 := c60 (t % 86400 / 60 % 60) (by omega)
  have p5 := c60 (t % 86400 % 60) (by omega)
  have p6 := c60 (y % 100) (by omega)
  have q := c59 y m 1 (by omega) (by omega) (by omega)
  unfold stamp
  rw [Call_fn Q (m := m25) rfl rfl]
  simp (maxSteps := 1000000) (disch := first | decide | omega | exact ok_of (by kernel_rfl)) only [m25, lt0, gt0, Run_loop, entry, enter, inst, List.length_cons, List.length_nil, List.map_cons, List.map_nil, Nat.reduceAdd, Nat.reduceMul, Nat.reduceLeDiff, Nat.reduceEqDiff, Nat.reduceLT, Mini.start, Run_seq, Run_skip, Run_block, Run_blk, Run_scope, Run_rg, Rg_cons, Rg_guard, RgG_bool, RgG_tup, RgB_true, RgB_false, RgV_some, Rg_nil, Run_ret, Run_cond, RunC_bool, RunB_true, RunB_false, dOp, DS.rd, DS.wr, look_hit, look_miss, look_nil, put, Option.getD_some, Option.getD_none, if_true, if_false, bytesOf, binV, isShift, binI, binS, unwind, Run_exitX, RunX_some, unV, lenV, eqV, Bool.false_eq_true, Bool.not_true, Bool.not_false, beq_self_eq_true, fin_some, leave, leaveOne, lend, lends, result, reduceCtorEq, MV.fit, MV.cells, loadV, loadCells, fieldV, offV, liveC, placeAll, setCells, live, liveS, indexV, cut, sliceV, storeV, and_true, true_and, and_self, Nat.zero_le, Int.reduceLE, Int.reduceLT, Int.reduceToNat, Int.reduceEq, Int.reduceNeg, Int.reduceMul, Int.reduceAdd, Int.reduceSub, Int.reduceDiv, Int.reduceMod, ne_eq, not_true_eq_false, not_false_eq_true, Bool.true_beq, Bool.false_beq, bne_self_eq_false, Int.reduceBNe, Int.reduceBEq, List.getElem?_cons_zero, List.getElem?_cons_succ, Option.map_some, asByte, Int.cast_ofNat_Int, Nat.reducePow, Int.le_refl, Int.toNat_natCast, Nat.le_refl, decide_false, decide_true, decide_eq_true_eq, List.length_append, List.length_set, List.nil_append, List.cons_append, List.append_nil, Nat.zero_add, Nat.add_zero, Nat.mul_one, List.set_cons_zero, List.set_cons_succ, List.drop_zero, List.drop_succ_cons, List.take_succ_cons, List.take_zero, List.take_nil, appB, drop, byteParts, List.replicate, Option.map_none, shr8, shr8_128, asB, UInt8.ofNat_toNat, and8_1, and8_127, eq8_1, eq8_0, eq8, w64, w8, tdivE, tmodE, and8, or8, xor8, dCall_eq, CallV_some, instR, insts, MV.width]
  refine (congrArg (fin _) (RunL_canon (st' := ⟨V0 (t / 86400) (t % 86400) (1970 + t / 86400 / 366), [], OT, 2⟩) (by kernel_rfl))).trans ?_
  rw [y5]
  simp (maxSteps := 1000000) (disch := first | decide | omega | exact ok_of (by kernel_rfl)) only [V0, OT, Run_loop, entry, enter, inst, List.length_cons, List.length_nil, List.map_cons, List.map_nil, Nat.reduceAdd, Nat.reduceMul, Nat.reduceLeDiff, Nat.reduceEqDiff, Nat.reduceLT, Mini.start, Run_seq, Run_skip, Run_block, Run_blk, Run_scope, Run_rg, Rg_cons, Rg_guard, RgG_bool, RgG_tup, RgB_true, RgB_false, RgV_some, Rg_nil, Run_ret, Run_cond, RunC_bool, RunB_true, RunB_false, dOp, DS.rd, DS.wr, look_hit, look_miss, look_nil, put, Option.getD_some, Option.getD_none, if_true, if_false, bytesOf, binV, isShift, binI, binS, unwind, Run_exitX, RunX_some, unV, lenV, eqV, Bool.false_eq_true, Bool.not_true, Bool.not_false, beq_self_eq_true, fin_some, leave, leaveOne, lend, lends, result, reduceCtorEq, MV.fit, MV.cells, loadV, loadCells, fieldV, offV, liveC, placeAll, setCells, live, liveS, indexV, cut, sliceV, storeV, and_true, true_and, and_self, Nat.zero_le, Int.reduceLE, Int.reduceLT, Int.reduceToNat, Int.reduceEq, Int.reduceNeg, Int.reduceMul, Int.reduceAdd, Int.reduceSub, Int.reduceDiv, Int.reduceMod, ne_eq, not_true_eq_false, not_false_eq_true, Bool.true_beq, Bool.false_beq, bne_self_eq_false, Int.reduceBNe, Int.reduceBEq, List.getElem?_cons_zero, List.getElem?_cons_succ, Option.map_some, asByte, Int.cast_ofNat_Int, Nat.reducePow, Int.le_refl, Int.toNat_natCast, Nat.le_refl, decide_false, decide_true, decide_eq_true_eq, List.length_append, List.length_set, List.nil_append, List.cons_append, List.append_nil, Nat.zero_add, Nat.add_zero, Nat.mul_one, List.set_cons_zero, List.set_cons_succ, List.drop_zero, List.drop_succ_cons, List.take_succ_cons, List.take_zero, List.take_nil, appB, drop, byteParts, List.replicate, Option.map_none, shr8, shr8_128, asB, UInt8.ofNat_toNat, and8_1, and8_127, eq8_1, eq8_0, eq8, w64, w8, tdivE, tmodE, and8, or8, xor8, dCall_eq, CallV_some, instR, insts, MV.width]
  refine (congrArg (fin _) (RunL_canon (st' := ⟨V1 (t / 86400) (t % 86400) y 1, [], OT, 2⟩) (by kernel_rfl))).trans ?_
  rw [m5]
  simp (maxSteps := 1000000) (disch := first | decide | omega | exact ok_of (by kernel_rfl)) only [V1, OT, zero5, p1, p2, p3, p4, p5, p6, q, ly, two_len, entry, enter, inst, List.length_cons, List.length_nil, List.map_cons, List.map_nil, Nat.reduceAdd, Nat.reduceMul, Nat.reduceLeDiff, Nat.reduceEqDiff, Nat.reduceLT, Mini.start, Run_seq, Run_skip, Run_block, Run_blk, Run_scope, Run_rg, Rg_cons, Rg_guard, RgG_bool, RgG_tup, RgB_true, RgB_false, RgV_some, Rg_nil, Run_ret, Run_cond, RunC_bool, RunB_true, RunB_false, dOp, DS.rd, DS.wr, look_hit, look_miss, look_nil, put, Option.getD_some, Option.getD_none, if_true, if_false, bytesOf, binV, isShift, binI, binS, unwind, Run_exitX, RunX_some, unV, lenV, eqV, Bool.false_eq_true, Bool.not_true, Bool.not_false, beq_self_eq_true, fin_some, leave, leaveOne, lend, lends, result, reduceCtorEq, MV.fit, MV.cells, loadV, loadCells, fieldV, offV, liveC, placeAll, setCells, live, liveS, indexV, cut, sliceV, storeV, and_true, true_and, and_self, Nat.zero_le, Int.reduceLE, Int.reduceLT, Int.reduceToNat, Int.reduceEq, Int.reduceNeg, Int.reduceMul, Int.reduceAdd, Int.reduceSub, Int.reduceDiv, Int.reduceMod, ne_eq, not_true_eq_false, not_false_eq_true, Bool.true_beq, Bool.false_beq, bne_self_eq_false, Int.reduceBNe, Int.reduceBEq, List.getElem?_cons_zero, List.getElem?_cons_succ, Option.map_some, asByte, Int.cast_ofNat_Int, Nat.reducePow, Int.le_refl, Int.toNat_natCast, Nat.le_refl, decide_false, decide_true, decide_eq_true_eq, List.length_append, List.length_set, List.nil_append, List.cons_append, List.append_nil, Nat.zero_add, Nat.add_zero, Nat.mul_one, List.set_cons_zero, List.set_cons_succ, List.drop_zero, List.drop_succ_cons, List.take_succ_cons, List.take_zero, List.take_nil, appB, drop, byteParts, List.replicate, Option.map_none, shr8, shr8_128, asB, UInt8.ofNat_toNat, and8_1, and8_127, eq8_1, eq8_0, eq8, w64, w8, tdivE, tmodE, and8, or8, xor8, dCall_eq, CallV_some, instR, insts, MV.width]

/-! ### The order -/
theorem lessB_cons (a b : UInt8) (x y : List UInt8) : lessB (a :: x) (b :: y) = (decide (a < b) || (a == b && lessB x y)) := rfl

/-- Two digits each: the smaller number has the smaller text. -/
theorem two_less (a b : Int) (x y : List UInt8) (ha : 0 ≤ a ∧ a < 100) (hb : 0 ≤ b ∧ b < 100) (h : a < b) : lessB (two a ++ x) (two b ++ y) = true := by
  obtain ⟨p, rfl⟩ := Int.eq_ofNat_of_zero_le ha.1
  obtain ⟨q, rfl⟩ := Int.eq_ofNat_of_zero_le hb.1
  unfold two
  simp only [Int.toNat_natCast, List.cons_append, List.nil_append, lessB_cons]
  have lt : ∀ u v : Nat, u < 100 → v < 100 → u < v → UInt8.ofNat (48 + u) < UInt8.ofNat (48 + v) := by
    intro u v hu hv huv
    rw [UInt8.lt_iff_toNat_lt, UInt8.toNat_ofNat', UInt8.toNat_ofNat']
    omega
  by_cases hd : p / 10 < q / 10
  · have := lt _ _ (by omega) (by omega) hd
    simp only [decide_eq_true this, Bool.true_or]
  · have e : p / 10 = q / 10 := by omega
    have := lt (p % 10) (q % 10) (by omega) (by omega) (by omega)
    rw [e]
    simp only [decide_eq_true this, Bool.true_or, beq_self_eq_true, Bool.true_and, Bool.or_true]
theorem two_same (a : Int) (x y : List UInt8) : lessB (two a ++ x) (two a ++ y) = lessB x y := by
  unfold two
  simp [List.cons_append, lessB_cons]

theorem stamp_less {y m d y' m' d' l l' : Int} (hy : 2000 ≤ y ∧ y ≤ 2049) (hy' : 2000 ≤ y' ∧ y' ≤ 2049) (hm : 1 ≤ m ∧ m ≤ 12) (hm' : 1 ≤ m' ∧ m' ≤ 12) (hd : 1 ≤ d ∧ d ≤ 31) (hd' : 1 ≤ d' ∧ d' ≤ 31) (hl : 0 ≤ l ∧ l < 86400) (hl' : 0 ≤ l' ∧ l' < 86400)
    (h : y < y' ∨ y = y' ∧ (m < m' ∨ m = m' ∧ (d < d' ∨ d = d' ∧ l < l'))) : lessB (stamp y m d l) (stamp y' m' d' l') = true := by
  unfold stamp
  simp only [List.append_assoc]
  rcases h with h | ⟨rfl, h⟩
  · exact two_less _ _ _ _ (by omega) (by omega) (by omega)
  rw [two_same]
  rcases h with h | ⟨rfl, h⟩
  · exact two_less _ _ _ _ (by omega) (by omega) (by omega)
  rw [two_same]
  rcases h with h | ⟨rfl, h⟩
  · exact two_less _ _ _ _ (by omega) (by omega) (by omega)
  rw [two_same]
  by_cases h1 : l / 3600 < l' / 3600
  · exact two_less _ _ _ _ (by omega) (by omega) h1
  have e1 : l / 3600 = l' / 3600 := by omega
  rw [e1, two_same]
  by_cases h2 : l / 60 % 60 < l' / 60 % 60
  · exact two_less _ _ _ _ (by omega) (by omega) h2
  have e2 : l / 60 % 60 = l' / 60 % 60 := by omega
  rw [e2, two_same]
  exact two_less _ _ _ _ (by omega) (by omega) (by omega)

theorem year_mono {y y' : Int} (h0 : 1970 ≤ y) (h : y ≤ y') : daysF y 1 1 ≤ daysF y' 1 1 := by
  simp only [daysF, yearF, monF, Int.reduceLE, if_true]; omega
theorem month_mono {y m m' : Int} (hy : 1970 ≤ y) (hm : 1 ≤ m) (h : m ≤ m') (hm' : m' ≤ 12) : daysF y m 1 ≤ daysF y m' 1 := by
  have c1 : m = 1 ∨ m = 2 ∨ 3 ≤ m := by omega
  have c2 : m' = 1 ∨ m' = 2 ∨ 3 ≤ m' := by omega
  unfold daysF yearF monF
  rcases c1 with rfl | rfl | c1 <;> rcases c2 with rfl | rfl | c2 <;> (try simp only [Int.reduceLE, if_true]) <;> (try rw [if_neg (by omega)]) <;> (try rw [if_neg (by omega)]) <;> (try rw [if_neg (by omega)]) <;> (try rw [if_neg (by omega)]) <;> omega

theorem date_order {t t' y m d y' m' d' : Int} (ht : t < t') (hy : 2000 ≤ y ∧ y ≤ 2049) (hy' : 2000 ≤ y' ∧ y' ≤ 2049) (hm : 1 ≤ m ∧ m ≤ 12) (hm' : 1 ≤ m' ∧ m' ≤ 12)
    (e : daysF y m 1 + d = t / 86400 + 1) (e' : daysF y' m' 1 + d' = t' / 86400 + 1) (n : m < 12 → t / 86400 < daysF y (m + 1) 1) (n' : m' < 12 → t' / 86400 < daysF y' (m' + 1) 1)
    (a : daysF y 1 1 ≤ t / 86400) (b : t / 86400 < daysF (y + 1) 1 1) (a' : daysF y' 1 1 ≤ t' / 86400) (b' : t' / 86400 < daysF (y' + 1) 1 1) (hd : 1 ≤ d) (hd' : 1 ≤ d') :
    y < y' ∨ y = y' ∧ (m < m' ∨ m = m' ∧ (d < d' ∨ d = d' ∧ t % 86400 < t' % 86400)) := by
  have hq : t / 86400 ≤ t' / 86400 := by omega
  rcases Int.lt_trichotomy y y' with h | h | h
  · exact .inl h
  · subst h
    refine .inr ⟨rfl, ?_⟩
    rcases Int.lt_trichotomy m m' with h | h | h
    · exact .inl h
    · subst h
      refine .inr ⟨rfl, ?_⟩
      rcases Int.lt_trichotomy d d' with h | h | h
      · exact .inl h
      · subst h; exact .inr ⟨rfl, by omega⟩
      · omega
    · exfalso
      have h1 := n' (by omega)
      have h2 := month_mono (y := y) (m := m' + 1) (m' := m) (by omega) (by omega) (by omega) (by omega)
      omega
  · exfalso
    have h2 := year_mono (y := y' + 1) (y' := y) (by omega) (by omega)
    omega

/-! ### The law -/
theorem c7_in (t more : Int) (h1 : 946684800 ≤ t) (h2 : 1 ≤ more) (h3 : more ≤ 1073741824) (h4 : t ≤ 2524607999 - more) : Call Q 7 [.int .i64 t, .int .i64 more] = some (.bool true) := by
  obtain ⟨y, m, d, y1, y2, m1, m2, d1, d2, e, n, a, b, c⟩ := c25 t (by omega)
  obtain ⟨y', m', d', y1', y2', m1', m2', d1', d2', e', n', a', b', c'⟩ := c25 (t + more) (by omega)
  have hs := stamp_less (l := t % 86400) (l' := (t + more) % 86400) ⟨y1, y2⟩ ⟨y1', y2'⟩ ⟨m1, m2⟩ ⟨m1', m2'⟩ ⟨d1, d2⟩ ⟨d1', d2'⟩ (by omega) (by omega)
    (date_order (t := t) (t' := t + more) (by omega) ⟨y1, y2⟩ ⟨y1', y2'⟩ ⟨m1, m2⟩ ⟨m1', m2'⟩ e e' n n' a b a' b' d1 d1')
  generalize stamp y m d (t % 86400) = s at c hs
  generalize stamp y' m' d' ((t + more) % 86400) = s' at c' hs
  have f1 : decide (t < 946684800) = false := by simp; omega
  have f2 : decide (more < 1) = false := by simp; omega
  have f3 : decide (1073741824 < more) = false := by simp; omega
  have f4 : decide (2524607999 - more < t) = false := by simp; omega
  rw [Call_fn Q (m := m7) rfl rfl]
  simp (maxSteps := 1000000) (disch := first | decide | omega | exact ok_of (by kernel_rfl)) only [m7, anchor_true, f1, f2, f3, f4, c, c', hs, entry, enter, inst, List.length_cons, List.length_nil, List.map_cons, List.map_nil, Nat.reduceAdd, Nat.reduceMul, Nat.reduceLeDiff, Nat.reduceEqDiff, Nat.reduceLT, Mini.start, Run_seq, Run_skip, Run_block, Run_blk, Run_scope, Run_rg, Rg_cons, Rg_guard, RgG_bool, RgG_tup, RgB_true, RgB_false, RgV_some, Rg_nil, Run_ret, Run_cond, RunC_bool, RunB_true, RunB_false, dOp, DS.rd, DS.wr, look_hit, look_miss, look_nil, put, Option.getD_some, Option.getD_none, if_true, if_false, bytesOf, binV, isShift, binI, binS, unwind, Run_exitX, RunX_some, unV, lenV, eqV, Bool.false_eq_true, Bool.not_true, Bool.not_false, beq_self_eq_true, fin_some, leave, leaveOne, lend, lends, result, reduceCtorEq, MV.fit, MV.cells, loadV, loadCells, fieldV, offV, liveC, placeAll, setCells, live, liveS, indexV, cut, sliceV, storeV, and_true, true_and, and_self, Nat.zero_le, Int.reduceLE, Int.reduceLT, Int.reduceToNat, Int.reduceEq, Int.reduceNeg, Int.reduceMul, Int.reduceAdd, Int.reduceSub, Int.reduceDiv, Int.reduceMod, ne_eq, not_true_eq_false, not_false_eq_true, Bool.true_beq, Bool.false_beq, bne_self_eq_false, Int.reduceBNe, Int.reduceBEq, List.getElem?_cons_zero, List.getElem?_cons_succ, Option.map_some, asByte, Int.cast_ofNat_Int, Nat.reducePow, Int.le_refl, Int.toNat_natCast, Nat.le_refl, decide_false, decide_true, decide_eq_true_eq, List.length_append, List.length_set, List.nil_append, List.cons_append, List.append_nil, Nat.zero_add, Nat.add_zero, Nat.mul_one, List.set_cons_zero, List.set_cons_succ, List.drop_zero, List.drop_succ_cons, List.take_succ_cons, List.take_zero, List.take_nil, appB, drop, byteParts, List.replicate, Option.map_none, shr8, shr8_128, asB, UInt8.ofNat_toNat, and8_1, and8_127, eq8_1, eq8_0, eq8, w64, w8, tdivE, tmodE, and8, or8, xor8, dCall_eq, CallV_some, instR, insts, MV.width]
theorem c7_o1 (t more : Int) (h1 : t < 946684800) : Call Q 7 [.int .i64 t, .int .i64 more] = some (.bool true) := by
  have f1 : decide (t < 946684800) = true := by simp; omega
  rw [Call_fn Q (m := m7) rfl rfl]
  simp (maxSteps := 1000000) (disch := first | decide | omega | exact ok_of (by kernel_rfl)) only [m7, anchor_true, f1, entry, enter, inst, List.length_cons, List.length_nil, List.map_cons, List.map_nil, Nat.reduceAdd, Nat.reduceMul, Nat.reduceLeDiff, Nat.reduceEqDiff, Nat.reduceLT, Mini.start, Run_seq, Run_skip, Run_block, Run_blk, Run_scope, Run_rg, Rg_cons, Rg_guard, RgG_bool, RgG_tup, RgB_true, RgB_false, RgV_some, Rg_nil, Run_ret, Run_cond, RunC_bool, RunB_true, RunB_false, dOp, DS.rd, DS.wr, look_hit, look_miss, look_nil, put, Option.getD_some, Option.getD_none, if_true, if_false, bytesOf, binV, isShift, binI, binS, unwind, Run_exitX, RunX_some, unV, lenV, eqV, Bool.false_eq_true, Bool.not_true, Bool.not_false, beq_self_eq_true, fin_some, leave, leaveOne, lend, lends, result, reduceCtorEq, MV.fit, MV.cells, loadV, loadCells, fieldV, offV, liveC, placeAll, setCells, live, liveS, indexV, cut, sliceV, storeV, and_true, true_and, and_self, Nat.zero_le, Int.reduceLE, Int.reduceLT, Int.reduceToNat, Int.reduceEq, Int.reduceNeg, Int.reduceMul, Int.reduceAdd, Int.reduceSub, Int.reduceDiv, Int.reduceMod, ne_eq, not_true_eq_false, not_false_eq_true, Bool.true_beq, Bool.false_beq, bne_self_eq_false, Int.reduceBNe, Int.reduceBEq, List.getElem?_cons_zero, List.getElem?_cons_succ, Option.map_some, asByte, Int.cast_ofNat_Int, Nat.reducePow, Int.le_refl, Int.toNat_natCast, Nat.le_refl, decide_false, decide_true, decide_eq_true_eq, List.length_append, List.length_set, List.nil_append, List.cons_append, List.append_nil, Nat.zero_add, Nat.add_zero, Nat.mul_one, List.set_cons_zero, List.set_cons_succ, List.drop_zero, List.drop_succ_cons, List.take_succ_cons, List.take_zero, List.take_nil, appB, drop, byteParts, List.replicate, Option.map_none, shr8, shr8_128, asB, UInt8.ofNat_toNat, and8_1, and8_127, eq8_1, eq8_0, eq8, w64, w8, tdivE, tmodE, and8, or8, xor8, dCall_eq, CallV_some, instR, insts, MV.width]
theorem c7_o2 (t more : Int) (h1 : 946684800 ≤ t) (h2 : more < 1) : Call Q 7 [.int .i64 t, .int .i64 more] = some (.bool true) := by
  have f1 : decide (t < 946684800) = false := by simp; omega
  have f2 : decide (more < 1) = true := by simp; omega
  rw [Call_fn Q (m := m7) rfl rfl]
  simp (maxSteps := 1000000) (disch := first | decide | omega | exact ok_of (by kernel_rfl)) only [m7, anchor_true, f1, f2, entry, enter, inst, List.length_cons, List.length_nil, List.map_cons, List.map_nil, Nat.reduceAdd, Nat.reduceMul, Nat.reduceLeDiff, Nat.reduceEqDiff, Nat.reduceLT, Mini.start, Run_seq, Run_skip, Run_block, Run_blk, Run_scope, Run_rg, Rg_cons, Rg_guard, RgG_bool, RgG_tup, RgB_true, RgB_false, RgV_some, Rg_nil, Run_ret, Run_cond, RunC_bool, RunB_true, RunB_false, dOp, DS.rd, DS.wr, look_hit, look_miss, look_nil, put, Option.getD_some, Option.getD_none, if_true, if_false, bytesOf, binV, isShift, binI, binS, unwind, Run_exitX, RunX_some, unV, lenV, eqV, Bool.false_eq_true, Bool.not_true, Bool.not_false, beq_self_eq_true, fin_some, leave, leaveOne, lend, lends, result, reduceCtorEq, MV.fit, MV.cells, loadV, loadCells, fieldV, offV, liveC, placeAll, setCells, live, liveS, indexV, cut, sliceV, storeV, and_true, true_and, and_self, Nat.zero_le, Int.reduceLE, Int.reduceLT, Int.reduceToNat, Int.reduceEq, Int.reduceNeg, Int.reduceMul, Int.reduceAdd, Int.reduceSub, Int.reduceDiv, Int.reduceMod, ne_eq, not_true_eq_false, not_false_eq_true, Bool.true_beq, Bool.false_beq, bne_self_eq_false, Int.reduceBNe, Int.reduceBEq, List.getElem?_cons_zero, List.getElem?_cons_succ, Option.map_some, asByte, Int.cast_ofNat_Int, Nat.reducePow, Int.le_refl, Int.toNat_natCast, Nat.le_refl, decide_false, decide_true, decide_eq_true_eq, List.length_append, List.length_set, List.nil_append, List.cons_append, List.append_nil, Nat.zero_add, Nat.add_zero, Nat.mul_one, List.set_cons_zero, List.set_cons_succ, List.drop_zero, List.drop_succ_cons, List.take_succ_cons, List.take_zero, List.take_nil, appB, drop, byteParts, List.replicate, Option.map_none, shr8, shr8_128, asB, UInt8.ofNat_toNat, and8_1, and8_127, eq8_1, eq8_0, eq8, w64, w8, tdivE, tmodE, and8, or8, xor8, dCall_eq, CallV_some, instR, insts, MV.width]
theorem c7_o3 (t more : Int) (h1 : 946684800 ≤ t) (h2 : 1 ≤ more) (h3 : 1073741824 < more) : Call Q 7 [.int .i64 t, .int .i64 more] = some (.bool true) := by
  have f1 : decide (t < 946684800) = false := by simp; omega
  have f2 : decide (more < 1) = false := by simp; omega
  have f3 : decide (1073741824 < more) = true := by simp; omega
  rw [Call_fn Q (m := m7) rfl rfl]
  simp (maxSteps := 1000000) (disch := first | decide | omega | exact ok_of (by kernel_rfl)) only [m7, anchor_true, f1, f2, f3, entry, enter, inst, List.length_cons, List.length_nil, List.map_cons, List.map_nil, Nat.reduceAdd, Nat.reduceMul, Nat.reduceLeDiff, Nat.reduceEqDiff, Nat.reduceLT, Mini.start, Run_seq, Run_skip, Run_block, Run_blk, Run_scope, Run_rg, Rg_cons, Rg_guard, RgG_bool, RgG_tup, RgB_true, RgB_false, RgV_some, Rg_nil, Run_ret, Run_cond, RunC_bool, RunB_true, RunB_false, dOp, DS.rd, DS.wr, look_hit, look_miss, look_nil, put, Option.getD_some, Option.getD_none, if_true, if_false, bytesOf, binV, isShift, binI, binS, unwind, Run_exitX, RunX_some, unV, lenV, eqV, Bool.false_eq_true, Bool.not_true, Bool.not_false, beq_self_eq_true, fin_some, leave, leaveOne, lend, lends, result, reduceCtorEq, MV.fit, MV.cells, loadV, loadCells, fieldV, offV, liveC, placeAll, setCells, live, liveS, indexV, cut, sliceV, storeV, and_true, true_and, and_self, Nat.zero_le, Int.reduceLE, Int.reduceLT, Int.reduceToNat, Int.reduceEq, Int.reduceNeg, Int.reduceMul, Int.reduceAdd, Int.reduceSub, Int.reduceDiv, Int.reduceMod, ne_eq, not_true_eq_false, not_false_eq_true, Bool.true_beq, Bool.false_beq, bne_self_eq_false, Int.reduceBNe, Int.reduceBEq, List.getElem?_cons_zero, List.getElem?_cons_succ, Option.map_some, asByte, Int.cast_ofNat_Int, Nat.reducePow, Int.le_refl, Int.toNat_natCast, Nat.le_refl, decide_false, decide_true, decide_eq_true_eq, List.length_append, List.length_set, List.nil_append, List.cons_append, List.append_nil, Nat.zero_add, Nat.add_zero, Nat.mul_one, List.set_cons_zero, List.set_cons_succ, List.drop_zero, List.drop_succ_cons, List.take_succ_cons, List.take_zero, List.take_nil, appB, drop, byteParts, List.replicate, Option.map_none, shr8, shr8_128, asB, UInt8.ofNat_toNat, and8_1, and8_127, eq8_1, eq8_0, eq8, w64, w8, tdivE, tmodE, and8, or8, xor8, dCall_eq, CallV_some, instR, insts, MV.width]
theorem c7_o4 (t more : Int) (h1 : 946684800 ≤ t) (h2 : 1 ≤ more) (h3 : more ≤ 1073741824) (h4 : 2524607999 - more < t) : Call Q 7 [.int .i64 t, .int .i64 more] = some (.bool true) := by
  have f1 : decide (t < 946684800) = false := by simp; omega
  have f2 : decide (more < 1) = false := by simp; omega
  have f3 : decide (1073741824 < more) = false := by simp; omega
  have f4 : decide (2524607999 - more < t) = true := by simp; omega
  rw [Call_fn Q (m := m7) rfl rfl]
  simp (maxSteps := 1000000) (disch := first | decide | omega | exact ok_of (by kernel_rfl)) only [m7, anchor_true, f1, f2, f3, f4, entry, enter, inst, List.length_cons, List.length_nil, List.map_cons, List.map_nil, Nat.reduceAdd, Nat.reduceMul, Nat.reduceLeDiff, Nat.reduceEqDiff, Nat.reduceLT, Mini.start, Run_seq, Run_skip, Run_block, Run_blk, Run_scope, Run_rg, Rg_cons, Rg_guard, RgG_bool, RgG_tup, RgB_true, RgB_false, RgV_some, Rg_nil, Run_ret, Run_cond, RunC_bool, RunB_true, RunB_false, dOp, DS.rd, DS.wr, look_hit, look_miss, look_nil, put, Option.getD_some, Option.getD_none, if_true, if_false, bytesOf, binV, isShift, binI, binS, unwind, Run_exitX, RunX_some, unV, lenV, eqV, Bool.false_eq_true, Bool.not_true, Bool.not_false, beq_self_eq_true, fin_some, leave, leaveOne, lend, lends, result, reduceCtorEq, MV.fit, MV.cells, loadV, loadCells, fieldV, offV, liveC, placeAll, setCells, live, liveS, indexV, cut, sliceV, storeV, and_true, true_and, and_self, Nat.zero_le, Int.reduceLE, Int.reduceLT, Int.reduceToNat, Int.reduceEq, Int.reduceNeg, Int.reduceMul, Int.reduceAdd, Int.reduceSub, Int.reduceDiv, Int.reduceMod, ne_eq, not_true_eq_false, not_false_eq_true, Bool.true_beq, Bool.false_beq, bne_self_eq_false, Int.reduceBNe, Int.reduceBEq, List.getElem?_cons_zero, List.getElem?_cons_succ, Option.map_some, asByte, Int.cast_ofNat_Int, Nat.reducePow, Int.le_refl, Int.toNat_natCast, Nat.le_refl, decide_false, decide_true, decide_eq_true_eq, List.length_append, List.length_set, List.nil_append, List.cons_append, List.append_nil, Nat.zero_add, Nat.add_zero, Nat.mul_one, List.set_cons_zero, List.set_cons_succ, List.drop_zero, List.drop_succ_cons, List.take_succ_cons, List.take_zero, List.take_nil, appB, drop, byteParts, List.replicate, Option.map_none, shr8, shr8_128, asB, UInt8.ofNat_toNat, and8_1, and8_127, eq8_1, eq8_0, eq8, w64, w8, tdivE, tmodE, and8, or8, xor8, dCall_eq, CallV_some, instR, insts, MV.width]
theorem c7 (t more : Int) : Call Q 7 [.int .i64 t, .int .i64 more] = some (.bool true) := by
  by_cases h1 : t < 946684800
  · exact c7_o1 t more h1
  by_cases h2 : more < 1
  · exact c7_o2 t more (by omega) h2
  by_cases h3 : 1073741824 < more
  · exact c7_o3 t more (by omega) (by omega) h3
  by_cases h4 : 2524607999 - more < t
  · exact c7_o4 t more (by omega) (by omega) (by omega) h4
  exact c7_in t more (by omega) (by omega) (by omega) (by omega)

end Go.Mini
