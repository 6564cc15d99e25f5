/- The clock's law over Mini: what each function answers. -/
import Derived.Test.YtncpjcojnjbhlaaGreatDoorP
namespace Go.Mini
open Go Go.Proofs.YtncpjcojnjbhlaaGreatDoor
set_option maxRecDepth 10000
set_option linter.unusedSimpArgs false

def yearF (y m : Int) : Int := if m ≤ 2 then y - 1 else y
def monF (m : Int) : Int := if m ≤ 2 then m + 12 else m
def daysF (y m d : Int) : Int := 365 * yearF y m + yearF y m / 4 - yearF y m / 100 + yearF y m / 400 + (153 * (monF m - 3) + 2) / 5 + d - 719469

theorem c59 (y m d : Int) (hy : 1 ≤ y ∧ y < 100000) (hm : 1 ≤ m ∧ m < 100) (hd : 0 ≤ d ∧ d < 1000) : Call Q 59 [.int .i64 y, .int .i64 m, .int .i64 d] = some (.int .i64 (daysF y m d)) := by
  rw [Call_fn Q (m := m59) rfl rfl]
  unfold daysF yearF monF
  by_cases h : m ≤ 2
  · have h' : decide (m ≤ 2) = true := by simp; omega
    rw [if_pos h, if_pos h]
    simp (maxSteps := 1000000) (disch := first | decide | omega | exact ok_of (by kernel_rfl)) only [m59, h', entry, enter, inst, List.length_cons, List.length_nil, List.map_cons, List.map_nil, Nat.reduceAdd, Nat.reduceMul, Nat.reduceLeDiff, Nat.reduceEqDiff, Nat.reduceLT, Mini.start, Run_seq, Run_skip, Run_block, Run_blk, Run_scope, Run_rg, Rg_cons, Rg_guard, RgG_bool, RgG_tup, RgB_true, RgB_false, RgV_some, Rg_nil, Run_ret, Run_cond, RunC_bool, RunB_true, RunB_false, dOp, DS.rd, DS.wr, look_hit, look_miss, look_nil, put, Option.getD_some, Option.getD_none, if_true, if_false, bytesOf, binV, isShift, binI, binS, unwind, Run_exitX, RunX_some, unV, lenV, eqV, Bool.false_eq_true, Bool.not_true, Bool.not_false, beq_self_eq_true, fin_some, leave, leaveOne, lend, lends, result, reduceCtorEq, MV.fit, MV.cells, loadV, loadCells, fieldV, offV, liveC, placeAll, setCells, live, liveS, indexV, cut, sliceV, storeV, and_true, true_and, and_self, Nat.zero_le, Int.reduceLE, Int.reduceLT, Int.reduceToNat, Int.reduceEq, Int.reduceNeg, Int.reduceMul, Int.reduceAdd, Int.reduceSub, Int.reduceDiv, Int.reduceMod, ne_eq, not_true_eq_false, not_false_eq_true, Bool.true_beq, Bool.false_beq, bne_self_eq_false, Int.reduceBNe, Int.reduceBEq, List.getElem?_cons_zero, List.getElem?_cons_succ, Option.map_some, asByte, Int.cast_ofNat_Int, Nat.reducePow, Int.le_refl, Int.toNat_natCast, Nat.le_refl, decide_false, decide_true, decide_eq_true_eq, List.length_append, List.length_set, List.nil_append, List.cons_append, List.append_nil, Nat.zero_add, Nat.add_zero, Nat.mul_one, List.set_cons_zero, List.set_cons_succ, List.drop_zero, List.drop_succ_cons, List.take_succ_cons, List.take_zero, List.take_nil, appB, drop, byteParts, List.replicate, Option.map_none, shr8, shr8_128, asB, UInt8.ofNat_toNat, and8_1, and8_127, eq8_1, eq8_0, eq8, w64, w8, tdivE, tmodE, and8, or8, xor8]
  · have h' : decide (m ≤ 2) = false := by simp; omega
    rw [if_neg h, if_neg h]
    simp (maxSteps := 1000000) (disch := first | decide | omega | exact ok_of (by kernel_rfl)) only [m59, h', entry, enter, inst, List.length_cons, List.length_nil, List.map_cons, List.map_nil, Nat.reduceAdd, Nat.reduceMul, Nat.reduceLeDiff, Nat.reduceEqDiff, Nat.reduceLT, Mini.start, Run_seq, Run_skip, Run_block, Run_blk, Run_scope, Run_rg, Rg_cons, Rg_guard, RgG_bool, RgG_tup, RgB_true, RgB_false, RgV_some, Rg_nil, Run_ret, Run_cond, RunC_bool, RunB_true, RunB_false, dOp, DS.rd, DS.wr, look_hit, look_miss, look_nil, put, Option.getD_some, Option.getD_none, if_true, if_false, bytesOf, binV, isShift, binI, binS, unwind, Run_exitX, RunX_some, unV, lenV, eqV, Bool.false_eq_true, Bool.not_true, Bool.not_false, beq_self_eq_true, fin_some, leave, leaveOne, lend, lends, result, reduceCtorEq, MV.fit, MV.cells, loadV, loadCells, fieldV, offV, liveC, placeAll, setCells, live, liveS, indexV, cut, sliceV, storeV, and_true, true_and, and_self, Nat.zero_le, Int.reduceLE, Int.reduceLT, Int.reduceToNat, Int.reduceEq, Int.reduceNeg, Int.reduceMul, Int.reduceAdd, Int.reduceSub, Int.reduceDiv, Int.reduceMod, ne_eq, not_true_eq_false, not_false_eq_true, Bool.true_beq, Bool.false_beq, bne_self_eq_false, Int.reduceBNe, Int.reduceBEq, List.getElem?_cons_zero, List.getElem?_cons_succ, Option.map_some, asByte, Int.cast_ofNat_Int, Nat.reducePow, Int.le_refl, Int.toNat_natCast, Nat.le_refl, decide_false, decide_true, decide_eq_true_eq, List.length_append, List.length_set, List.nil_append, List.cons_append, List.append_nil, Nat.zero_add, Nat.add_zero, Nat.mul_one, List.set_cons_zero, List.set_cons_succ, List.drop_zero, List.drop_succ_cons, List.take_succ_cons, List.take_zero, List.take_nil, appB, drop, byteParts, List.replicate, Option.map_none, shr8, shr8_128, asB, UInt8.ofNat_toNat, and8_1, and8_127, eq8_1, eq8_0, eq8, w64, w8, tdivE, tmodE, and8, or8, xor8]

def two (n : Int) : List UInt8 := [UInt8.ofNat (48 + n.toNat / 10), UInt8.ofNat (48 + n.toNat % 10)]
theorem two_len (n : Int) : (two n).length = 2 := rfl

theorem c60 (n : Int) (h : 0 ≤ n ∧ n < 100) : Call Q 60 [.int .i64 n, .int .i64 2] = some (.str (two n)) := by
  have e := Call_prim Q (f := 61) (args := [.int .i64 n]) (g := pItoa) rfl
  have r0 := Call_prim Q (f := 88) (args := [.str [48], .int .i64 0]) (g := pRepeat) rfl
  have r1 := Call_prim Q (f := 88) (args := [.str [48], .int .i64 1]) (g := pRepeat) rfl
  have r0' : pRepeat [.str [48], .int .i64 0] = some (.str []) := by simp [pRepeat, Lib.repeatL]
  have r1' : pRepeat [.str [48], .int .i64 1] = some (.str [48]) := by simp [pRepeat, Lib.repeatL]
  rw [r0'] at r0
  rw [r1'] at r1
  obtain ⟨k, rfl⟩ := Int.eq_ofNat_of_zero_le h.1
  have hk : k < 100 := by omega
  rw [Call_fn Q (m := m60) rfl rfl]
  by_cases h1 : k < 10
  · have e2 : pItoa [.int .i64 (k : Int)] = some (.str [UInt8.ofNat (48 + k)]) := by
      simp only [pItoa, itoaL, decF, Int.toNat_natCast]
      rw [if_neg (by omega), if_pos h1]
    rw [e2] at e
    have e3 : two (k : Int) = [48, UInt8.ofNat (48 + k)] := by
      unfold two
      rw [Int.toNat_natCast, show k / 10 = 0 by omega, show k % 10 = k by omega]
      rfl
    rw [e3]
    simp (maxSteps := 1000000) (disch := first | decide | omega | exact ok_of (by kernel_rfl)) only [m60, e, r0, r1, entry, enter, inst, List.length_cons, List.length_nil, List.map_cons, List.map_nil, Nat.reduceAdd, Nat.reduceMul, Nat.reduceLeDiff, Nat.reduceEqDiff, Nat.reduceLT, Mini.start, Run_seq, Run_skip, Run_block, Run_blk, Run_scope, Run_rg, Rg_cons, Rg_guard, RgG_bool, RgG_tup, RgB_true, RgB_false, RgV_some, Rg_nil, Run_ret, Run_cond, RunC_bool, RunB_true, RunB_false, dOp, DS.rd, DS.wr, look_hit, look_miss, look_nil, put, Option.getD_some, Option.getD_none, if_true, if_false, bytesOf, binV, isShift, binI, binS, unwind, Run_exitX, RunX_some, unV, lenV, eqV, Bool.false_eq_true, Bool.not_true, Bool.not_false, beq_self_eq_true, fin_some, leave, leaveOne, lend, lends, result, reduceCtorEq, MV.fit, MV.cells, loadV, loadCells, fieldV, offV, liveC, placeAll, setCells, live, liveS, indexV, cut, sliceV, storeV, and_true, true_and, and_self, Nat.zero_le, Int.reduceLE, Int.reduceLT, Int.reduceToNat, Int.reduceEq, Int.reduceNeg, Int.reduceMul, Int.reduceAdd, Int.reduceSub, Int.reduceDiv, Int.reduceMod, ne_eq, not_true_eq_false, not_false_eq_true, Bool.true_beq, Bool.false_beq, bne_self_eq_false, Int.reduceBNe, Int.reduceBEq, List.getElem?_cons_zero, List.getElem?_cons_succ, Option.map_some, asByte, Int.cast_ofNat_Int, Nat.reducePow, Int.le_refl, Int.toNat_natCast, Nat.le_refl, decide_false, decide_true, decide_eq_true_eq, List.length_append, List.length_set, List.nil_append, List.cons_append, List.append_nil, Nat.zero_add, Nat.add_zero, Nat.mul_one, List.set_cons_zero, List.set_cons_succ, List.drop_zero, List.drop_succ_cons, List.take_succ_cons, List.take_zero, List.take_nil, appB, drop, byteParts, List.replicate, Option.map_none, shr8, shr8_128, asB, UInt8.ofNat_toNat, and8_1, and8_127, eq8_1, eq8_0, eq8, w64, w8, tdivE, tmodE, and8, or8, xor8, dCall_eq, CallV_some, instR, insts, MV.width]
  · have e2 : pItoa [.int .i64 (k : Int)] = some (.str [UInt8.ofNat (48 + k / 10), UInt8.ofNat (48 + k % 10)]) := by
      simp only [pItoa, itoaL, decF, Int.toNat_natCast]
      rw [if_neg (by omega), if_neg h1, if_pos (by omega)]
      rfl
    rw [e2] at e
    have e3 : two (k : Int) = [UInt8.ofNat (48 + k / 10), UInt8.ofNat (48 + k % 10)] := by
      unfold two
      rw [Int.toNat_natCast]
    rw [e3]
    simp (maxSteps := 1000000) (disch := first | decide | omega | exact ok_of (by kernel_rfl)) only [m60, e, r0, r1, entry, enter, inst, List.length_cons, List.length_nil, List.map_cons, List.map_nil, Nat.reduceAdd, Nat.reduceMul, Nat.reduceLeDiff, Nat.reduceEqDiff, Nat.reduceLT, Mini.start, Run_seq, Run_skip, Run_block, Run_blk, Run_scope, Run_rg, Rg_cons, Rg_guard, RgG_bool, RgG_tup, RgB_true, RgB_false, RgV_some, Rg_nil, Run_ret, Run_cond, RunC_bool, RunB_true, RunB_false, dOp, DS.rd, DS.wr, look_hit, look_miss, look_nil, put, Option.getD_some, Option.getD_none, if_true, if_false, bytesOf, binV, isShift, binI, binS, unwind, Run_exitX, RunX_some, unV, lenV, eqV, Bool.false_eq_true, Bool.not_true, Bool.not_false, beq_self_eq_true, fin_some, leave, leaveOne, lend, lends, result, reduceCtorEq, MV.fit, MV.cells, loadV, loadCells, fieldV, offV, liveC, placeAll, setCells, live, liveS, indexV, cut, sliceV, storeV, and_true, true_and, and_self, Nat.zero_le, Int.reduceLE, Int.reduceLT, Int.reduceToNat, Int.reduceEq, Int.reduceNeg, Int.reduceMul, Int.reduceAdd, Int.reduceSub, Int.reduceDiv, Int.reduceMod, ne_eq, not_true_eq_false, not_false_eq_true, Bool.true_beq, Bool.false_beq, bne_self_eq_false, Int.reduceBNe, Int.reduceBEq, List.getElem?_cons_zero, List.getElem?_cons_succ, Option.map_some, asByte, Int.cast_ofNat_Int, Nat.reducePow, Int.le_refl, Int.toNat_natCast, Nat.le_refl, decide_false, decide_true, decide_eq_true_eq, List.length_append, List.length_set, List.nil_append, List.cons_append, List.append_nil, Nat.zero_add, Nat.add_zero, Nat.mul_one, List.set_cons_zero, List.set_cons_succ, List.drop_zero, List.drop_succ_cons, List.take_succ_cons, List.take_zero, List.take_nil, appB, drop, byteParts, List.replicate, Option.map_none, shr8, shr8_128, asB, UInt8.ofNat_toNat, and8_1, and8_127, eq8_1, eq8_0, eq8, w64, w8, tdivE, tmodE, and8, or8, xor8, dCall_eq, CallV_some, instR, insts, MV.width]

/-! ### The loops -/
def zero5 : List MV := [.int .i64 0, .int .i64 0, .bool false, .nilsl, .nilsl]
def V0 (day left y : Int) : List (Nat × MV) := [(2, .ptr 0 0), (4, .int .i64 day), (5, .int .i64 left), (6, .int .i64 y)]
def V1 (day left y m : Int) : List (Nat × MV) := [(2, .ptr 0 0), (4, .int .i64 day), (5, .int .i64 left), (6, .int .i64 y), (7, .int .i64 m)]
def OT : List (Nat × Obj) := [(0, .cells zero5)]

theorem years (day left : Int) (hday : day < daysF 2050 1 1) : ∀ (k : Nat) (y : Int), 1970 ≤ y → y + k = 2050 → daysF y 1 1 ≤ day →
    ∃ y', y ≤ y' ∧ y' ≤ 2049 ∧ daysF y' 1 1 ≤ day ∧ day < daysF (y' + 1) 1 1 ∧ ∀ K, RunL Q m25k0 m25b0 (.blk 0 :: K) ⟨V0 day left y, [], OT, 2⟩ = Run Q K ⟨(27, .bool false) :: V0 day left y', [], OT, 22⟩ := by
  intro k
  induction k with
  | zero =>
    intro y h0 h1 h2
    obtain rfl : y = 2050 := by omega
    omega
  | succ k ih =>
    intro y h0 h1 h2
    have c := c59 (y + 1) 1 1 (by omega) (by omega) (by omega)
    obtain ⟨b', hb'⟩ : ∃ b', b' = m25b0 := ⟨_, rfl⟩
    by_cases h : daysF (y + 1) 1 1 ≤ day
    · have hle : decide (daysF (y + 1) 1 1 ≤ day) = true := by simp; omega
      have hk : y ≤ 2048 := by
        rcases Int.lt_or_le 2048 y with hh | hh
        · have : y = 2049 := by omega
          subst this
          have : daysF (2049 + 1) 1 1 = daysF 2050 1 1 := rfl
          omega
        · exact hh
      obtain ⟨y', a1, a2, a3, a4, a5⟩ := ih (y + 1) (by omega) (by omega) h
      refine ⟨y', by omega, a2, a3, a4, fun K => ?_⟩
      rw [← a5, RunL_eq, show Item.lp m25k0 m25b0 = Item.lp m25k0 b' by rw [hb']]
      simp (maxSteps := 1000000) (disch := first | decide | omega | exact ok_of (by kernel_rfl)) only [m25b0, V0, OT, c, hle, entry, enter, inst, List.length_cons, List.length_nil, List.map_cons, List.map_nil, Nat.reduceAdd, Nat.reduceMul, Nat.reduceLeDiff, Nat.reduceEqDiff, Nat.reduceLT, Mini.start, Run_seq, Run_skip, Run_block, Run_blk, Run_scope, Run_rg, Rg_cons, Rg_guard, RgG_bool, RgG_tup, RgB_true, RgB_false, RgV_some, Rg_nil, Run_ret, Run_cond, RunC_bool, RunB_true, RunB_false, dOp, DS.rd, DS.wr, look_hit, look_miss, look_nil, put, Option.getD_some, Option.getD_none, if_true, if_false, bytesOf, binV, isShift, binI, binS, unwind, Run_exitX, RunX_some, unV, lenV, eqV, Bool.false_eq_true, Bool.not_true, Bool.not_false, beq_self_eq_true, fin_some, leave, leaveOne, lend, lends, result, reduceCtorEq, MV.fit, MV.cells, loadV, loadCells, fieldV, offV, liveC, placeAll, setCells, live, liveS, indexV, cut, sliceV, storeV, and_true, true_and, and_self, Nat.zero_le, Int.reduceLE, Int.reduceLT, Int.reduceToNat, Int.reduceEq, Int.reduceNeg, Int.reduceMul, Int.reduceAdd, Int.reduceSub, Int.reduceDiv, Int.reduceMod, ne_eq, not_true_eq_false, not_false_eq_true, Bool.true_beq, Bool.false_beq, bne_self_eq_false, Int.reduceBNe, Int.reduceBEq, List.getElem?_cons_zero, List.getElem?_cons_succ, Option.map_some, asByte, Int.cast_ofNat_Int, Nat.reducePow, Int.le_refl, Int.toNat_natCast, Nat.le_refl, decide_false, decide_true, decide_eq_true_eq, List.length_append, List.length_set, List.nil_append, List.cons_append, List.append_nil, Nat.zero_add, Nat.add_zero, Nat.mul_one, List.set_cons_zero, List.set_cons_succ, List.drop_zero, List.drop_succ_cons, List.take_succ_cons, List.take_zero, List.take_nil, appB, drop, byteParts, List.replicate, Option.map_none, shr8, shr8_128, asB, UInt8.ofNat_toNat, and8_1, and8_127, eq8_1, eq8_0, eq8, w64, w8, tdivE, tmodE, and8, or8, xor8, dCall_eq, CallV_some, instR, insts, MV.width]
      subst hb'
      rw [Run_lp]
      exact RunL_canon (st' := ⟨V0 day left (y + 1), [], OT, 2⟩) (by kernel_rfl)
    · have hle : decide (daysF (y + 1) 1 1 ≤ day) = false := by simp; omega
      refine ⟨y, by omega, by omega, h2, by omega, fun K => ?_⟩
      rw [RunL_eq, show Item.lp m25k0 m25b0 = Item.lp m25k0 b' by rw [hb']]
      simp (maxSteps := 1000000) (disch := first | decide | omega | exact ok_of (by kernel_rfl)) only [m25b0, V0, OT, c, hle, entry, enter, inst, List.length_cons, List.length_nil, List.map_cons, List.map_nil, Nat.reduceAdd, Nat.reduceMul, Nat.reduceLeDiff, Nat.reduceEqDiff, Nat.reduceLT, Mini.start, Run_seq, Run_skip, Run_block, Run_blk, Run_scope, Run_rg, Rg_cons, Rg_guard, RgG_bool, RgG_tup, RgB_true, RgB_false, RgV_some, Rg_nil, Run_ret, Run_cond, RunC_bool, RunB_true, RunB_false, dOp, DS.rd, DS.wr, look_hit, look_miss, look_nil, put, Option.getD_some, Option.getD_none, if_true, if_false, bytesOf, binV, isShift, binI, binS, unwind, Run_exitX, RunX_some, unV, lenV, eqV, Bool.false_eq_true, Bool.not_true, Bool.not_false, beq_self_eq_true, fin_some, leave, leaveOne, lend, lends, result, reduceCtorEq, MV.fit, MV.cells, loadV, loadCells, fieldV, offV, liveC, placeAll, setCells, live, liveS, indexV, cut, sliceV, storeV, and_true, true_and, and_self, Nat.zero_le, Int.reduceLE, Int.reduceLT, Int.reduceToNat, Int.reduceEq, Int.reduceNeg, Int.reduceMul, Int.reduceAdd, Int.reduceSub, Int.reduceDiv, Int.reduceMod, ne_eq, not_true_eq_false, not_false_eq_true, Bool.true_beq, Bool.false_beq, bne_self_eq_false, Int.reduceBNe, Int.reduceBEq, List.getElem?_cons_zero, List.getElem?_cons_succ, Option.map_some, asByte, Int.cast_ofNat_Int, Nat.reducePow, Int.le_refl, Int.toNat_natCast, Nat.le_refl, decide_false, decide_true, decide_eq_true_eq, List.length_append, List.length_set, List.nil_append, List.cons_append, List.append_nil, Nat.zero_add, Nat.add_zero, Nat.mul_one, List.set_cons_zero, List.set_cons_succ, List.drop_zero, List.drop_succ_cons, List.take_succ_cons, List.take_zero, List.take_nil, appB, drop, byteParts, List.replicate, Option.map_none, shr8, shr8_128, asB, UInt8.ofNat_toNat, and8_1, and8_127, eq8_1, eq8_0, eq8, w64, w8, tdivE, tmodE, and8, or8, xor8, dCall_eq, CallV_some, instR, insts, MV.width]

theorem months (day left y : Int) (hy : 1970 ≤ y ∧ y ≤ 2049) : ∀ (k : Nat) (m : Int), 1 ≤ m → m + k = 12 → daysF y m 1 ≤ day →
    ∃ m' nx, m ≤ m' ∧ m' ≤ 12 ∧ daysF y m' 1 ≤ day ∧ (m' < 12 → day < daysF y (m' + 1) 1) ∧ ∀ K, RunL Q m25k1 m25b1 (.blk 2 :: K) ⟨V1 day left y m, [], OT, 2⟩ = Run Q K ⟨(39, .bool false) :: V1 day left y m', [], OT, nx⟩ := by
  intro k
  induction k with
  | zero =>
    intro m h0 h1 h2
    obtain rfl : m = 12 := by omega
    refine ⟨12, 42, by omega, by omega, h2, by omega, fun K => ?_⟩
    obtain ⟨b', hb'⟩ : ∃ b', b' = m25b1 := ⟨_, rfl⟩
    rw [RunL_eq, show Item.lp m25k1 m25b1 = Item.lp m25k1 b' by rw [hb']]
    simp (maxSteps := 1000000) (disch := first | decide | omega | exact ok_of (by kernel_rfl)) only [m25b1, V1, OT, entry, enter, inst, List.length_cons, List.length_nil, List.map_cons, List.map_nil, Nat.reduceAdd, Nat.reduceMul, Nat.reduceLeDiff, Nat.reduceEqDiff, Nat.reduceLT, Mini.start, Run_seq, Run_skip, Run_block, Run_blk, Run_scope, Run_rg, Rg_cons, Rg_guard, RgG_bool, RgG_tup, RgB_true, RgB_false, RgV_some, Rg_nil, Run_ret, Run_cond, RunC_bool, RunB_true, RunB_false, dOp, DS.rd, DS.wr, look_hit, look_miss, look_nil, put, Option.getD_some, Option.getD_none, if_true, if_false, bytesOf, binV, isShift, binI, binS, unwind, Run_exitX, RunX_some, unV, lenV, eqV, Bool.false_eq_true, Bool.not_true, Bool.not_false, beq_self_eq_true, fin_some, leave, leaveOne, lend, lends, result, reduceCtorEq, MV.fit, MV.cells, loadV, loadCells, fieldV, offV, liveC, placeAll, setCells, live, liveS, indexV, cut, sliceV, storeV, and_true, true_and, and_self, Nat.zero_le, Int.reduceLE, Int.reduceLT, Int.reduceToNat, Int.reduceEq, Int.reduceNeg, Int.reduceMul, Int.reduceAdd, Int.reduceSub, Int.reduceDiv, Int.reduceMod, ne_eq, not_true_eq_false, not_false_eq_true, Bool.true_beq, Bool.false_beq, bne_self_eq_false, Int.reduceBNe, Int.reduceBEq, List.getElem?_cons_zero, List.getElem?_cons_succ, Option.map_some, asByte, Int.cast_ofNat_Int, Nat.reducePow, Int.le_refl, Int.toNat_natCast, Nat.le_refl, decide_false, decide_true, decide_eq_true_eq, List.length_append, List.length_set, List.nil_append, List.cons_append, List.append_nil, Nat.zero_add, Nat.add_zero, Nat.mul_one, List.set_cons_zero, List.set_cons_succ, List.drop_zero, List.drop_succ_cons, List.take_succ_cons, List.take_zero, List.take_nil, appB, drop, byteParts, List.replicate, Option.map_none, shr8, shr8_128, asB, UInt8.ofNat_toNat, and8_1, and8_127, eq8_1, eq8_0, eq8, w64, w8, tdivE, tmodE, and8, or8, xor8, dCall_eq, CallV_some, instR, insts, MV.width]
  | succ k ih =>
    intro m h0 h1 h2
    have c := c59 y (m + 1) 1 (by omega) (by omega) (by omega)
    have hlt : decide (m < 12) = true := by simp; omega
    obtain ⟨b', hb'⟩ : ∃ b', b' = m25b1 := ⟨_, rfl⟩
    by_cases h : daysF y (m + 1) 1 ≤ day
    · have hle : decide (daysF y (m + 1) 1 ≤ day) = true := by simp; omega
      obtain ⟨m', nx, a1, a2, a3, a4, a5⟩ := ih (m + 1) (by omega) (by omega) h
      refine ⟨m', nx, by omega, a2, a3, a4, fun K => ?_⟩
      rw [← a5, RunL_eq, show Item.lp m25k1 m25b1 = Item.lp m25k1 b' by rw [hb']]
      simp (maxSteps := 1000000) (disch := first | decide | omega | exact ok_of (by kernel_rfl)) only [m25b1, V1, OT, c, hlt, hle, entry, enter, inst, List.length_cons, List.length_nil, List.map_cons, List.map_nil, Nat.reduceAdd, Nat.reduceMul, Nat.reduceLeDiff, Nat.reduceEqDiff, Nat.reduceLT, Mini.start, Run_seq, Run_skip, Run_block, Run_blk, Run_scope, Run_rg, Rg_cons, Rg_guard, RgG_bool, RgG_tup, RgB_true, RgB_false, RgV_some, Rg_nil, Run_ret, Run_cond, RunC_bool, RunB_true, RunB_false, dOp, DS.rd, DS.wr, look_hit, look_miss, look_nil, put, Option.getD_some, Option.getD_none, if_true, if_false, bytesOf, binV, isShift, binI, binS, unwind, Run_exitX, RunX_some, unV, lenV, eqV, Bool.false_eq_true, Bool.not_true, Bool.not_false, beq_self_eq_true, fin_some, leave, leaveOne, lend, lends, result, reduceCtorEq, MV.fit, MV.cells, loadV, loadCells, fieldV, offV, liveC, placeAll, setCells, live, liveS, indexV, cut, sliceV, storeV, and_true, true_and, and_self, Nat.zero_le, Int.reduceLE, Int.reduceLT, Int.reduceToNat, Int.reduceEq, Int.reduceNeg, Int.reduceMul, Int.reduceAdd, Int.reduceSub, Int.reduceDiv, Int.reduceMod, ne_eq, not_true_eq_false, not_false_eq_true, Bool.true_beq, Bool.false_beq, bne_self_eq_false, Int.reduceBNe, Int.reduceBEq, List.getElem?_cons_zero, List.getElem?_cons_succ, Option.map_some, asByte, Int.cast_ofNat_Int, Nat.reducePow, Int.le_refl, Int.toNat_natCast, Nat.le_refl, decide_false, decide_true, decide_eq_true_eq, List.length_append, List.length_set, List.nil_append, List.cons_append, List.append_nil, Nat.zero_add, Nat.add_zero, Nat.mul_one, List.set_cons_zero, List.set_cons_succ, List.drop_zero, List.drop_succ_cons, List.take_succ_cons, List.take_zero, List.take_nil, appB, drop, byteParts, List.replicate, Option.map_none, shr8, shr8_128, asB, UInt8.ofNat_toNat, and8_1, and8_127, eq8_1, eq8_0, eq8, w64, w8, tdivE, tmodE, and8, or8, xor8, dCall_eq, CallV_some, instR, insts, MV.width]
      subst hb'
      rw [Run_lp]
      exact RunL_canon (st' := ⟨V1 day left y (m + 1), [], OT, 2⟩) (by kernel_rfl)
    · have hle : decide (daysF y (m + 1) 1 ≤ day) = false := by simp; omega
      refine ⟨m, 42, by omega, by omega, h2, by omega, fun K => ?_⟩
      rw [RunL_eq, show Item.lp m25k1 m25b1 = Item.lp m25k1 b' by rw [hb']]
      simp (maxSteps := 1000000) (disch := first | decide | omega | exact ok_of (by kernel_rfl)) only [m25b1, V1, OT, c, hlt, hle, entry, enter, inst, List.length_cons, List.length_nil, List.map_cons, List.map_nil, Nat.reduceAdd, Nat.reduceMul, Nat.reduceLeDiff, Nat.reduceEqDiff, Nat.reduceLT, Mini.start, Run_seq, Run_skip, Run_block, Run_blk, Run_scope, Run_rg, Rg_cons, Rg_guard, RgG_bool, RgG_tup, RgB_true, RgB_false, RgV_some, Rg_nil, Run_ret, Run_cond, RunC_bool, RunB_true, RunB_false, dOp, DS.rd, DS.wr, look_hit, look_miss, look_nil, put, Option.getD_some, Option.getD_none, if_true, if_false, bytesOf, binV, isShift, binI, binS, unwind, Run_exitX, RunX_some, unV, lenV, eqV, Bool.false_eq_true, Bool.not_true, Bool.not_false, beq_self_eq_true, fin_some, leave, leaveOne, lend, lends, result, reduceCtorEq, MV.fit, MV.cells, loadV, loadCells, fieldV, offV, liveC, placeAll, setCells, live, liveS, indexV, cut, sliceV, storeV, and_true, true_and, and_self, Nat.zero_le, Int.reduceLE, Int.reduceLT, Int.reduceToNat, Int.reduceEq, Int.reduceNeg, Int.reduceMul, Int.reduceAdd, Int.reduceSub, Int.reduceDiv, Int.reduceMod, ne_eq, not_true_eq_false, not_false_eq_true, Bool.true_beq, Bool.false_beq, bne_self_eq_false, Int.reduceBNe, Int.reduceBEq, List.getElem?_cons_zero, List.getElem?_cons_succ, Option.map_some, asByte, Int.cast_ofNat_Int, Nat.reducePow, Int.le_refl, Int.toNat_natCast, Nat.le_refl, decide_false, decide_true, decide_eq_true_eq, List.length_append, List.length_set, List.nil_append, List.cons_append, List.append_nil, Nat.zero_add, Nat.add_zero, Nat.mul_one, List.set_cons_zero, List.set_cons_succ, List.drop_zero, List.drop_succ_cons, List.take_succ_cons, List.take_zero, List.take_nil, appB, drop, byteParts, List.replicate, Option.map_none, shr8, shr8_128, asB, UInt8.ofNat_toNat, and8_1, and8_127, eq8_1, eq8_0, eq8, w64, w8, tdivE, tmodE, and8, or8, xor8, dCall_eq, CallV_some, instR, insts, MV.width]
end Go.Mini
