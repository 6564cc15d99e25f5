/- The net's law over Mini: the law's own function. -/
import Derived.Test.YtncpjcojnjbhlaaGreatDoorN1
namespace Go.Mini
open Go Go.Proofs.YtncpjcojnjbhlaaGreatDoor
set_option maxRecDepth 10000
set_option linter.unusedSimpArgs false

def V4 (a b : List UInt8) (same : Bool) (bits i : Int) : List (Nat × MV) := [(0, .bs a), (1, .bs b), (7, .own 0 a.length), (8, .bool same), (42, .int .i64 bits), (43, .int .i64 i)]
def O4 (m : List UInt8) : List (Nat × Obj) := [(0, .byt m false)]
def maskM : Nat → Int → List UInt8 → List UInt8
  | 0, _, l => l
  | k + 1, i, l => maskM k (i + 1) (l.set (i / 8).toNat (l.getD (i / 8).toNat 0 ||| (128 : UInt8) >>> UInt8.ofNat (i % 8).toNat))
def sameB (a b : List UInt8) (i : Int) : Bool := (((a.getD (i / 8).toNat 0 ^^^ b.getD (i / 8).toNat 0) >>> UInt8.ofNat (7 - i % 8).toNat) &&& 1) == 0
def sameM (a b : List UInt8) : Nat → Int → Bool → Bool
  | 0, _, s => s
  | k + 1, i, s => sameM a b k (i + 1) (if s then sameB a b i else false)

theorem c4_loop (a b : List UInt8) (hab : b.length = a.length) (ha : a.length < 1000) (bits : Int) (hbits : bits ≤ 8 * a.length) (K : List Item) : ∀ (k : Nat) (m : List UInt8) (same : Bool) (i : Int), 0 ≤ i → i + k = bits → m.length = a.length →
    RunL Q m4k0 m4b0 (.blk 0 :: K) ⟨V4 a b same bits i, [], O4 m, 2⟩ = Run Q K ⟨(44, .bool false) :: V4 a b (sameM a b k i same) bits bits, [], O4 (maskM k i m), 6⟩ := by
  intro k
  induction k with
  | zero =>
    intro m same i h0 h1 hm
    obtain rfl : i = bits := by omega
    have hlt : decide (i < i) = false := by simp
    obtain ⟨b', hb'⟩ : ∃ b', b' = m4b0 := ⟨_, rfl⟩
    rw [RunL_eq, show Item.lp m4k0 m4b0 = Item.lp m4k0 b' by rw [hb']]
    simp (maxSteps := 1000000) (disch := first | decide | omega | exact ok_of (by kernel_rfl)) only [m4b0, V4, O4, hlt, entry, enter, inst, List.length_cons, List.length_nil, List.map_cons, List.map_nil, Nat.reduceAdd, Nat.reduceMul, Nat.reduceLeDiff, Nat.reduceEqDiff, Nat.reduceLT, Mini.start, Run_seq, Run_skip, Run_block, Run_blk, Run_scope, Run_rg, Rg_cons, Rg_guard, RgG_bool, RgG_tup, RgB_true, RgB_false, RgV_some, Rg_nil, Run_ret, Run_cond, RunC_bool, RunB_true, RunB_false, dOp, DS.rd, DS.wr, look_hit, look_miss, look_nil, put, Option.getD_some, Option.getD_none, if_true, if_false, bytesOf, binV, isShift, binI, binS, unwind, Run_exitX, RunX_some, unV, lenV, eqV, Bool.false_eq_true, Bool.not_true, Bool.not_false, beq_self_eq_true, fin_some, leave, leaveOne, lend, lends, result, reduceCtorEq, MV.fit, MV.cells, loadV, loadCells, fieldV, offV, liveC, placeAll, setCells, live, liveS, indexV, cut, sliceV, storeV, and_true, true_and, and_self, Nat.zero_le, Int.reduceLE, Int.reduceLT, Int.reduceToNat, Int.reduceEq, Int.reduceNeg, Int.reduceMul, Int.reduceAdd, Int.reduceSub, Int.reduceDiv, Int.reduceMod, ne_eq, not_true_eq_false, not_false_eq_true, Bool.true_beq, Bool.false_beq, bne_self_eq_false, Int.reduceBNe, Int.reduceBEq, List.getElem?_cons_zero, List.getElem?_cons_succ, Option.map_some, asByte, Int.le_refl, Int.toNat_natCast, Nat.le_refl, decide_false, decide_true, decide_eq_true_eq, List.length_append, List.length_set, List.nil_append, List.append_nil, Nat.zero_add, Nat.add_zero, Nat.mul_one, List.set_cons_zero, List.set_cons_succ, List.drop_zero, List.drop_succ_cons, List.take_succ_cons, List.take_zero, List.take_nil, appB, drop, byteParts, List.replicate, Option.map_none]
    rfl
  | succ k ih =>
    intro m same i h0 h1 hm
    have hlt : decide (i < bits) = true := by simp; omega
    have q0 : 0 ≤ i / 8 := by omega
    have q1 : i / 8 < (a.length : Int) := by omega
    have q2 : (i / 8).toNat < a.length := by omega
    have ga := getD_some (l := a) (i := (i / 8).toNat) (by omega)
    have gb := getD_some (l := b) (i := (i / 8).toNat) (by omega)
    have gm := getD_some (l := m) (i := (i / 8).toNat) (by omega)
    obtain ⟨b', hb'⟩ : ∃ b', b' = m4b0 := ⟨_, rfl⟩
    rw [RunL_eq, show Item.lp m4k0 m4b0 = Item.lp m4k0 b' by rw [hb']]
    have step : ∀ (same : Bool) (V : List (Nat × MV)) (O : List (Nat × Obj)) (nx : Nat), canon m4k0 ⟨V, [], O, nx⟩ = ⟨V4 a b same bits (i + 1), [], O4 (m.set (i / 8).toNat (m.getD (i / 8).toNat 0 ||| (128 : UInt8) >>> UInt8.ofNat (i % 8).toNat)), 2⟩ →
        Run Q (.lp m4k0 b' :: .blk 0 :: K) ⟨V, [], O, nx⟩ = Run Q K ⟨(44, .bool false) :: V4 a b (sameM a b k (i + 1) same) bits bits, [], O4 (maskM k (i + 1) (m.set (i / 8).toNat (m.getD (i / 8).toNat 0 ||| (128 : UInt8) >>> UInt8.ofNat (i % 8).toNat))), 6⟩ := by
      intro same V O nx hc
      subst hb'
      rw [Run_lp, hc]
      exact ih _ same (i + 1) (by omega) (by omega) (by rw [List.length_set]; exact hm)
    cases same
    · simp (maxSteps := 1000000) (disch := first | decide | omega | exact ok_of (by kernel_rfl)) only [m4b0, V4, O4, hlt, q0, q1, q2, hm, hab, ga, gb, gm, decide_true, entry, enter, inst, List.length_cons, List.length_nil, List.map_cons, List.map_nil, Nat.reduceAdd, Nat.reduceMul, Nat.reduceLeDiff, Nat.reduceEqDiff, Nat.reduceLT, Mini.start, Run_seq, Run_skip, Run_block, Run_blk, Run_scope, Run_rg, Rg_cons, Rg_guard, RgG_bool, RgG_tup, RgB_true, RgB_false, RgV_some, Rg_nil, Run_ret, Run_cond, RunC_bool, RunB_true, RunB_false, dOp, DS.rd, DS.wr, look_hit, look_miss, look_nil, put, Option.getD_some, Option.getD_none, if_true, if_false, bytesOf, binV, isShift, binI, binS, unwind, Run_exitX, RunX_some, unV, lenV, eqV, Bool.false_eq_true, Bool.not_true, Bool.not_false, beq_self_eq_true, fin_some, leave, leaveOne, lend, lends, result, reduceCtorEq, MV.fit, MV.cells, loadV, loadCells, fieldV, offV, liveC, placeAll, setCells, live, liveS, indexV, cut, sliceV, storeV, and_true, true_and, and_self, Nat.zero_le, Int.reduceLE, Int.reduceLT, Int.reduceToNat, Int.reduceEq, Int.reduceNeg, Int.reduceMul, Int.reduceAdd, Int.reduceSub, Int.reduceDiv, Int.reduceMod, ne_eq, not_true_eq_false, not_false_eq_true, Bool.true_beq, Bool.false_beq, bne_self_eq_false, Int.reduceBNe, Int.reduceBEq, List.getElem?_cons_zero, List.getElem?_cons_succ, Option.map_some, asByte, Int.le_refl, Int.toNat_natCast, Nat.le_refl, decide_false, decide_true, decide_eq_true_eq, List.length_append, List.length_set, List.nil_append, List.append_nil, Nat.zero_add, Nat.add_zero, Nat.mul_one, List.set_cons_zero, List.set_cons_succ, List.drop_zero, List.drop_succ_cons, List.take_succ_cons, List.take_zero, List.take_nil, appB, drop, byteParts, List.replicate, Option.map_none, shr8, shr8_128, asB, UInt8.ofNat_toNat, and8_1, and8_127, eq8_1, eq8_0, eq8, w64, w8, tdivE, tmodE, and8, or8, xor8, Run_rgd, Rd_nil, Rd_cons, Rd_guard, RdV_some, RdG_bool, RdG_tup, RdB_true, RdB_false, foot, loud, MOp.xs, MV.names2, MV.names, Obj.names, List.flatMap_cons, List.flatMap_nil, List.append_nil, List.nil_append, List.cons_append, optX]
      exact step false _ _ _ (by kernel_rfl)
    · simp (maxSteps := 1000000) (disch := first | decide | omega | exact ok_of (by kernel_rfl)) only [m4b0, V4, O4, hlt, q0, q1, q2, hm, hab, ga, gb, gm, decide_true, entry, enter, inst, List.length_cons, List.length_nil, List.map_cons, List.map_nil, Nat.reduceAdd, Nat.reduceMul, Nat.reduceLeDiff, Nat.reduceEqDiff, Nat.reduceLT, Mini.start, Run_seq, Run_skip, Run_block, Run_blk, Run_scope, Run_rg, Rg_cons, Rg_guard, RgG_bool, RgG_tup, RgB_true, RgB_false, RgV_some, Rg_nil, Run_ret, Run_cond, RunC_bool, RunB_true, RunB_false, dOp, DS.rd, DS.wr, look_hit, look_miss, look_nil, put, Option.getD_some, Option.getD_none, if_true, if_false, bytesOf, binV, isShift, binI, binS, unwind, Run_exitX, RunX_some, unV, lenV, eqV, Bool.false_eq_true, Bool.not_true, Bool.not_false, beq_self_eq_true, fin_some, leave, leaveOne, lend, lends, result, reduceCtorEq, MV.fit, MV.cells, loadV, loadCells, fieldV, offV, liveC, placeAll, setCells, live, liveS, indexV, cut, sliceV, storeV, and_true, true_and, and_self, Nat.zero_le, Int.reduceLE, Int.reduceLT, Int.reduceToNat, Int.reduceEq, Int.reduceNeg, Int.reduceMul, Int.reduceAdd, Int.reduceSub, Int.reduceDiv, Int.reduceMod, ne_eq, not_true_eq_false, not_false_eq_true, Bool.true_beq, Bool.false_beq, bne_self_eq_false, Int.reduceBNe, Int.reduceBEq, List.getElem?_cons_zero, List.getElem?_cons_succ, Option.map_some, asByte, Int.le_refl, Int.toNat_natCast, Nat.le_refl, decide_false, decide_true, decide_eq_true_eq, List.length_append, List.length_set, List.nil_append, List.append_nil, Nat.zero_add, Nat.add_zero, Nat.mul_one, List.set_cons_zero, List.set_cons_succ, List.drop_zero, List.drop_succ_cons, List.take_succ_cons, List.take_zero, List.take_nil, appB, drop, byteParts, List.replicate, Option.map_none, shr8, shr8_128, asB, UInt8.ofNat_toNat, and8_1, and8_127, eq8_1, eq8_0, eq8, w64, w8, tdivE, tmodE, and8, or8, xor8, Run_rgd, Rd_nil, Rd_cons, Rd_guard, RdV_some, RdG_bool, RdG_tup, RdB_true, RdB_false, foot, loud, MOp.xs, MV.names2, MV.names, Obj.names, List.flatMap_cons, List.flatMap_nil, List.append_nil, List.nil_append, List.cons_append, optX]
      exact step (sameB a b i) _ _ _ (by kernel_rfl)

end Go.Mini
