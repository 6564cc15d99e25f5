/- The net's law over Mini: the loops. -/
import Derived.Test.YtncpjcojnjbhlaaGreatDoorN0
namespace Go.Mini
open Go Go.Proofs.YtncpjcojnjbhlaaGreatDoor
set_option maxRecDepth 10000
set_option linter.unusedSimpArgs false

/-! ### Is a text a mask? -/
def S77 (s : List UInt8) (over : Bool) (n i : Int) : DS := ⟨[(0, .str s), (3, .bool over), (8, .int .i64 n), (9, .int .i64 i)], [], [], 1⟩
def bitOf (x : UInt8) (m : Int) : Bool := ((x >>> UInt8.ofNat (7 - m).toNat) &&& 1) == 1
def maskF (s : List UInt8) : Nat → Int → Bool → Bool
  | 0, _, _ => true
  | k + 1, i, over => if bitOf (s.getD (i / 8).toNat 0) (i % 8) && over then false else maskF s k (i + 1) (over || !bitOf (s.getD (i / 8).toNat 0) (i % 8))

theorem c77_loop (s : List UInt8) : ∀ (n : Nat) (over : Bool) (m i : Int), 0 ≤ i → i + n = m → m = 8 * s.length → m < 1000000 →
    fin m77.results (RunL Q m77k0 m77b0 [.blk 0, .code (.seq (.rg [⟨some (.v 2), .mv (.c (.bool true)), none⟩]) .ret)] (S77 s over m i)) = some (.bool (maskF s n i over)) := by
  intro n
  induction n with
  | zero =>
    intro over m i h0 h1 h2 h3
    have hlt : decide (i < m) = false := by simp; omega
    obtain ⟨b', hb⟩ : ∃ b', b' = m77b0 := ⟨_, rfl⟩
    rw [RunL_eq, show Item.lp m77k0 m77b0 = Item.lp m77k0 b' by rw [hb]]
    simp (maxSteps := 1000000) (disch := first | decide | omega | exact ok_of (by kernel_rfl)) only [m77b0, S77, m77, hlt, entry, enter, inst, List.length_cons, List.length_nil, List.map_cons, List.map_nil, Nat.reduceAdd, Nat.reduceMul, Nat.reduceLeDiff, Nat.reduceEqDiff, Nat.reduceLT, Mini.start, Run_seq, Run_skip, Run_block, Run_blk, Run_scope, Run_rg, Rg_cons, Rg_guard, RgG_bool, RgG_tup, RgB_true, RgB_false, RgV_some, Rg_nil, Run_ret, Run_cond, RunC_bool, RunB_true, RunB_false, dOp, DS.rd, DS.wr, look_hit, look_miss, look_nil, put, Option.getD_some, Option.getD_none, if_true, if_false, bytesOf, binV, isShift, binI, binS, unwind, Run_exitX, RunX_some, unV, lenV, eqV, Bool.false_eq_true, Bool.not_true, Bool.not_false, beq_self_eq_true, fin_some, leave, leaveOne, lend, lends, result, reduceCtorEq, MV.fit, MV.cells, loadV, loadCells, fieldV, offV, liveC, placeAll, setCells, live, liveS, indexV, cut, sliceV, storeV, and_true, true_and, and_self, Nat.zero_le, Int.reduceLE, Int.reduceLT, Int.reduceToNat, Int.reduceEq, Int.reduceNeg, Int.reduceMul, Int.reduceAdd, Int.reduceSub, Int.reduceDiv, Int.reduceMod, ne_eq, not_true_eq_false, not_false_eq_true, Bool.true_beq, Bool.false_beq, bne_self_eq_false, Int.reduceBNe, Int.reduceBEq, List.getElem?_cons_zero, List.getElem?_cons_succ, Option.map_some, asByte, Int.le_refl, Int.toNat_natCast, Nat.le_refl, decide_false, decide_true, decide_eq_true_eq, List.length_append, List.length_set, List.nil_append, List.append_nil, Nat.zero_add, Nat.add_zero, Nat.mul_one, List.set_cons_zero, List.set_cons_succ, List.drop_zero, List.drop_succ_cons, List.take_succ_cons, List.take_zero, List.take_nil, appB, drop, byteParts, List.replicate, Option.map_none]
    rfl
  | succ n ih =>
    intro over m i h0 h1 h2 h3
    have hlt : decide (i < m) = true := by simp; omega
    have hidx : 0 ≤ i / 8 ∧ i / 8 < (s.length : Int) := by omega
    obtain ⟨b', hb⟩ : ∃ b', b' = m77b0 := ⟨_, rfl⟩
    rw [RunL_eq, show Item.lp m77k0 m77b0 = Item.lp m77k0 b' by rw [hb]]
    unfold maskF
    obtain ⟨bit, hbit⟩ : ∃ b, b = bitOf (s.getD (i / 8).toNat 0) (i % 8) := ⟨_, rfl⟩
    rw [← hbit]
    unfold bitOf at hbit
    have step : ∀ (over : Bool) (V : List (Nat × MV)) (nx : Nat), canon m77k0 ⟨V, [], [], nx⟩ = S77 s over m (i + 1) → fin m77.results (Run Q [.lp m77k0 b', .blk 0, .code (.seq (.rg [⟨some (.v 2), .mv (.c (.bool true)), none⟩]) .ret)] ⟨V, [], [], nx⟩) = some (.bool (maskF s n (i + 1) over)) := by
      intro over V nx hc
      subst hb
      rw [Run_lp, hc]
      exact ih over m (i + 1) (by omega) (by omega) h2 h3
    cases over <;> cases bit <;>
    simp (maxSteps := 1000000) (disch := first | decide | omega | exact ok_of (by kernel_rfl)) only [m77b0, S77, m77, hlt, hidx, ← hbit, Bool.and_true, Bool.and_false, Bool.true_or, Bool.false_or, Bool.or_false, entry, enter, inst, List.length_cons, List.length_nil, List.map_cons, List.map_nil, Nat.reduceAdd, Nat.reduceMul, Nat.reduceLeDiff, Nat.reduceEqDiff, Nat.reduceLT, Mini.start, Run_seq, Run_skip, Run_block, Run_blk, Run_scope, Run_rg, Rg_cons, Rg_guard, RgG_bool, RgG_tup, RgB_true, RgB_false, RgV_some, Rg_nil, Run_ret, Run_cond, RunC_bool, RunB_true, RunB_false, dOp, DS.rd, DS.wr, look_hit, look_miss, look_nil, put, Option.getD_some, Option.getD_none, if_true, if_false, bytesOf, binV, isShift, binI, binS, unwind, Run_exitX, RunX_some, unV, lenV, eqV, Bool.false_eq_true, Bool.not_true, Bool.not_false, beq_self_eq_true, fin_some, leave, leaveOne, lend, lends, result, reduceCtorEq, MV.fit, MV.cells, loadV, loadCells, fieldV, offV, liveC, placeAll, setCells, live, liveS, indexV, cut, sliceV, storeV, and_true, true_and, and_self, Nat.zero_le, Int.reduceLE, Int.reduceLT, Int.reduceToNat, Int.reduceEq, Int.reduceNeg, Int.reduceMul, Int.reduceAdd, Int.reduceSub, Int.reduceDiv, Int.reduceMod, ne_eq, not_true_eq_false, not_false_eq_true, Bool.true_beq, Bool.false_beq, bne_self_eq_false, Int.reduceBNe, Int.reduceBEq, List.getElem?_cons_zero, List.getElem?_cons_succ, Option.map_some, asByte, Int.le_refl, Int.toNat_natCast, Nat.le_refl, decide_false, decide_true, decide_eq_true_eq, List.length_append, List.length_set, List.nil_append, List.append_nil, Nat.zero_add, Nat.add_zero, Nat.mul_one, List.set_cons_zero, List.set_cons_succ, List.drop_zero, List.drop_succ_cons, List.take_succ_cons, List.take_zero, List.take_nil, appB, drop, byteParts, List.replicate, Option.map_none, shr8, shr8_128, asB, UInt8.ofNat_toNat, and8_1, and8_127, eq8_1, eq8_0, eq8, w64, w8, tdivE, tmodE, and8, or8, xor8]
    · exact step true _ _ (by kernel_rfl)
    · exact step false _ _ (by kernel_rfl)
    · exact step true _ _ (by kernel_rfl)

theorem c77 (s : List UInt8) (h : (s.length : Int) < 100000) : Call Q 77 [.str s] = some (.bool (maskF s (8 * s.length) 0 false)) := by
  rw [Call_fn Q (m := m77) rfl rfl]
  obtain ⟨b', hb⟩ : ∃ b', b' = m77b0 := ⟨_, rfl⟩
  simp (maxSteps := 1000000) (disch := first | decide | omega | exact ok_of (by kernel_rfl)) only [m77, ← hb, Run_loop, entry, enter, inst, List.length_cons, List.length_nil, List.map_cons, List.map_nil, Nat.reduceAdd, Nat.reduceMul, Nat.reduceLeDiff, Nat.reduceEqDiff, Nat.reduceLT, Mini.start, Run_seq, Run_skip, Run_block, Run_blk, Run_scope, Run_rg, Rg_cons, Rg_guard, RgG_bool, RgG_tup, RgB_true, RgB_false, RgV_some, Rg_nil, Run_ret, Run_cond, RunC_bool, RunB_true, RunB_false, dOp, DS.rd, DS.wr, look_hit, look_miss, look_nil, put, Option.getD_some, Option.getD_none, if_true, if_false, bytesOf, binV, isShift, binI, binS, unwind, Run_exitX, RunX_some, unV, lenV, eqV, Bool.false_eq_true, Bool.not_true, Bool.not_false, beq_self_eq_true, fin_some, leave, leaveOne, lend, lends, result, reduceCtorEq, MV.fit, MV.cells, loadV, loadCells, fieldV, offV, liveC, placeAll, setCells, live, liveS, indexV, cut, sliceV, storeV, and_true, true_and, and_self, Nat.zero_le, Int.reduceLE, Int.reduceLT, Int.reduceToNat, Int.reduceEq, Int.reduceNeg, Int.reduceMul, Int.reduceAdd, Int.reduceSub, Int.reduceDiv, Int.reduceMod, ne_eq, not_true_eq_false, not_false_eq_true, Bool.true_beq, Bool.false_beq, bne_self_eq_false, Int.reduceBNe, Int.reduceBEq, List.getElem?_cons_zero, List.getElem?_cons_succ, Option.map_some, asByte, Int.le_refl, Int.toNat_natCast, Nat.le_refl, decide_false, decide_true, decide_eq_true_eq, List.length_append, List.length_set, List.nil_append, List.append_nil, Nat.zero_add, Nat.add_zero, Nat.mul_one, List.set_cons_zero, List.set_cons_succ, List.drop_zero, List.drop_succ_cons, List.take_succ_cons, List.take_zero, List.take_nil, appB, drop, byteParts, List.replicate, Option.map_none, shr8, shr8_128, asB, UInt8.ofNat_toNat, and8_1, and8_127, eq8_1, eq8_0, eq8, w64, w8, tdivE, tmodE, and8, or8, xor8]
  subst hb
  exact (congrArg (fin m77.results) (RunL_canon (st' := S77 s false (8 * s.length) 0) (by kernel_rfl))).trans (c77_loop s (8 * s.length) false _ 0 (by omega) (by omega) rfl (by omega))

/-! ### Within, of addresses -/
def V10 (n : Nat) (i : Int) : List (Nat × MV) := [(21, .own 0 n), (22, .own 1 n), (23, .own 2 n), (156, .int .i64 (n : Int)), (157, .int .i64 i)]
def O10 (la lb m : List UInt8) : List (Nat × Obj) := [(0, .byt la false), (1, .byt lb false), (2, .byt m false)]
def andF (m : List UInt8) : Nat → Int → List UInt8 → List UInt8
  | 0, _, l => l
  | k + 1, i, l => andF m k (i + 1) (l.set i.toNat (l.getD i.toNat 0 &&& m.getD i.toNat 0))

theorem c10_loop (m : List UInt8) (n : Nat) (hm : m.length = n) (hn : n < 100000) (K : List Item) : ∀ (k : Nat) (la lb : List UInt8) (i : Int), 0 ≤ i → i + k = n → la.length = n → lb.length = n →
    RunL Q m10k0 m10b0 (.blk 1 :: K) ⟨V10 n i, [], O10 la lb m, 4⟩ = Run Q K ⟨(158, .bool false) :: V10 n n, [], O10 (andF m k i la) (andF m k i lb) m, 8⟩ := by
  intro k
  induction k with
  | zero =>
    intro la lb i h0 h1 ha hb
    obtain rfl : i = n := by omega
    have hlt : decide ((n : Int) < (n : Int)) = false := by simp
    obtain ⟨b', hb'⟩ : ∃ b', b' = m10b0 := ⟨_, rfl⟩
    rw [RunL_eq, show Item.lp m10k0 m10b0 = Item.lp m10k0 b' by rw [hb']]
    simp (maxSteps := 1000000) (disch := first | decide | omega | exact ok_of (by kernel_rfl)) only [m10b0, V10, O10, hlt, entry, enter, inst, List.length_cons, List.length_nil, List.map_cons, List.map_nil, Nat.reduceAdd, Nat.reduceMul, Nat.reduceLeDiff, Nat.reduceEqDiff, Nat.reduceLT, Mini.start, Run_seq, Run_skip, Run_block, Run_blk, Run_scope, Run_rg, Rg_cons, Rg_guard, RgG_bool, RgG_tup, RgB_true, RgB_false, RgV_some, Rg_nil, Run_ret, Run_cond, RunC_bool, RunB_true, RunB_false, dOp, DS.rd, DS.wr, look_hit, look_miss, look_nil, put, Option.getD_some, Option.getD_none, if_true, if_false, bytesOf, binV, isShift, binI, binS, unwind, Run_exitX, RunX_some, unV, lenV, eqV, Bool.false_eq_true, Bool.not_true, Bool.not_false, beq_self_eq_true, fin_some, leave, leaveOne, lend, lends, result, reduceCtorEq, MV.fit, MV.cells, loadV, loadCells, fieldV, offV, liveC, placeAll, setCells, live, liveS, indexV, cut, sliceV, storeV, and_true, true_and, and_self, Nat.zero_le, Int.reduceLE, Int.reduceLT, Int.reduceToNat, Int.reduceEq, Int.reduceNeg, Int.reduceMul, Int.reduceAdd, Int.reduceSub, Int.reduceDiv, Int.reduceMod, ne_eq, not_true_eq_false, not_false_eq_true, Bool.true_beq, Bool.false_beq, bne_self_eq_false, Int.reduceBNe, Int.reduceBEq, List.getElem?_cons_zero, List.getElem?_cons_succ, Option.map_some, asByte, Int.le_refl, Int.toNat_natCast, Nat.le_refl, decide_false, decide_true, decide_eq_true_eq, List.length_append, List.length_set, List.nil_append, List.append_nil, Nat.zero_add, Nat.add_zero, Nat.mul_one, List.set_cons_zero, List.set_cons_succ, List.drop_zero, List.drop_succ_cons, List.take_succ_cons, List.take_zero, List.take_nil, appB, drop, byteParts, List.replicate, Option.map_none]
    rfl
  | succ k ih =>
    intro la lb i h0 h1 ha hb
    have hlt : decide (i < (n : Int)) = true := by simp; omega
    have hn1 : i < (n : Int) := by omega
    have hn2 : i.toNat < n := by omega
    have ga := getD_some (l := la) (i := i.toNat) (by omega)
    have gb := getD_some (l := lb) (i := i.toNat) (by omega)
    have gm := getD_some (l := m) (i := i.toNat) (by omega)
    obtain ⟨b', hb'⟩ : ∃ b', b' = m10b0 := ⟨_, rfl⟩
    rw [RunL_eq, show Item.lp m10k0 m10b0 = Item.lp m10k0 b' by rw [hb']]
    simp (maxSteps := 1000000) (disch := first | decide | omega | exact ok_of (by kernel_rfl)) only [m10b0, V10, O10, hlt, h0, hn1, hn2, ha, hb, hm, ga, gb, gm, decide_true, entry, enter, inst, List.length_cons, List.length_nil, List.map_cons, List.map_nil, Nat.reduceAdd, Nat.reduceMul, Nat.reduceLeDiff, Nat.reduceEqDiff, Nat.reduceLT, Mini.start, Run_seq, Run_skip, Run_block, Run_blk, Run_scope, Run_rg, Rg_cons, Rg_guard, RgG_bool, RgG_tup, RgB_true, RgB_false, RgV_some, Rg_nil, Run_ret, Run_cond, RunC_bool, RunB_true, RunB_false, dOp, DS.rd, DS.wr, look_hit, look_miss, look_nil, put, Option.getD_some, Option.getD_none, if_true, if_false, bytesOf, binV, isShift, binI, binS, unwind, Run_exitX, RunX_some, unV, lenV, eqV, Bool.false_eq_true, Bool.not_true, Bool.not_false, beq_self_eq_true, fin_some, leave, leaveOne, lend, lends, result, reduceCtorEq, MV.fit, MV.cells, loadV, loadCells, fieldV, offV, liveC, placeAll, setCells, live, liveS, indexV, cut, sliceV, storeV, and_true, true_and, and_self, Nat.zero_le, Int.reduceLE, Int.reduceLT, Int.reduceToNat, Int.reduceEq, Int.reduceNeg, Int.reduceMul, Int.reduceAdd, Int.reduceSub, Int.reduceDiv, Int.reduceMod, ne_eq, not_true_eq_false, not_false_eq_true, Bool.true_beq, Bool.false_beq, bne_self_eq_false, Int.reduceBNe, Int.reduceBEq, List.getElem?_cons_zero, List.getElem?_cons_succ, Option.map_some, asByte, Int.le_refl, Int.toNat_natCast, Nat.le_refl, decide_false, decide_true, decide_eq_true_eq, List.length_append, List.length_set, List.nil_append, List.append_nil, Nat.zero_add, Nat.add_zero, Nat.mul_one, List.set_cons_zero, List.set_cons_succ, List.drop_zero, List.drop_succ_cons, List.take_succ_cons, List.take_zero, List.take_nil, appB, drop, byteParts, List.replicate, Option.map_none, shr8, shr8_128, asB, UInt8.ofNat_toNat, and8_1, and8_127, eq8_1, eq8_0, eq8, w64, w8, tdivE, tmodE, and8, or8, xor8, Run_rgd, Rd_nil, Rd_cons, Rd_guard, RdV_some, RdG_bool, RdG_tup, RdB_true, RdB_false, foot, loud, MOp.xs, MV.names2, MV.names, Obj.names, List.flatMap_cons, List.flatMap_nil, List.append_nil, List.nil_append, List.cons_append, optX]
    subst hb'
    rw [Run_lp]
    exact (RunL_canon (st' := ⟨V10 n (i + 1), [], O10 (la.set i.toNat (la.getD i.toNat 0 &&& m.getD i.toNat 0)) (lb.set i.toNat (lb.getD i.toNat 0 &&& m.getD i.toNat 0)) m, 4⟩) (by kernel_rfl)).trans
      (ih _ _ (i + 1) (by omega) (by omega) (by rw [List.length_set]; exact ha) (by rw [List.length_set]; exact hb))

theorem c10_ip (s l : List UInt8) (hs : s.length < 1000) (hl : l.length = 2 * s.length) (h1 : Call Q 43 [.agg [.int .i64 7, .str s, .nilsl], .bool false] = some (.bool true)) (h2 : Call Q 43 [.agg [.int .i64 7, .str l, .nilsl], .bool true] = some (.bool true)) :
    Call Q 10 [.agg [.int .i64 7, .str s, .nilsl], .agg [.int .i64 7, .str l, .nilsl]] = some (.bool (andF (l.drop s.length) s.length 0 s == andF (l.drop s.length) s.length 0 (l.take s.length))) := by
  rw [Call_fn Q (m := m10) rfl rfl]
  have k1 := c14_ok s false h1
  have k2 := c14_ok l true h2
  have e1 : (2 : Int) * (s.length : Int) = (l.length : Int) := by omega
  have e2 : (s.length : Int) ≤ (l.length : Int) := by omega
  have e3 : (l.drop s.length).take (l.length - s.length) = l.drop s.length := by rw [List.take_of_length_le]; simp
  have e4 : (l.drop s.length).length = s.length := by rw [List.length_drop]; omega
  have e5 : (l.take s.length).length = s.length := by rw [List.length_take]; omega
  have e6 : ((l.length : Int) != (l.length : Int)) = false := by simp
  have e7 : ((s.length : Int)).toNat = s.length := by simp
  have e8 : (0 : Int) ≤ (s.length : Int) := by omega
  simp (maxSteps := 1000000) (disch := first | decide | omega | exact ok_of (by kernel_rfl)) only [m10, k1, k2, e1, e2, e3, e4, e5, e6, e7, e8, List.drop_zero, Nat.sub_zero, Run_loop, entry, enter, inst, List.length_cons, List.length_nil, List.map_cons, List.map_nil, Nat.reduceAdd, Nat.reduceMul, Nat.reduceLeDiff, Nat.reduceEqDiff, Nat.reduceLT, Mini.start, Run_seq, Run_skip, Run_block, Run_blk, Run_scope, Run_rg, Rg_cons, Rg_guard, RgG_bool, RgG_tup, RgB_true, RgB_false, RgV_some, Rg_nil, Run_ret, Run_cond, RunC_bool, RunB_true, RunB_false, dOp, DS.rd, DS.wr, look_hit, look_miss, look_nil, put, Option.getD_some, Option.getD_none, if_true, if_false, bytesOf, binV, isShift, binI, binS, unwind, Run_exitX, RunX_some, unV, lenV, eqV, Bool.false_eq_true, Bool.not_true, Bool.not_false, beq_self_eq_true, fin_some, leave, leaveOne, lend, lends, result, reduceCtorEq, MV.fit, MV.cells, loadV, loadCells, fieldV, offV, liveC, placeAll, setCells, live, liveS, indexV, cut, sliceV, storeV, and_true, true_and, and_self, Nat.zero_le, Int.reduceLE, Int.reduceLT, Int.reduceToNat, Int.reduceEq, Int.reduceNeg, Int.reduceMul, Int.reduceAdd, Int.reduceSub, Int.reduceDiv, Int.reduceMod, ne_eq, not_true_eq_false, not_false_eq_true, Bool.true_beq, Bool.false_beq, bne_self_eq_false, Int.reduceBNe, Int.reduceBEq, List.getElem?_cons_zero, List.getElem?_cons_succ, Option.map_some, asByte, Int.le_refl, Int.toNat_natCast, Nat.le_refl, decide_false, decide_true, decide_eq_true_eq, List.length_append, List.length_set, List.nil_append, List.append_nil, Nat.zero_add, Nat.add_zero, Nat.mul_one, List.set_cons_zero, List.set_cons_succ, List.drop_zero, List.drop_succ_cons, List.take_succ_cons, List.take_zero, List.take_nil, appB, drop, byteParts, List.replicate, Option.map_none, shr8, shr8_128, asB, UInt8.ofNat_toNat, and8_1, and8_127, eq8_1, eq8_0, eq8, w64, w8, tdivE, tmodE, and8, or8, xor8, Run_rgd, Rd_nil, Rd_cons, Rd_guard, RdV_some, RdG_bool, RdG_tup, RdB_true, RdB_false, foot, loud, MOp.xs, MV.names2, MV.names, Obj.names, List.flatMap_cons, List.flatMap_nil, List.append_nil, List.nil_append, List.cons_append, optX, dCall_eq, CallV_some, instR, insts, MV.width]
  refine (congrArg (fin _) (RunL_canon (st' := ⟨V10 s.length 0, [], O10 s (l.take s.length) (l.drop s.length), 4⟩) (by kernel_rfl))).trans ?_
  rw [c10_loop (l.drop s.length) s.length e4 (by omega) _ s.length s (l.take s.length) 0 (by omega) (by omega) rfl e5]
  have f1 : ∀ (m : List UInt8) (k : Nat) (i : Int) (x : List UInt8), (andF m k i x).length = x.length := by
    intro m k
    induction k with
    | zero => intro i x; rfl
    | succ k ih => intro i x; rw [andF, ih, List.length_set]
  have f2 : (andF (l.drop s.length) s.length 0 s).length = s.length := f1 ..
  have f3 : (andF (l.drop s.length) s.length 0 (l.take s.length)).length = s.length := (f1 ..).trans e5
  generalize hx : andF (l.drop s.length) s.length 0 s = x at *
  generalize hy : andF (l.drop s.length) s.length 0 (l.take s.length) = y at *
  simp (maxSteps := 1000000) (disch := first | decide | omega | exact ok_of (by kernel_rfl)) only [V10, O10, f2, f3, c34, entry, enter, inst, List.length_cons, List.length_nil, List.map_cons, List.map_nil, Nat.reduceAdd, Nat.reduceMul, Nat.reduceLeDiff, Nat.reduceEqDiff, Nat.reduceLT, Mini.start, Run_seq, Run_skip, Run_block, Run_blk, Run_scope, Run_rg, Rg_cons, Rg_guard, RgG_bool, RgG_tup, RgB_true, RgB_false, RgV_some, Rg_nil, Run_ret, Run_cond, RunC_bool, RunB_true, RunB_false, dOp, DS.rd, DS.wr, look_hit, look_miss, look_nil, put, Option.getD_some, Option.getD_none, if_true, if_false, bytesOf, binV, isShift, binI, binS, unwind, Run_exitX, RunX_some, unV, lenV, eqV, Bool.false_eq_true, Bool.not_true, Bool.not_false, beq_self_eq_true, fin_some, leave, leaveOne, lend, lends, result, reduceCtorEq, MV.fit, MV.cells, loadV, loadCells, fieldV, offV, liveC, placeAll, setCells, live, liveS, indexV, cut, sliceV, storeV, and_true, true_and, and_self, Nat.zero_le, Int.reduceLE, Int.reduceLT, Int.reduceToNat, Int.reduceEq, Int.reduceNeg, Int.reduceMul, Int.reduceAdd, Int.reduceSub, Int.reduceDiv, Int.reduceMod, ne_eq, not_true_eq_false, not_false_eq_true, Bool.true_beq, Bool.false_beq, bne_self_eq_false, Int.reduceBNe, Int.reduceBEq, List.getElem?_cons_zero, List.getElem?_cons_succ, Option.map_some, asByte, Int.le_refl, Int.toNat_natCast, Nat.le_refl, decide_false, decide_true, decide_eq_true_eq, List.length_append, List.length_set, List.nil_append, List.append_nil, Nat.zero_add, Nat.add_zero, Nat.mul_one, List.set_cons_zero, List.set_cons_succ, List.drop_zero, List.drop_succ_cons, List.take_succ_cons, List.take_zero, List.take_nil, appB, drop, byteParts, List.replicate, Option.map_none, shr8, shr8_128, asB, UInt8.ofNat_toNat, and8_1, and8_127, eq8_1, eq8_0, eq8, w64, w8, tdivE, tmodE, and8, or8, xor8, dCall_eq, CallV_some, instR, insts, MV.width]

theorem c10_no (s l : List UInt8) (h1 : Call Q 43 [.agg [.int .i64 7, .str s, .nilsl], .bool false] = some (.bool false)) (h2 : Call Q 43 [.agg [.int .i64 7, .str l, .nilsl], .bool true] = some (.bool true)) :
    Call Q 10 [.agg [.int .i64 7, .str s, .nilsl], .agg [.int .i64 7, .str l, .nilsl]] = some (.bool false) := by
  rw [Call_fn Q (m := m10) rfl rfl]
  have k1 := c14_no s false h1
  have k2 := c14_ok l true h2
  simp (maxSteps := 1000000) (disch := first | decide | omega | exact ok_of (by kernel_rfl)) only [m10, k1, k2, entry, enter, inst, List.length_cons, List.length_nil, List.map_cons, List.map_nil, Nat.reduceAdd, Nat.reduceMul, Nat.reduceLeDiff, Nat.reduceEqDiff, Nat.reduceLT, Mini.start, Run_seq, Run_skip, Run_block, Run_blk, Run_scope, Run_rg, Rg_cons, Rg_guard, RgG_bool, RgG_tup, RgB_true, RgB_false, RgV_some, Rg_nil, Run_ret, Run_cond, RunC_bool, RunB_true, RunB_false, dOp, DS.rd, DS.wr, look_hit, look_miss, look_nil, put, Option.getD_some, Option.getD_none, if_true, if_false, bytesOf, binV, isShift, binI, binS, unwind, Run_exitX, RunX_some, unV, lenV, eqV, Bool.false_eq_true, Bool.not_true, Bool.not_false, beq_self_eq_true, fin_some, leave, leaveOne, lend, lends, result, reduceCtorEq, MV.fit, MV.cells, loadV, loadCells, fieldV, offV, liveC, placeAll, setCells, live, liveS, indexV, cut, sliceV, storeV, and_true, true_and, and_self, Nat.zero_le, Int.reduceLE, Int.reduceLT, Int.reduceToNat, Int.reduceEq, Int.reduceNeg, Int.reduceMul, Int.reduceAdd, Int.reduceSub, Int.reduceDiv, Int.reduceMod, ne_eq, not_true_eq_false, not_false_eq_true, Bool.true_beq, Bool.false_beq, bne_self_eq_false, Int.reduceBNe, Int.reduceBEq, List.getElem?_cons_zero, List.getElem?_cons_succ, Option.map_some, asByte, Int.le_refl, Int.toNat_natCast, Nat.le_refl, decide_false, decide_true, decide_eq_true_eq, List.length_append, List.length_set, List.nil_append, List.append_nil, Nat.zero_add, Nat.add_zero, Nat.mul_one, List.set_cons_zero, List.set_cons_succ, List.drop_zero, List.drop_succ_cons, List.take_succ_cons, List.take_zero, List.take_nil, appB, drop, byteParts, List.replicate, Option.map_none, shr8, shr8_128, asB, UInt8.ofNat_toNat, and8_1, and8_127, eq8_1, eq8_0, eq8, w64, w8, tdivE, tmodE, and8, or8, xor8, Run_rgd, Rd_nil, Rd_cons, Rd_guard, RdV_some, RdG_bool, RdG_tup, RdB_true, RdB_false, foot, loud, MOp.xs, MV.names2, MV.names, Obj.names, List.flatMap_cons, List.flatMap_nil, List.append_nil, List.nil_append, List.cons_append, optX, dCall_eq, CallV_some, instR, insts, MV.width]

end Go.Mini
