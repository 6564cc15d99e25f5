/- The law NameBelow over Mini: its loop. -/
import Derived.Test.YtncpjcojnjbhlaaGreatDoorE3
namespace Go.Mini
open Go Go.Proofs.YtncpjcojnjbhlaaGreatDoor
set_option maxRecDepth 10000
set_option maxHeartbeats 4000000
set_option linter.unusedSimpArgs false

def strs (l : List (List UInt8)) : List MV := l.map fun s => .str s
theorem strs_length (l : List (List UInt8)) : (strs l).length = l.length := by simp [strs]
theorem strs_get {l : List (List UInt8)} {i : Nat} {s : List UInt8} (h : l[i]? = some s) : (strs l)[i]? = some (.str s) := by simp [strs, h]

def R5 : List (Nat × Option (Bool × Nat) × PK) := [(8, none, .other)]
def own5 (d : Dn) : MV := match d with | [] => .own 1 0 | _ => .own 0 d.length
def O5 (d : Dn) : List (Nat × Obj) := match d with | [] => [(1, .el 2 [] false)] | _ => [(0, .el 2 (attrs d) false)]
def nx5 (d : Dn) : Nat := match d with | [] => 2 | _ => 2
def V5 (T X : List (List UInt8)) (n : Int) (s : List UInt8) (d : Dn) (i : Int) : List (Nat × MV) :=
  [(1, .sl 1 (strs X)), (2, .int .i64 n), (3, .str s), (9, own5 d), (48, .sl 1 (strs T)), (49, .int .i64 (T.length : Int)), (50, .int .i64 i)]

theorem c5_end (T X : List (List UInt8)) (n : Int) (s : List UInt8) (d : Dn) (K : List Item) : RunL Q m5k0 m5b0 (.blk 0 :: K) ⟨V5 T X n s d T.length, [], O5 d, nx5 d⟩ = Run Q K ⟨(51, .bool false) :: V5 T X n s d T.length, [], O5 d, nx5 d + 4⟩ := by
  have hlt : decide ((T.length : Int) < (T.length : Int)) = false := by simp
  obtain ⟨b', hb'⟩ : ∃ b', b' = m5b0 := ⟨_, rfl⟩
  rw [RunL_eq, show Item.lp m5k0 m5b0 = Item.lp m5k0 b' by rw [hb']]
  simp (maxSteps := 4000000) (disch := first | decide | omega | exact ok_of (by kernel_rfl)) only [m5b0, V5, hlt, entry, enter, inst, List.length_cons, List.length_nil, List.map_cons, List.map_nil, Nat.reduceAdd, Nat.reduceMul, Nat.reduceLeDiff, Nat.reduceEqDiff, Nat.reduceLT, Mini.start, Run_seq, Run_skip, Run_block, Run_blk, Run_scope, Run_rg, Rg_cons, Rg_guard, RgG_bool, RgG_tup, RgB_true, RgB_false, RgV_some, Rg_nil, Run_ret, Run_cond, RunC_bool, RunB_true, RunB_false, dOp, DS.rd, DS.wr, look_hit, look_miss, look_nil, put, Option.getD_some, Option.getD_none, if_true, if_false, bytesOf, binV, isShift, binI, binS, unwind, Run_exitX, RunX_some, unV, lenV, eqV, Bool.false_eq_true, Bool.not_true, Bool.not_false, beq_self_eq_true, fin_some, leave, leaveOne, lend, lends, result, reduceCtorEq, MV.fit, MV.cells, loadV, loadCells, fieldV, offV, liveC, placeAll, setCells, live, liveS, indexV, cut, sliceV, storeV, and_true, true_and, and_self, Nat.zero_le, Int.reduceLE, Int.reduceLT, Int.reduceToNat, Int.reduceEq, Int.reduceNeg, Int.reduceMul, Int.reduceAdd, Int.reduceSub, Int.reduceDiv, Int.reduceMod, ne_eq, not_true_eq_false, not_false_eq_true, Bool.true_beq, Bool.false_beq, bne_self_eq_false, Int.reduceBNe, Int.reduceBEq, List.getElem?_cons_zero, List.getElem?_cons_succ, Option.map_some, asByte, List.all_nil, List.all_cons, MV.pureHead, List.isEmpty_nil, Int.cast_ofNat_Int, Nat.reducePow, Int.le_refl, Int.toNat_natCast, Nat.le_refl, decide_false, decide_true, decide_eq_true_eq, List.length_append, List.length_set, List.nil_append, List.cons_append, List.append_nil, Nat.zero_add, Nat.add_zero, Nat.mul_one, List.set_cons_zero, List.set_cons_succ, List.drop_zero, List.drop_succ_cons, List.take_succ_cons, List.take_zero, List.take_nil, appB, drop, byteParts, List.replicate, Option.map_none]

theorem c5_step (T X : List (List UInt8)) (n : Int) (s : List UInt8) (d : Dn) (hd : d.length ≤ 10) (i : Nat) (t x : List UInt8) (hT : T[i]? = some t) (hX : X[i]? = some x) (hl : T.length ≤ 10) (K : List Item) :
    fin R5 (RunL Q m5k0 m5b0 (.blk 0 :: K) ⟨V5 T X n s d i, [], O5 d, nx5 d⟩) = if (decide (100 < t.length) || decide (100 < x.length)) = true then some (.bool true) else fin R5 (RunL Q m5k0 m5b0 (.blk 0 :: K) ⟨V5 T X n s (d ++ [(t, x)]) (i + 1 : Nat), [], O5 (d ++ [(t, x)]), nx5 (d ++ [(t, x)])⟩) := by
  have hi : i < T.length := (List.getElem?_eq_some_iff.1 hT).1
  have hj : i < X.length := (List.getElem?_eq_some_iff.1 hX).1
  have hlt : decide ((i : Int) < (T.length : Int)) = true := by simp; omega
  have i0 : (0 : Int) ≤ (i : Int) := by omega
  have i1 : (i : Int) < (T.length : Int) := by omega
  have j1 : (i : Int) < (X.length : Int) := by omega
  have lt := strs_length T
  have lx := strs_length X
  have gt := strs_get hT
  have gx := strs_get hX
  have e : ((i : Int) + 1) = ((i + 1 : Nat) : Int) := by omega
  have e1 : decide ((100 : Int) < (t.length : Int)) = decide (100 < t.length) := by rw [Bool.eq_iff_iff]; simp; omega
  have e2 : decide ((100 : Int) < (x.length : Int)) = decide (100 < x.length) := by rw [Bool.eq_iff_iff]; simp; omega
  obtain ⟨rhs, hr⟩ : ∃ z, z = fin R5 (RunL Q m5k0 m5b0 (.blk 0 :: K) ⟨V5 T X n s (d ++ [(t, x)]) (i + 1 : Nat), [], O5 (d ++ [(t, x)]), nx5 (d ++ [(t, x)])⟩) := ⟨_, rfl⟩
  rw [← hr]
  obtain ⟨b', hb'⟩ : ∃ b', b' = m5b0 := ⟨_, rfl⟩
  cases h1 : decide (100 < t.length)
  · cases h2 : decide (100 < x.length)
    · rw [if_neg (by decide), RunL_eq, show Item.lp m5k0 m5b0 = Item.lp m5k0 b' by rw [hb']]
      cases d with
      | nil =>
        simp (maxSteps := 4000000) (disch := first | decide | omega | exact ok_of (by kernel_rfl)) only [m5b0, V5, O5, nx5, own5, R5, hlt, i0, i1, j1, lt, lx, gt, gx, e1, e2, elemsOf, appE, elParts, List.replicate, List.set, h1, h2, entry, enter, inst, List.length_cons, List.length_nil, List.map_cons, List.map_nil, Nat.reduceAdd, Nat.reduceMul, Nat.reduceLeDiff, Nat.reduceEqDiff, Nat.reduceLT, Mini.start, Run_seq, Run_skip, Run_block, Run_blk, Run_scope, Run_rg, Rg_cons, Rg_guard, RgG_bool, RgG_tup, RgB_true, RgB_false, RgV_some, Rg_nil, Run_ret, Run_cond, RunC_bool, RunB_true, RunB_false, dOp, DS.rd, DS.wr, look_hit, look_miss, look_nil, put, Option.getD_some, Option.getD_none, if_true, if_false, bytesOf, binV, isShift, binI, binS, unwind, Run_exitX, RunX_some, unV, lenV, eqV, Bool.false_eq_true, Bool.not_true, Bool.not_false, beq_self_eq_true, fin_some, leave, leaveOne, lend, lends, result, reduceCtorEq, MV.fit, MV.cells, loadV, loadCells, fieldV, offV, liveC, placeAll, setCells, live, liveS, indexV, cut, sliceV, storeV, and_true, true_and, and_self, Nat.zero_le, Int.reduceLE, Int.reduceLT, Int.reduceToNat, Int.reduceEq, Int.reduceNeg, Int.reduceMul, Int.reduceAdd, Int.reduceSub, Int.reduceDiv, Int.reduceMod, ne_eq, not_true_eq_false, not_false_eq_true, Bool.true_beq, Bool.false_beq, bne_self_eq_false, Int.reduceBNe, Int.reduceBEq, List.getElem?_cons_zero, List.getElem?_cons_succ, Option.map_some, asByte, List.all_nil, List.all_cons, MV.pureHead, List.isEmpty_nil, Int.cast_ofNat_Int, Nat.reducePow, Int.le_refl, Int.toNat_natCast, Nat.le_refl, decide_false, decide_true, decide_eq_true_eq, List.length_append, List.length_set, List.nil_append, List.cons_append, List.append_nil, Nat.zero_add, Nat.add_zero, Nat.mul_one, List.set_cons_zero, List.set_cons_succ, List.drop_zero, List.drop_succ_cons, List.take_succ_cons, List.take_zero, List.take_nil, appB, drop, byteParts, List.replicate, Option.map_none, shr8, shr8_128, asB, UInt8.ofNat_toNat, and8_1, and8_127, eq8_1, eq8_0, eq8, w64, w8, tdivE, tmodE, and8, or8, xor8, Run_rgd, Rd_nil, Rd_cons, Rd_guard, RdV_some, RdG_bool, RdG_tup, RdB_true, RdB_false, foot, loud, MOp.xs, MV.names2, MV.names, Obj.names, List.flatMap_cons, List.flatMap_nil, List.append_nil, List.nil_append, List.cons_append, optX, dCall_eq, CallV_some, instR, insts, MV.width]
        subst hb'
        refine ((congrArg (fin _) (Run_lp Q _ _ _ _)).trans ?_)
        rw [hr]
        exact congrArg (fin R5) (RunL_canon (canon_cong (Eq.trans (by kernel_rfl) (show [(1, MV.sl 1 (strs X)), (2, .int .i64 n), (3, .str s), (9, .own 0 1), (48, .sl 1 (strs T)), (49, .int .i64 (T.length : Int)), (50, .int .i64 ((i : Int) + 1))] = V5 T X n s ([] ++ [(t, x)]) (i + 1 : Nat) from by rw [e]; rfl)) (by kernel_rfl) (by kernel_rfl)))
      | cons a r =>
        have hal := attrs_length (a :: r)
        have hcap : (r.length + 1 + 1) * 32 ≤ 2 ^ 47 := by simp only [List.length_cons] at hd; omega
        simp (maxSteps := 4000000) (disch := first | decide | omega | exact ok_of (by kernel_rfl)) only [m5b0, V5, O5, nx5, own5, R5, hlt, i0, i1, j1, lt, lx, gt, gx, e1, e2, elemsOf, appE, elParts, List.replicate, List.set, h1, h2, hal, hcap, entry, enter, inst, List.length_cons, List.length_nil, List.map_cons, List.map_nil, Nat.reduceAdd, Nat.reduceMul, Nat.reduceLeDiff, Nat.reduceEqDiff, Nat.reduceLT, Mini.start, Run_seq, Run_skip, Run_block, Run_blk, Run_scope, Run_rg, Rg_cons, Rg_guard, RgG_bool, RgG_tup, RgB_true, RgB_false, RgV_some, Rg_nil, Run_ret, Run_cond, RunC_bool, RunB_true, RunB_false, dOp, DS.rd, DS.wr, look_hit, look_miss, look_nil, put, Option.getD_some, Option.getD_none, if_true, if_false, bytesOf, binV, isShift, binI, binS, unwind, Run_exitX, RunX_some, unV, lenV, eqV, Bool.false_eq_true, Bool.not_true, Bool.not_false, beq_self_eq_true, fin_some, leave, leaveOne, lend, lends, result, reduceCtorEq, MV.fit, MV.cells, loadV, loadCells, fieldV, offV, liveC, placeAll, setCells, live, liveS, indexV, cut, sliceV, storeV, and_true, true_and, and_self, Nat.zero_le, Int.reduceLE, Int.reduceLT, Int.reduceToNat, Int.reduceEq, Int.reduceNeg, Int.reduceMul, Int.reduceAdd, Int.reduceSub, Int.reduceDiv, Int.reduceMod, ne_eq, not_true_eq_false, not_false_eq_true, Bool.true_beq, Bool.false_beq, bne_self_eq_false, Int.reduceBNe, Int.reduceBEq, List.getElem?_cons_zero, List.getElem?_cons_succ, Option.map_some, asByte, List.all_nil, List.all_cons, MV.pureHead, List.isEmpty_nil, Int.cast_ofNat_Int, Nat.reducePow, Int.le_refl, Int.toNat_natCast, Nat.le_refl, decide_false, decide_true, decide_eq_true_eq, List.length_append, List.length_set, List.nil_append, List.cons_append, List.append_nil, Nat.zero_add, Nat.add_zero, Nat.mul_one, List.set_cons_zero, List.set_cons_succ, List.drop_zero, List.drop_succ_cons, List.take_succ_cons, List.take_zero, List.take_nil, appB, drop, byteParts, List.replicate, Option.map_none, shr8, shr8_128, asB, UInt8.ofNat_toNat, and8_1, and8_127, eq8_1, eq8_0, eq8, w64, w8, tdivE, tmodE, and8, or8, xor8, Run_rgd, Rd_nil, Rd_cons, Rd_guard, RdV_some, RdG_bool, RdG_tup, RdB_true, RdB_false, foot, loud, MOp.xs, MV.names2, MV.names, Obj.names, List.flatMap_cons, List.flatMap_nil, List.append_nil, List.nil_append, List.cons_append, optX, dCall_eq, CallV_some, instR, insts, MV.width]
        subst hb'
        refine ((congrArg (fin _) (Run_lp Q _ _ _ _)).trans ?_)
        rw [hr]
        exact congrArg (fin R5) (RunL_canon (canon_cong (Eq.trans (by kernel_rfl) (show [(1, MV.sl 1 (strs X)), (2, .int .i64 n), (3, .str s), (9, .own 0 (r.length + 1 + 1)), (48, .sl 1 (strs T)), (49, .int .i64 (T.length : Int)), (50, .int .i64 ((i : Int) + 1))] = V5 T X n s (a :: r ++ [(t, x)]) (i + 1 : Nat) from by rw [e]; simp [V5, own5]))
          (Eq.trans (by kernel_rfl) (show [(0, Obj.el 2 (attrs (a :: r) ++ [.agg [.str t, .str x]]) false)] = O5 (a :: r ++ [(t, x)]) from by simp [O5, attrs, attr])) (by kernel_rfl)))
    · rw [if_pos (by decide), RunL_eq, show Item.lp m5k0 m5b0 = Item.lp m5k0 b' by rw [hb']]
      simp (maxSteps := 4000000) (disch := first | decide | omega | exact ok_of (by kernel_rfl)) only [m5b0, V5, O5, nx5, own5, R5, hlt, i0, i1, j1, lt, lx, gt, gx, e1, e2, elemsOf, appE, elParts, List.replicate, List.set, h1, h2, entry, enter, inst, List.length_cons, List.length_nil, List.map_cons, List.map_nil, Nat.reduceAdd, Nat.reduceMul, Nat.reduceLeDiff, Nat.reduceEqDiff, Nat.reduceLT, Mini.start, Run_seq, Run_skip, Run_block, Run_blk, Run_scope, Run_rg, Rg_cons, Rg_guard, RgG_bool, RgG_tup, RgB_true, RgB_false, RgV_some, Rg_nil, Run_ret, Run_cond, RunC_bool, RunB_true, RunB_false, dOp, DS.rd, DS.wr, look_hit, look_miss, look_nil, put, Option.getD_some, Option.getD_none, if_true, if_false, bytesOf, binV, isShift, binI, binS, unwind, Run_exitX, RunX_some, unV, lenV, eqV, Bool.false_eq_true, Bool.not_true, Bool.not_false, beq_self_eq_true, fin_some, leave, leaveOne, lend, lends, result, reduceCtorEq, MV.fit, MV.cells, loadV, loadCells, fieldV, offV, liveC, placeAll, setCells, live, liveS, indexV, cut, sliceV, storeV, and_true, true_and, and_self, Nat.zero_le, Int.reduceLE, Int.reduceLT, Int.reduceToNat, Int.reduceEq, Int.reduceNeg, Int.reduceMul, Int.reduceAdd, Int.reduceSub, Int.reduceDiv, Int.reduceMod, ne_eq, not_true_eq_false, not_false_eq_true, Bool.true_beq, Bool.false_beq, bne_self_eq_false, Int.reduceBNe, Int.reduceBEq, List.getElem?_cons_zero, List.getElem?_cons_succ, Option.map_some, asByte, List.all_nil, List.all_cons, MV.pureHead, List.isEmpty_nil, Int.cast_ofNat_Int, Nat.reducePow, Int.le_refl, Int.toNat_natCast, Nat.le_refl, decide_false, decide_true, decide_eq_true_eq, List.length_append, List.length_set, List.nil_append, List.cons_append, List.append_nil, Nat.zero_add, Nat.add_zero, Nat.mul_one, List.set_cons_zero, List.set_cons_succ, List.drop_zero, List.drop_succ_cons, List.take_succ_cons, List.take_zero, List.take_nil, appB, drop, byteParts, List.replicate, Option.map_none, shr8, shr8_128, asB, UInt8.ofNat_toNat, and8_1, and8_127, eq8_1, eq8_0, eq8, w64, w8, tdivE, tmodE, and8, or8, xor8, Run_rgd, Rd_nil, Rd_cons, Rd_guard, RdV_some, RdG_bool, RdG_tup, RdB_true, RdB_false, foot, loud, MOp.xs, MV.names2, MV.names, Obj.names, List.flatMap_cons, List.flatMap_nil, List.append_nil, List.nil_append, List.cons_append, optX, dCall_eq, CallV_some, instR, insts, MV.width]
  · rw [Bool.true_or, if_pos rfl, RunL_eq, show Item.lp m5k0 m5b0 = Item.lp m5k0 b' by rw [hb']]
    simp (maxSteps := 4000000) (disch := first | decide | omega | exact ok_of (by kernel_rfl)) only [m5b0, V5, O5, nx5, own5, R5, hlt, i0, i1, j1, lt, lx, gt, gx, e1, e2, elemsOf, appE, elParts, List.replicate, List.set, h1, entry, enter, inst, List.length_cons, List.length_nil, List.map_cons, List.map_nil, Nat.reduceAdd, Nat.reduceMul, Nat.reduceLeDiff, Nat.reduceEqDiff, Nat.reduceLT, Mini.start, Run_seq, Run_skip, Run_block, Run_blk, Run_scope, Run_rg, Rg_cons, Rg_guard, RgG_bool, RgG_tup, RgB_true, RgB_false, RgV_some, Rg_nil, Run_ret, Run_cond, RunC_bool, RunB_true, RunB_false, dOp, DS.rd, DS.wr, look_hit, look_miss, look_nil, put, Option.getD_some, Option.getD_none, if_true, if_false, bytesOf, binV, isShift, binI, binS, unwind, Run_exitX, RunX_some, unV, lenV, eqV, Bool.false_eq_true, Bool.not_true, Bool.not_false, beq_self_eq_true, fin_some, leave, leaveOne, lend, lends, result, reduceCtorEq, MV.fit, MV.cells, loadV, loadCells, fieldV, offV, liveC, placeAll, setCells, live, liveS, indexV, cut, sliceV, storeV, and_true, true_and, and_self, Nat.zero_le, Int.reduceLE, Int.reduceLT, Int.reduceToNat, Int.reduceEq, Int.reduceNeg, Int.reduceMul, Int.reduceAdd, Int.reduceSub, Int.reduceDiv, Int.reduceMod, ne_eq, not_true_eq_false, not_false_eq_true, Bool.true_beq, Bool.false_beq, bne_self_eq_false, Int.reduceBNe, Int.reduceBEq, List.getElem?_cons_zero, List.getElem?_cons_succ, Option.map_some, asByte, List.all_nil, List.all_cons, MV.pureHead, List.isEmpty_nil, Int.cast_ofNat_Int, Nat.reducePow, Int.le_refl, Int.toNat_natCast, Nat.le_refl, decide_false, decide_true, decide_eq_true_eq, List.length_append, List.length_set, List.nil_append, List.cons_append, List.append_nil, Nat.zero_add, Nat.add_zero, Nat.mul_one, List.set_cons_zero, List.set_cons_succ, List.drop_zero, List.drop_succ_cons, List.take_succ_cons, List.take_zero, List.take_nil, appB, drop, byteParts, List.replicate, Option.map_none, shr8, shr8_128, asB, UInt8.ofNat_toNat, and8_1, and8_127, eq8_1, eq8_0, eq8, w64, w8, tdivE, tmodE, and8, or8, xor8, Run_rgd, Rd_nil, Rd_cons, Rd_guard, RdV_some, RdG_bool, RdG_tup, RdB_true, RdB_false, foot, loud, MOp.xs, MV.names2, MV.names, Obj.names, List.flatMap_cons, List.flatMap_nil, List.append_nil, List.nil_append, List.cons_append, optX, dCall_eq, CallV_some, instR, insts, MV.width]

theorem c5_loop (T X : List (List UInt8)) (n : Int) (s : List UInt8) (hl : T.length ≤ 10) : ∀ (tr xr : List (List UInt8)) (d : Dn) (i : Nat), T.drop i = tr → X.drop i = xr → i + tr.length = T.length → tr.length ≤ xr.length → d.length = i →
    ∃ b : Bool, (b = false → ∀ a ∈ tr.zip xr, a.1.length ≤ 100 ∧ a.2.length ≤ 100) ∧
    ∀ K, fin R5 (RunL Q m5k0 m5b0 (.blk 0 :: K) ⟨V5 T X n s d i, [], O5 d, nx5 d⟩) = if b = true then some (.bool true) else fin R5 (Run Q K ⟨(51, .bool false) :: V5 T X n s (d ++ tr.zip xr) T.length, [], O5 (d ++ tr.zip xr), nx5 (d ++ tr.zip xr) + 4⟩)
  | [], xr, d, i, ht, hx, hi, _, hd => by
    have hi' : i = T.length := by simpa using hi
    subst hi'
    refine ⟨false, fun _ => by simp, fun K => ?_⟩
    rw [c5_end T X n s d K, if_neg (by decide), List.zip_nil_left, List.append_nil]
  | t :: tr, [], d, i, ht, hx, hi, h, hd => by simp at h
  | t :: tr, x :: xr, d, i, ht, hx, hi, h, hd => by
    simp only [List.length_cons] at hi h
    have gT : T[i]? = some t := by
      have := congrArg (·[0]?) ht
      simpa [List.getElem?_drop] using this
    have gX : X[i]? = some x := by
      have := congrArg (·[0]?) hx
      simpa [List.getElem?_drop] using this
    have dT : T.drop (i + 1) = tr := by
      have := congrArg (List.drop 1) ht
      simpa [List.drop_drop] using this
    have dX : X.drop (i + 1) = xr := by
      have := congrArg (List.drop 1) hx
      simpa [List.drop_drop] using this
    have st := c5_step T X n s d (by omega) i t x gT gX hl
    by_cases hc : (decide (100 < t.length) || decide (100 < x.length)) = true
    · exact ⟨true, (fun h => by cases h), fun K => by rw [st, if_pos hc, if_pos rfl]⟩
    · obtain ⟨b, b1, b2⟩ := c5_loop T X n s hl tr xr (d ++ [(t, x)]) (i + 1) dT dX (by omega) (by omega) (by simp [hd])
      refine ⟨b, fun hb a ha => ?_, fun K => ?_⟩
      · rw [List.zip_cons_cons] at ha
        rcases List.mem_cons.1 ha with rfl | ha
        · simp at hc; exact hc
        · exact b1 hb a ha
      · rw [st, if_neg hc, b2]
        simp only [List.zip_cons_cons, List.append_assoc, List.cons_append, List.nil_append]
end Go.Mini
