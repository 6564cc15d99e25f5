/- DNs over Mini: as values. -/
import Derived.Test.YtncpjcojnjbhlaaGreatDoorE0
namespace Go.Mini
open Go Go.Proofs.YtncpjcojnjbhlaaGreatDoor
set_option maxRecDepth 10000
set_option maxHeartbeats 4000000
set_option linter.unusedSimpArgs false

/-- A value: class, tag, whether made, bytes, kids. -/
def tagOf (s : List UInt8) : Int := if s.all printB then 19 else 12
def oidV (out : List UInt8) : MV := .agg [.int .i64 0, .int .i64 6, .bool false, .bs out, .nilsl]
def textV (s : List UInt8) : MV := .agg [.int .i64 0, .int .i64 (tagOf s), .bool false, .bs s, .nilsl]
def pairV (out s : List UInt8) : MV := .agg [.int .i64 0, .int .i64 16, .bool true, .nilsl, .sl 5 [oidV out, textV s]]
def kidV (out s : List UInt8) : MV := .agg [.int .i64 0, .int .i64 17, .bool true, .nilsl, .sl 5 [pairV out s]]
def kidsV : Dn → Option (List MV)
  | [] => some []
  | a :: r => match oidS a.1, kidsV r with
    | some out, some l => some (kidV out a.2 :: l)
    | _, _ => none
def R19 : List (Nat × Option (Bool × Nat) × PK) := [(2, some (true, 5), .other), (3, none, .other)]
def err5 (e : Int) : MV := .tup [.agg zero5, .int .i64 e]
def V19 (d : Dn) (i : Int) : List (Nat × MV) := [(0, .sl 2 (attrs d)), (2, .ptr 0 0), (4, .ptr 1 0), (15, .sl 2 (attrs d)), (16, .int .i64 (d.length : Int)), (17, .int .i64 i)]
def O19 : List MV → List (Nat × Obj)
  | [] => [(0, .cells zero5), (1, .cells [.int .i64 0, .int .i64 16, .bool true, .nilsl, .nilsl])]
  | k :: ks => [(0, .cells zero5), (1, .cells [.int .i64 0, .int .i64 16, .bool true, .nilsl, .own 2 (ks.length + 1)]), (2, .el 5 (k :: ks) false)]
def nx19 : List MV → Nat
  | [] => 3
  | _ => 4

theorem c19_step (d : Dn) (hd : d.length ≤ 16) (hl : okLens d) (ks : List MV) (hk : ks.length ≤ 16) (i : Nat) (a : List UInt8 × List UInt8) (hg : d[i]? = some a) (K : List Item) :
    fin R19 (RunL Q m19k0 m19b0 (.blk 0 :: K) ⟨V19 d i, [], O19 ks, nx19 ks⟩) = match oidS a.1 with
      | some out => fin R19 (RunL Q m19k0 m19b0 (.blk 0 :: K) ⟨V19 d (i + 1 : Nat), [], O19 (ks ++ [kidV out a.2]), nx19 (ks ++ [kidV out a.2])⟩)
      | none => some (err5 30) := by
  have hi : i < d.length := (List.getElem?_eq_some_iff.1 hg).1
  have hlt : decide ((i : Int) < (d.length : Int)) = true := by simp; omega
  have i0 : (0 : Int) ≤ (i : Int) := by omega
  have i1 : (i : Int) < (d.length : Int) := by omega
  have hal := attrs_length d
  have hg' := attrs_get hg
  have lens := hl.2 a (List.mem_of_getElem? hg)
  have ho := c53 a.1 lens.1
  have ht := c47 a.2 lens.2
  have htag : (if a.2.all printB = true then (19 : Int) else 12) = tagOf a.2 := rfl
  rw [htag] at ht
  have e : ((i : Int) + 1) = ((i + 1 : Nat) : Int) := by omega
  obtain ⟨b', hb'⟩ : ∃ b', b' = m19b0 := ⟨_, rfl⟩
  cases hx : oidS a.1 with
  | none =>
    rw [hx] at ho
    rw [RunL_eq, show Item.lp m19k0 m19b0 = Item.lp m19k0 b' by rw [hb']]
    cases ks with
    | nil =>
      simp (maxSteps := 4000000) (disch := first | decide | omega | exact ok_of (by kernel_rfl)) only [m19b0, V19, O19, nx19, R19, zero5, err5, hlt, i0, i1, hal, hg', ho, ht, ans53, bad53, entry, enter, inst, List.length_cons, List.length_nil, List.map_cons, List.map_nil, Nat.reduceAdd, Nat.reduceMul, Nat.reduceLeDiff, Nat.reduceEqDiff, Nat.reduceLT, Mini.start, Run_seq, Run_skip, Run_block, Run_blk, Run_scope, Run_rg, Rg_cons, Rg_guard, RgG_bool, RgG_tup, RgB_true, RgB_false, RgV_some, Rg_nil, Run_ret, Run_cond, RunC_bool, RunB_true, RunB_false, dOp, DS.rd, DS.wr, look_hit, look_miss, look_nil, put, Option.getD_some, Option.getD_none, if_true, if_false, bytesOf, binV, isShift, binI, binS, unwind, Run_exitX, RunX_some, unV, lenV, eqV, Bool.false_eq_true, Bool.not_true, Bool.not_false, beq_self_eq_true, fin_some, leave, leaveOne, lend, lends, result, reduceCtorEq, MV.fit, MV.cells, loadV, loadCells, fieldV, offV, liveC, placeAll, setCells, live, liveS, indexV, cut, sliceV, storeV, and_true, true_and, and_self, Nat.zero_le, Int.reduceLE, Int.reduceLT, Int.reduceToNat, Int.reduceEq, Int.reduceNeg, Int.reduceMul, Int.reduceAdd, Int.reduceSub, Int.reduceDiv, Int.reduceMod, ne_eq, not_true_eq_false, not_false_eq_true, Bool.true_beq, Bool.false_beq, bne_self_eq_false, Int.reduceBNe, Int.reduceBEq, List.getElem?_cons_zero, List.getElem?_cons_succ, Option.map_some, asByte, List.all_nil, List.all_cons, MV.pureHead, List.isEmpty_nil, Int.cast_ofNat_Int, Nat.reducePow, Int.le_refl, Int.toNat_natCast, Nat.le_refl, decide_false, decide_true, decide_eq_true_eq, List.length_append, List.length_set, List.nil_append, List.cons_append, List.append_nil, Nat.zero_add, Nat.add_zero, Nat.mul_one, List.set_cons_zero, List.set_cons_succ, List.drop_zero, List.drop_succ_cons, List.take_succ_cons, List.take_zero, List.take_nil, appB, drop, byteParts, List.replicate, Option.map_none, shr8, shr8_128, asB, UInt8.ofNat_toNat, and8_1, and8_127, eq8_1, eq8_0, eq8, w64, w8, tdivE, tmodE, and8, or8, xor8, Run_rgd, Rd_nil, Rd_cons, Rd_guard, RdV_some, RdG_bool, RdG_tup, RdB_true, RdB_false, foot, loud, MOp.xs, MV.names2, MV.names, Obj.names, List.flatMap_cons, List.flatMap_nil, List.append_nil, List.nil_append, List.cons_append, optX, dCall_eq, CallV_some, instR, insts, MV.width]
    | cons k ks =>
      simp (maxSteps := 4000000) (disch := first | decide | omega | exact ok_of (by kernel_rfl)) only [m19b0, V19, O19, nx19, R19, zero5, err5, hlt, i0, i1, hal, hg', ho, ht, ans53, bad53, entry, enter, inst, List.length_cons, List.length_nil, List.map_cons, List.map_nil, Nat.reduceAdd, Nat.reduceMul, Nat.reduceLeDiff, Nat.reduceEqDiff, Nat.reduceLT, Mini.start, Run_seq, Run_skip, Run_block, Run_blk, Run_scope, Run_rg, Rg_cons, Rg_guard, RgG_bool, RgG_tup, RgB_true, RgB_false, RgV_some, Rg_nil, Run_ret, Run_cond, RunC_bool, RunB_true, RunB_false, dOp, DS.rd, DS.wr, look_hit, look_miss, look_nil, put, Option.getD_some, Option.getD_none, if_true, if_false, bytesOf, binV, isShift, binI, binS, unwind, Run_exitX, RunX_some, unV, lenV, eqV, Bool.false_eq_true, Bool.not_true, Bool.not_false, beq_self_eq_true, fin_some, leave, leaveOne, lend, lends, result, reduceCtorEq, MV.fit, MV.cells, loadV, loadCells, fieldV, offV, liveC, placeAll, setCells, live, liveS, indexV, cut, sliceV, storeV, and_true, true_and, and_self, Nat.zero_le, Int.reduceLE, Int.reduceLT, Int.reduceToNat, Int.reduceEq, Int.reduceNeg, Int.reduceMul, Int.reduceAdd, Int.reduceSub, Int.reduceDiv, Int.reduceMod, ne_eq, not_true_eq_false, not_false_eq_true, Bool.true_beq, Bool.false_beq, bne_self_eq_false, Int.reduceBNe, Int.reduceBEq, List.getElem?_cons_zero, List.getElem?_cons_succ, Option.map_some, asByte, List.all_nil, List.all_cons, MV.pureHead, List.isEmpty_nil, Int.cast_ofNat_Int, Nat.reducePow, Int.le_refl, Int.toNat_natCast, Nat.le_refl, decide_false, decide_true, decide_eq_true_eq, List.length_append, List.length_set, List.nil_append, List.cons_append, List.append_nil, Nat.zero_add, Nat.add_zero, Nat.mul_one, List.set_cons_zero, List.set_cons_succ, List.drop_zero, List.drop_succ_cons, List.take_succ_cons, List.take_zero, List.take_nil, appB, drop, byteParts, List.replicate, Option.map_none, shr8, shr8_128, asB, UInt8.ofNat_toNat, and8_1, and8_127, eq8_1, eq8_0, eq8, w64, w8, tdivE, tmodE, and8, or8, xor8, Run_rgd, Rd_nil, Rd_cons, Rd_guard, RdV_some, RdG_bool, RdG_tup, RdB_true, RdB_false, foot, loud, MOp.xs, MV.names2, MV.names, Obj.names, List.flatMap_cons, List.flatMap_nil, List.append_nil, List.nil_append, List.cons_append, optX, dCall_eq, CallV_some, instR, insts, MV.width]
  | some out =>
    rw [hx] at ho
    obtain ⟨rhs, hr⟩ : ∃ x, x = fin R19 (RunL Q m19k0 m19b0 (.blk 0 :: K) ⟨V19 d (i + 1 : Nat), [], O19 (ks ++ [kidV out a.2]), nx19 (ks ++ [kidV out a.2])⟩) := ⟨_, rfl⟩
    show _ = fin R19 (RunL Q m19k0 m19b0 (.blk 0 :: K) ⟨V19 d (i + 1 : Nat), [], O19 (ks ++ [kidV out a.2]), nx19 (ks ++ [kidV out a.2])⟩)
    rw [← hr, RunL_eq, show Item.lp m19k0 m19b0 = Item.lp m19k0 b' by rw [hb']]
    cases ks with
    | nil =>
      simp (maxSteps := 4000000) (disch := first | decide | omega | exact ok_of (by kernel_rfl)) only [m19b0, V19, O19, nx19, R19, zero5, err5, hlt, i0, i1, hal, hg', ho, ht, ans53, good53, elemsOf, appE, elParts, List.replicate, List.set, entry, enter, inst, List.length_cons, List.length_nil, List.map_cons, List.map_nil, Nat.reduceAdd, Nat.reduceMul, Nat.reduceLeDiff, Nat.reduceEqDiff, Nat.reduceLT, Mini.start, Run_seq, Run_skip, Run_block, Run_blk, Run_scope, Run_rg, Rg_cons, Rg_guard, RgG_bool, RgG_tup, RgB_true, RgB_false, RgV_some, Rg_nil, Run_ret, Run_cond, RunC_bool, RunB_true, RunB_false, dOp, DS.rd, DS.wr, look_hit, look_miss, look_nil, put, Option.getD_some, Option.getD_none, if_true, if_false, bytesOf, binV, isShift, binI, binS, unwind, Run_exitX, RunX_some, unV, lenV, eqV, Bool.false_eq_true, Bool.not_true, Bool.not_false, beq_self_eq_true, fin_some, leave, leaveOne, lend, lends, result, reduceCtorEq, MV.fit, MV.cells, loadV, loadCells, fieldV, offV, liveC, placeAll, setCells, live, liveS, indexV, cut, sliceV, storeV, and_true, true_and, and_self, Nat.zero_le, Int.reduceLE, Int.reduceLT, Int.reduceToNat, Int.reduceEq, Int.reduceNeg, Int.reduceMul, Int.reduceAdd, Int.reduceSub, Int.reduceDiv, Int.reduceMod, ne_eq, not_true_eq_false, not_false_eq_true, Bool.true_beq, Bool.false_beq, bne_self_eq_false, Int.reduceBNe, Int.reduceBEq, List.getElem?_cons_zero, List.getElem?_cons_succ, Option.map_some, asByte, List.all_nil, List.all_cons, MV.pureHead, List.isEmpty_nil, Int.cast_ofNat_Int, Nat.reducePow, Int.le_refl, Int.toNat_natCast, Nat.le_refl, decide_false, decide_true, decide_eq_true_eq, List.length_append, List.length_set, List.nil_append, List.cons_append, List.append_nil, Nat.zero_add, Nat.add_zero, Nat.mul_one, List.set_cons_zero, List.set_cons_succ, List.drop_zero, List.drop_succ_cons, List.take_succ_cons, List.take_zero, List.take_nil, appB, drop, byteParts, List.replicate, Option.map_none, shr8, shr8_128, asB, UInt8.ofNat_toNat, and8_1, and8_127, eq8_1, eq8_0, eq8, w64, w8, tdivE, tmodE, and8, or8, xor8, Run_rgd, Rd_nil, Rd_cons, Rd_guard, RdV_some, RdG_bool, RdG_tup, RdB_true, RdB_false, foot, loud, MOp.xs, MV.names2, MV.names, Obj.names, List.flatMap_cons, List.flatMap_nil, List.append_nil, List.nil_append, List.cons_append, optX, dCall_eq, CallV_some, instR, insts, MV.width]
      subst hb'
      refine ((congrArg (fin _) (Run_lp Q _ _ _ _)).trans ?_)
      rw [hr]
      exact congrArg (fin R19) (RunL_canon (canon_cong (Eq.trans (by kernel_rfl) (show [(0, MV.sl 2 (attrs d)), (2, .ptr 0 0), (4, .ptr 1 0), (15, .sl 2 (attrs d)), (16, .int .i64 (d.length : Int)), (17, .int .i64 ((i : Int) + 1))] = V19 d (i + 1 : Nat) from by rw [e]; rfl)) (by kernel_rfl) (by kernel_rfl)))
    | cons k ks =>
      have hcap : (ks.length + 1 + 1) * 72 ≤ 2 ^ 47 := by simp only [List.length_cons] at hk; omega
      simp (maxSteps := 4000000) (disch := first | decide | omega | exact ok_of (by kernel_rfl)) only [m19b0, V19, O19, nx19, R19, zero5, err5, hlt, i0, i1, hal, hg', ho, ht, ans53, good53, hcap, elemsOf, appE, elParts, List.replicate, List.set, entry, enter, inst, List.length_cons, List.length_nil, List.map_cons, List.map_nil, Nat.reduceAdd, Nat.reduceMul, Nat.reduceLeDiff, Nat.reduceEqDiff, Nat.reduceLT, Mini.start, Run_seq, Run_skip, Run_block, Run_blk, Run_scope, Run_rg, Rg_cons, Rg_guard, RgG_bool, RgG_tup, RgB_true, RgB_false, RgV_some, Rg_nil, Run_ret, Run_cond, RunC_bool, RunB_true, RunB_false, dOp, DS.rd, DS.wr, look_hit, look_miss, look_nil, put, Option.getD_some, Option.getD_none, if_true, if_false, bytesOf, binV, isShift, binI, binS, unwind, Run_exitX, RunX_some, unV, lenV, eqV, Bool.false_eq_true, Bool.not_true, Bool.not_false, beq_self_eq_true, fin_some, leave, leaveOne, lend, lends, result, reduceCtorEq, MV.fit, MV.cells, loadV, loadCells, fieldV, offV, liveC, placeAll, setCells, live, liveS, indexV, cut, sliceV, storeV, and_true, true_and, and_self, Nat.zero_le, Int.reduceLE, Int.reduceLT, Int.reduceToNat, Int.reduceEq, Int.reduceNeg, Int.reduceMul, Int.reduceAdd, Int.reduceSub, Int.reduceDiv, Int.reduceMod, ne_eq, not_true_eq_false, not_false_eq_true, Bool.true_beq, Bool.false_beq, bne_self_eq_false, Int.reduceBNe, Int.reduceBEq, List.getElem?_cons_zero, List.getElem?_cons_succ, Option.map_some, asByte, List.all_nil, List.all_cons, MV.pureHead, List.isEmpty_nil, Int.cast_ofNat_Int, Nat.reducePow, Int.le_refl, Int.toNat_natCast, Nat.le_refl, decide_false, decide_true, decide_eq_true_eq, List.length_append, List.length_set, List.nil_append, List.cons_append, List.append_nil, Nat.zero_add, Nat.add_zero, Nat.mul_one, List.set_cons_zero, List.set_cons_succ, List.drop_zero, List.drop_succ_cons, List.take_succ_cons, List.take_zero, List.take_nil, appB, drop, byteParts, List.replicate, Option.map_none, shr8, shr8_128, asB, UInt8.ofNat_toNat, and8_1, and8_127, eq8_1, eq8_0, eq8, w64, w8, tdivE, tmodE, and8, or8, xor8, Run_rgd, Rd_nil, Rd_cons, Rd_guard, RdV_some, RdG_bool, RdG_tup, RdB_true, RdB_false, foot, loud, MOp.xs, MV.names2, MV.names, Obj.names, List.flatMap_cons, List.flatMap_nil, List.append_nil, List.nil_append, List.cons_append, optX, dCall_eq, CallV_some, instR, insts, MV.width]
      subst hb'
      refine ((congrArg (fin _) (Run_lp Q _ _ _ _)).trans ?_)
      rw [hr]
      exact congrArg (fin R19) (RunL_canon (canon_cong (Eq.trans (by kernel_rfl) (show [(0, MV.sl 2 (attrs d)), (2, .ptr 0 0), (4, .ptr 1 0), (15, .sl 2 (attrs d)), (16, .int .i64 (d.length : Int)), (17, .int .i64 ((i : Int) + 1))] = V19 d (i + 1 : Nat) from by rw [e]; rfl))
        (Eq.trans (by kernel_rfl) (show [(0, Obj.cells zero5), (1, .cells [.int .i64 0, .int .i64 16, .bool true, .nilsl, .own 2 (ks.length + 1 + 1)]), (2, .el 5 (k :: (ks ++ [kidV out a.2])) false)] = O19 (k :: ks ++ [kidV out a.2]) from by simp [O19])) (by kernel_rfl)))
end Go.Mini
