/- The net's law over Mini: what each function answers. -/
import Derived.Test.YtncpjcojnjbhlaaGreatDoorP

namespace Go.Mini
open Go Go.Proofs.YtncpjcojnjbhlaaGreatDoor
set_option maxRecDepth 10000
set_option linter.unusedSimpArgs false

theorem c34 (a b : List UInt8) : Call Q 34 [.bs a, .bs b] = some (.bool (a == b)) := by
  rw [Call_fn Q (m := m34) rfl rfl]
  simp (maxSteps := 1000000) (disch := first | decide | omega | exact ok_of (by kernel_rfl)) only [m34, List.length_cons, List.length_nil, List.map_cons, List.map_nil, Nat.reduceAdd, Nat.reduceMul, Nat.reduceLeDiff, Nat.reduceEqDiff, Nat.reduceLT, Run_seq, Run_skip, Run_block, Run_blk, Run_scope, Run_rg, Rg_cons, Rg_guard, RgG_bool, RgG_tup, RgB_true, RgB_false, RgV_some, Rg_nil, Run_ret, Run_cond, RunC_bool, RunB_true, RunB_false, look_hit, look_miss, look_nil, Option.getD_some, Option.getD_none, if_true, if_false, Run_exitX, RunX_some, Bool.false_eq_true, Bool.not_true, Bool.not_false, beq_self_eq_true, fin_some, reduceCtorEq, cut, and_true, true_and, and_self, Nat.zero_le, Int.reduceLE, Int.reduceLT, Int.reduceToNat, Int.reduceEq, Int.reduceNeg, Int.reduceMul, Int.reduceAdd, Int.reduceSub, ne_eq, not_true_eq_false, not_false_eq_true, Bool.true_beq, Bool.false_beq, bne_self_eq_false, Int.reduceBNe, Int.reduceBEq, List.getElem?_cons_zero, List.getElem?_cons_succ, Option.map_some, decide_false, decide_true, decide_eq_true_eq, List.length_append, List.length_set, List.nil_append, List.append_nil, Nat.zero_add, Nat.add_zero, Nat.mul_one, List.set_cons_zero, List.set_cons_succ, List.drop_zero, List.drop_succ_cons, List.take_succ_cons, List.take_zero, List.take_nil, Option.map_none, bD.u]
end Go.Mini
