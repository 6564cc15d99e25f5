/- The law NameBelow over Mini. -/
import Derived.Test.YtncpjcojnjbhlaaGreatDoorF0
namespace Go.Mini
open Go Go.Proofs.YtncpjcojnjbhlaaGreatDoor
set_option maxRecDepth 10000
set_option maxHeartbeats 4000000
set_option linter.unusedSimpArgs false

/-! ### The plain law -/
theorem kidsV_take : ∀ (d : Dn) (n : Nat), kidsV d ≠ none → kidsV (d.take n) ≠ none
  | [], n, h => by simpa using h
  | a :: r, 0, h => by intro hh; cases hh
  | a :: r, n + 1, h => by
    rw [List.take_succ_cons, kidsV_cons]
    rw [kidsV_cons] at h
    cases ho : oidS a.1 with
    | none => rw [ho] at h; exact (h rfl).elim
    | some out =>
      rw [ho] at h
      cases hk : kidsV r with
      | none => rw [hk] at h; exact (h rfl).elim
      | some l =>
        have := kidsV_take r n (by rw [hk]; intro hh; cases hh)
        cases hk2 : kidsV (r.take n) with
        | none => exact (this hk2).elim
        | some l2 => intro hh; cases hh

theorem dnE_zero {d : Dn} (h : dnE d = 0) : d.length ≤ 16 ∧ kidsV d ≠ none ∧ (d.any fun a => !textB a.2) = false := by
  unfold dnE at h
  split at h
  · cases h
  · rename_i h1
    split at h
    · cases h
    · rename_i l hk
      split at h
      · cases h
      · rename_i h2
        exact ⟨by omega, (by rw [hk]; intro hh; cases hh), by simpa using h2⟩
theorem dnE_take {d : Dn} (h : dnE d = 0) (n : Nat) : dnE (d.take n) = 0 := by
  obtain ⟨h1, h2, h3⟩ := dnE_zero h
  have h4 := kidsV_take d n h2
  have h5 : ((d.take n).any fun a => !textB a.2) = false := by
    rw [List.any_eq_false] at h3 ⊢
    intro x hx
    exact h3 x (List.mem_of_mem_take hx)
  unfold dnE
  rw [if_neg (by rw [List.length_take]; omega)]
  cases hk : kidsV (d.take n) with
  | none => exact (h4 hk).elim
  | some l => simp only [h5]; rfl
theorem within_bad {d : Dn} (h : genE d false ≠ 0) : withinB d d = false := by
  unfold withinB
  rw [decide_eq_false h, Bool.false_and, Bool.false_and, Bool.false_and]
theorem within_take {d : Dn} (h : genE d false = 0) {n : Nat} (hn : n ≤ d.length) : withinB d (d.take n) = true := by
  have h1 : dnE d = 0 := by
    rcases dnE_or d with h0 | h0 | h0
    · exact h0
    · unfold genE at h; rw [h0, if_neg (by decide)] at h; cases h
    · unfold genE at h; rw [h0, if_neg (by decide)] at h; cases h
  have hl : (d.take n).length = n := by rw [List.length_take]; omega
  have h2 : genE (d.take n) true = 0 := by unfold genE; rw [dnE_take h1, if_pos rfl, Bool.true_or, if_pos rfl]
  unfold withinB
  rw [h2, h, hl, decide_eq_true (p := n ≤ d.length) hn, decide_eq_true (p := List.take n d = List.take n d) rfl]
  rfl
theorem within_other {d : Dn} {n : Nat} (a : List UInt8 × List UInt8) (s : List UInt8) (hn : n < d.length) (hg : d[n]? = some a) (hs : s ≠ a.2) : withinB d ((d.take (n + 1)).set n (a.1, s)) = false := by
  have hl : ((d.take (n + 1)).set n (a.1, s)).length = n + 1 := by rw [List.length_set, List.length_take]; omega
  have : ¬ d.take (n + 1) = (d.take (n + 1)).set n (a.1, s) := by
    intro h
    have h1 := congrArg (·[n]?) h
    simp only [List.getElem?_take, List.getElem?_set] at h1
    rw [if_pos (by omega), if_pos trivial, if_pos (by rw [List.length_take]; omega), hg] at h1
    injection h1 with h1
    exact hs (congrArg Prod.snd h1).symm
  unfold withinB
  rw [hl, decide_eq_false this, Bool.and_false]

/-! ### The law -/
theorem c5_main (T X : List (List UInt8)) (k : Nat) (s : List UInt8) (h1 : 1 ≤ T.length) (h2 : T.length ≤ 10) (h3 : T.length ≤ X.length) (h4 : k ≤ T.length) (h5 : s.length ≤ 100) :
    Call Q 5 [.sl 1 (strs T), .sl 1 (strs X), .int .i64 (k : Int), .str s] = some (.bool true) := by
  have lt := strs_length T
  have lx := strs_length X
  have f1 : decide ((T.length : Int) < 1) = false := by simp; omega
  have f2 : decide (10 < (T.length : Int)) = false := by simp; omega
  have f3 : decide ((X.length : Int) < (T.length : Int)) = false := by simp; omega
  have f4 : decide ((k : Int) < 0) = false := by simp
  have f5 : decide ((T.length : Int) < (k : Int)) = false := by simp; omega
  have f6 : decide (100 < (s.length : Int)) = false := by simp; omega
  obtain ⟨b, b1, b2⟩ := c5_loop T X (k : Int) s h2 T X [] 0 rfl rfl (by omega) h3 rfl
  rw [Call_fn Q (m := m5) rfl rfl]
  simp (maxSteps := 4000000) (disch := first | decide | omega | exact ok_of (by kernel_rfl)) only [m5, anchor_true, Run_loop, lt, lx, f1, f2, f3, f4, f5, f6, entry, enter, inst, List.length_cons, List.length_nil, List.map_cons, List.map_nil, Nat.reduceAdd, Nat.reduceMul, Nat.reduceLeDiff, Nat.reduceEqDiff, Nat.reduceLT, Mini.start, Run_seq, Run_skip, Run_block, Run_blk, Run_scope, Run_rg, Rg_cons, Rg_guard, RgG_bool, RgG_tup, RgB_true, RgB_false, RgV_some, Rg_nil, Run_ret, Run_cond, RunC_bool, RunB_true, RunB_false, dOp, DS.rd, DS.wr, look_hit, look_miss, look_nil, put, Option.getD_some, Option.getD_none, if_true, if_false, bytesOf, binV, isShift, binI, binS, unwind, Run_exitX, RunX_some, unV, lenV, eqV, Bool.false_eq_true, Bool.not_true, Bool.not_false, beq_self_eq_true, fin_some, leave, leaveOne, lend, lends, result, reduceCtorEq, MV.fit, MV.cells, loadV, loadCells, fieldV, offV, liveC, placeAll, setCells, live, liveS, indexV, sliceV, storeV, and_true, true_and, and_self, Nat.zero_le, Int.reduceLE, Int.reduceLT, Int.reduceToNat, Int.reduceEq, Int.reduceNeg, Int.reduceMul, Int.reduceAdd, Int.reduceSub, Int.reduceDiv, Int.reduceMod, ne_eq, not_true_eq_false, not_false_eq_true, Bool.true_beq, Bool.false_beq, bne_self_eq_false, Int.reduceBNe, Int.reduceBEq, List.getElem?_cons_zero, List.getElem?_cons_succ, Option.map_some, asByte, List.all_nil, List.all_cons, MV.pureHead, List.isEmpty_nil, Int.cast_ofNat_Int, Nat.reducePow, Int.le_refl, Int.toNat_natCast, Nat.le_refl, decide_false, decide_true, decide_eq_true_eq, List.length_append, List.length_set, List.nil_append, List.cons_append, List.append_nil, Nat.zero_add, Nat.add_zero, Nat.mul_one, List.set_cons_zero, List.set_cons_succ, List.drop_zero, List.drop_succ_cons, List.take_succ_cons, List.take_zero, List.take_nil, appB, drop, byteParts, List.replicate, Option.map_none, shr8, shr8_128, asB, UInt8.ofNat_toNat, and8_1, and8_127, eq8_1, eq8_0, eq8, w64, w8, tdivE, tmodE, and8, or8, xor8, Run_rgd, Rd_nil, Rd_cons, Rd_guard, RdV_some, RdG_bool, RdG_tup, RdB_true, RdB_false, foot, loud, MOp.xs, MV.names2, MV.names, Obj.names, List.flatMap_cons, List.flatMap_nil, List.append_nil, List.nil_append, List.cons_append, optX, dCall_eq, CallV_some, instR, insts, MV.width]
  refine (congrArg (fin _) (RunL_canon (canon_cong (V := V5 T X (k : Int) s [] (0 : Nat)) (O := O5 []) (nx := nx5 []) (by kernel_rfl) (by kernel_rfl) (by kernel_rfl)))).trans ?_
  refine (b2 _).trans ?_
  cases b with
  | true => rw [if_pos rfl]
  | false =>
    have hall := b1 rfl
    rw [if_neg (by decide), List.nil_append]
    have hlen : (T.zip X).length = T.length := by rw [List.length_zip]; omega
    generalize T.zip X = D at hall hlen
    have hal := attrs_length D
    have okD : okLens D := ⟨by omega, fun a ha => by have := hall a ha; omega⟩
    have h14 := c14_4 D okD false
    have h10 := c10_4 D D okD okD
    unfold gnM at h14 h10
    obtain ⟨own, O, nx⟩ : own5 D = .own 0 D.length ∧ O5 D = [(0, .el 2 (attrs D) false)] ∧ nx5 D = 2 := by
      cases D with
      | nil => simp at hlen; omega
      | cons p q => exact ⟨rfl, rfl, rfl⟩
    rcases genE_or D false with e | e
    · rw [e, if_pos rfl] at h14
      unfold genV at h14
      have okT : okLens (D.take k) := ⟨by rw [List.length_take]; omega, fun a ha => okD.2 a (List.mem_of_mem_take ha)⟩
      have h10t := c10_4 D (D.take k) okD okT
      rw [within_take e (by omega)] at h10t
      unfold gnM at h10t
      have hc := cut_attrs D k (by omega)
      have hk : k ≤ D.length := by omega
      rcases Nat.eq_zero_or_pos k with hk0 | hk0
      · subst hk0
        generalize D.take 0 = E at h10t hc
        have hc0 : cut (attrs D) none (some (.int .i64 0)) = some (attrs E) := hc
        simp (maxSteps := 4000000) (disch := first | decide | omega | exact ok_of (by kernel_rfl)) only [V5, own, O, nx, R5, lt, lx, elemsOf, appE, elParts, List.replicate, hal, h14, h10t, hc0, entry, enter, inst, List.length_cons, List.length_nil, List.map_cons, List.map_nil, Nat.reduceAdd, Nat.reduceMul, Nat.reduceLeDiff, Nat.reduceEqDiff, Nat.reduceLT, Mini.start, Run_seq, Run_skip, Run_block, Run_blk, Run_scope, Run_rg, Rg_cons, Rg_guard, RgG_bool, RgG_tup, RgB_true, RgB_false, RgV_some, Rg_nil, Run_ret, Run_cond, RunC_bool, RunB_true, RunB_false, dOp, DS.rd, DS.wr, look_hit, look_miss, look_nil, put, Option.getD_some, Option.getD_none, if_true, if_false, bytesOf, binV, isShift, binI, binS, unwind, Run_exitX, RunX_some, unV, lenV, eqV, Bool.false_eq_true, Bool.not_true, Bool.not_false, beq_self_eq_true, fin_some, leave, leaveOne, lend, lends, result, reduceCtorEq, MV.fit, MV.cells, loadV, loadCells, fieldV, offV, liveC, placeAll, setCells, live, liveS, indexV, sliceV, storeV, and_true, true_and, and_self, Nat.zero_le, Int.reduceLE, Int.reduceLT, Int.reduceToNat, Int.reduceEq, Int.reduceNeg, Int.reduceMul, Int.reduceAdd, Int.reduceSub, Int.reduceDiv, Int.reduceMod, ne_eq, not_true_eq_false, not_false_eq_true, Bool.true_beq, Bool.false_beq, bne_self_eq_false, Int.reduceBNe, Int.reduceBEq, List.getElem?_cons_zero, List.getElem?_cons_succ, Option.map_some, asByte, List.all_nil, List.all_cons, MV.pureHead, List.isEmpty_nil, Int.cast_ofNat_Int, Nat.reducePow, Int.le_refl, Int.toNat_natCast, Nat.le_refl, decide_false, decide_true, decide_eq_true_eq, List.length_append, List.length_set, List.nil_append, List.cons_append, List.append_nil, Nat.zero_add, Nat.add_zero, Nat.mul_one, List.set_cons_zero, List.set_cons_succ, List.drop_zero, List.drop_succ_cons, List.take_succ_cons, List.take_zero, List.take_nil, appB, drop, byteParts, List.replicate, Option.map_none, shr8, shr8_128, asB, UInt8.ofNat_toNat, and8_1, and8_127, eq8_1, eq8_0, eq8, w64, w8, tdivE, tmodE, and8, or8, xor8, Run_rgd, Rd_nil, Rd_cons, Rd_guard, RdV_some, RdG_bool, RdG_tup, RdB_true, RdB_false, foot, loud, MOp.xs, MV.names2, MV.names, Obj.names, List.flatMap_cons, List.flatMap_nil, List.append_nil, List.nil_append, List.cons_append, optX, dCall_eq, CallV_some, instR, insts, MV.width]
      obtain ⟨n, rfl⟩ : ∃ n, k = n + 1 := ⟨k - 1, by omega⟩
      have hn : n < D.length := by omega
      obtain ⟨a, ha⟩ : ∃ a, D[n]? = some a := ⟨_, List.getElem?_eq_getElem hn⟩
      have hg := attrs_get ha
      have g1 : (((n + 1 : Nat) : Int) == 0) = false := by rw [beq_eq_false_iff_ne]; omega
      have g2 : ((n + 1 : Nat) : Int) - 1 = (n : Int) := by omega
      have n0 : (0 : Int) ≤ (n : Int) := by omega
      have n1 : (n : Int) < (D.length : Int) := by omega
      have hTl : (D.take (n + 1)).length = n + 1 := by rw [List.length_take]; omega
      have hTg : (D.take (n + 1))[n]? = some a := by rw [List.getElem?_take, if_pos (by omega), ha]
      by_cases hs : s = a.2
      · have g3 : (s == a.2) = true := by rw [hs]; exact beq_self_eq_true _
        generalize D.take (n + 1) = E at h10t hc
        simp (maxSteps := 4000000) (disch := first | decide | omega | exact ok_of (by kernel_rfl)) only [V5, own, O, nx, R5, lt, lx, elemsOf, appE, elParts, List.replicate, hal, h14, h10t, hc, hg, g1, g2, g3, n0, n1, entry, enter, inst, List.length_cons, List.length_nil, List.map_cons, List.map_nil, Nat.reduceAdd, Nat.reduceMul, Nat.reduceLeDiff, Nat.reduceEqDiff, Nat.reduceLT, Mini.start, Run_seq, Run_skip, Run_block, Run_blk, Run_scope, Run_rg, Rg_cons, Rg_guard, RgG_bool, RgG_tup, RgB_true, RgB_false, RgV_some, Rg_nil, Run_ret, Run_cond, RunC_bool, RunB_true, RunB_false, dOp, DS.rd, DS.wr, look_hit, look_miss, look_nil, put, Option.getD_some, Option.getD_none, if_true, if_false, bytesOf, binV, isShift, binI, binS, unwind, Run_exitX, RunX_some, unV, lenV, eqV, Bool.false_eq_true, Bool.not_true, Bool.not_false, beq_self_eq_true, fin_some, leave, leaveOne, lend, lends, result, reduceCtorEq, MV.fit, MV.cells, loadV, loadCells, fieldV, offV, liveC, placeAll, setCells, live, liveS, indexV, sliceV, storeV, and_true, true_and, and_self, Nat.zero_le, Int.reduceLE, Int.reduceLT, Int.reduceToNat, Int.reduceEq, Int.reduceNeg, Int.reduceMul, Int.reduceAdd, Int.reduceSub, Int.reduceDiv, Int.reduceMod, ne_eq, not_true_eq_false, not_false_eq_true, Bool.true_beq, Bool.false_beq, bne_self_eq_false, Int.reduceBNe, Int.reduceBEq, List.getElem?_cons_zero, List.getElem?_cons_succ, Option.map_some, asByte, List.all_nil, List.all_cons, MV.pureHead, List.isEmpty_nil, Int.cast_ofNat_Int, Nat.reducePow, Int.le_refl, Int.toNat_natCast, Nat.le_refl, decide_false, decide_true, decide_eq_true_eq, List.length_append, List.length_set, List.nil_append, List.cons_append, List.append_nil, Nat.zero_add, Nat.add_zero, Nat.mul_one, List.set_cons_zero, List.set_cons_succ, List.drop_zero, List.drop_succ_cons, List.take_succ_cons, List.take_zero, List.take_nil, appB, drop, byteParts, List.replicate, Option.map_none, shr8, shr8_128, asB, UInt8.ofNat_toNat, and8_1, and8_127, eq8_1, eq8_0, eq8, w64, w8, tdivE, tmodE, and8, or8, xor8, Run_rgd, Rd_nil, Rd_cons, Rd_guard, RdV_some, RdG_bool, RdG_tup, RdB_true, RdB_false, foot, loud, MOp.xs, MV.names2, MV.names, Obj.names, List.flatMap_cons, List.flatMap_nil, List.append_nil, List.nil_append, List.cons_append, optX, dCall_eq, CallV_some, instR, insts, MV.width]
      · have g3 : (s == a.2) = false := by rw [beq_eq_false_iff_ne]; exact hs
        have okS : okLens ((D.take (n + 1)).set n (a.1, s)) := by
          refine ⟨by rw [List.length_set]; omega, fun x hx => ?_⟩
          rcases List.mem_or_eq_of_mem_set hx with h | rfl
          · exact okT.2 x h
          · exact ⟨(okD.2 a (List.mem_of_getElem? ha)).1, by simp only; omega⟩
        have h10s := c10_4 D ((D.take (n + 1)).set n (a.1, s)) okD okS
        rw [within_other a s hn ha hs] at h10s
        unfold gnM at h10s
        generalize D.take (n + 1) = E at h10t hc hTl hTg h10s
        have hgE := attrs_get hTg
        have n2 : (n : Int) < ((n + 1 : Nat) : Int) := by omega
        have hcap : (n + 1) * 32 ≤ 140737488355328 := by omega
        have lE := (attrs_length E).trans hTl
        have hset : attrs (E.set n (a.1, s)) = (attrs E).set n (.agg [.str a.1, .str s]) := by simp [attrs, attr, List.map_set]
        rw [hset] at h10s
        simp (maxSteps := 4000000) (disch := first | decide | omega | exact ok_of (by kernel_rfl)) only [V5, own, O, nx, R5, lt, lx, elemsOf, appE, elParts, List.replicate, hal, h14, h10t, h10s, hc, hg, g1, g2, g3, n0, n1, hgE, lE, hcap, n2, entry, enter, inst, List.length_cons, List.length_nil, List.map_cons, List.map_nil, Nat.reduceAdd, Nat.reduceMul, Nat.reduceLeDiff, Nat.reduceEqDiff, Nat.reduceLT, Mini.start, Run_seq, Run_skip, Run_block, Run_blk, Run_scope, Run_rg, Rg_cons, Rg_guard, RgG_bool, RgG_tup, RgB_true, RgB_false, RgV_some, Rg_nil, Run_ret, Run_cond, RunC_bool, RunB_true, RunB_false, dOp, DS.rd, DS.wr, look_hit, look_miss, look_nil, put, Option.getD_some, Option.getD_none, if_true, if_false, bytesOf, binV, isShift, binI, binS, unwind, Run_exitX, RunX_some, unV, lenV, eqV, Bool.false_eq_true, Bool.not_true, Bool.not_false, beq_self_eq_true, fin_some, leave, leaveOne, lend, lends, result, reduceCtorEq, MV.fit, MV.cells, loadV, loadCells, fieldV, offV, liveC, placeAll, setCells, live, liveS, indexV, sliceV, storeV, and_true, true_and, and_self, Nat.zero_le, Int.reduceLE, Int.reduceLT, Int.reduceToNat, Int.reduceEq, Int.reduceNeg, Int.reduceMul, Int.reduceAdd, Int.reduceSub, Int.reduceDiv, Int.reduceMod, ne_eq, not_true_eq_false, not_false_eq_true, Bool.true_beq, Bool.false_beq, bne_self_eq_false, Int.reduceBNe, Int.reduceBEq, List.getElem?_cons_zero, List.getElem?_cons_succ, Option.map_some, asByte, List.all_nil, List.all_cons, MV.pureHead, List.isEmpty_nil, Int.cast_ofNat_Int, Nat.reducePow, Int.le_refl, Int.toNat_natCast, Nat.le_refl, decide_false, decide_true, decide_eq_true_eq, List.length_append, List.length_set, List.nil_append, List.cons_append, List.append_nil, Nat.zero_add, Nat.add_zero, Nat.mul_one, List.set_cons_zero, List.set_cons_succ, List.drop_zero, List.drop_succ_cons, List.take_succ_cons, List.take_zero, List.take_nil, appB, drop, byteParts, List.replicate, Option.map_none, shr8, shr8_128, asB, UInt8.ofNat_toNat, and8_1, and8_127, eq8_1, eq8_0, eq8, w64, w8, tdivE, tmodE, and8, or8, xor8, Run_rgd, Rd_nil, Rd_cons, Rd_guard, RdV_some, RdG_bool, RdG_tup, RdB_true, RdB_false, foot, loud, MOp.xs, MV.names2, MV.names, Obj.names, List.flatMap_cons, List.flatMap_nil, List.append_nil, List.nil_append, List.cons_append, optX, dCall_eq, CallV_some, instR, insts, MV.width]
    · rw [e, if_neg (by decide)] at h14
      rw [within_bad (by rw [e]; decide)] at h10
      simp (maxSteps := 4000000) (disch := first | decide | omega | exact ok_of (by kernel_rfl)) only [V5, own, O, nx, R5, lt, lx, elemsOf, appE, elParts, List.replicate, hal, h14, h10, zero5, entry, enter, inst, List.length_cons, List.length_nil, List.map_cons, List.map_nil, Nat.reduceAdd, Nat.reduceMul, Nat.reduceLeDiff, Nat.reduceEqDiff, Nat.reduceLT, Mini.start, Run_seq, Run_skip, Run_block, Run_blk, Run_scope, Run_rg, Rg_cons, Rg_guard, RgG_bool, RgG_tup, RgB_true, RgB_false, RgV_some, Rg_nil, Run_ret, Run_cond, RunC_bool, RunB_true, RunB_false, dOp, DS.rd, DS.wr, look_hit, look_miss, look_nil, put, Option.getD_some, Option.getD_none, if_true, if_false, bytesOf, binV, isShift, binI, binS, unwind, Run_exitX, RunX_some, unV, lenV, eqV, Bool.false_eq_true, Bool.not_true, Bool.not_false, beq_self_eq_true, fin_some, leave, leaveOne, lend, lends, result, reduceCtorEq, MV.fit, MV.cells, loadV, loadCells, fieldV, offV, liveC, placeAll, setCells, live, liveS, indexV, sliceV, storeV, and_true, true_and, and_self, Nat.zero_le, Int.reduceLE, Int.reduceLT, Int.reduceToNat, Int.reduceEq, Int.reduceNeg, Int.reduceMul, Int.reduceAdd, Int.reduceSub, Int.reduceDiv, Int.reduceMod, ne_eq, not_true_eq_false, not_false_eq_true, Bool.true_beq, Bool.false_beq, bne_self_eq_false, Int.reduceBNe, Int.reduceBEq, List.getElem?_cons_zero, List.getElem?_cons_succ, Option.map_some, asByte, List.all_nil, List.all_cons, MV.pureHead, List.isEmpty_nil, Int.cast_ofNat_Int, Nat.reducePow, Int.le_refl, Int.toNat_natCast, Nat.le_refl, decide_false, decide_true, decide_eq_true_eq, List.length_append, List.length_set, List.nil_append, List.cons_append, List.append_nil, Nat.zero_add, Nat.add_zero, Nat.mul_one, List.set_cons_zero, List.set_cons_succ, List.drop_zero, List.drop_succ_cons, List.take_succ_cons, List.take_zero, List.take_nil, appB, drop, byteParts, List.replicate, Option.map_none, shr8, shr8_128, asB, UInt8.ofNat_toNat, and8_1, and8_127, eq8_1, eq8_0, eq8, w64, w8, tdivE, tmodE, and8, or8, xor8, Run_rgd, Rd_nil, Rd_cons, Rd_guard, RdV_some, RdG_bool, RdG_tup, RdB_true, RdB_false, foot, loud, MOp.xs, MV.names2, MV.names, Obj.names, List.flatMap_cons, List.flatMap_nil, List.append_nil, List.nil_append, List.cons_append, optX, dCall_eq, CallV_some, instR, insts, MV.width]
end Go.Mini
