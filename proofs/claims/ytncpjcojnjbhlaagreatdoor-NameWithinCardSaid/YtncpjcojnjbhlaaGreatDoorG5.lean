/- Valid texts: the document's over Mini: the walk. -/
import Derived.Test.YtncpjcojnjbhlaaGreatDoorG4
namespace Go.Mini
open Go Go.Proofs.YtncpjcojnjbhlaaGreatDoor
set_option maxRecDepth 10000
set_option maxHeartbeats 40000000
set_option linter.unusedSimpArgs false


theorem c109_2 (l : List UInt8) (hl : l.length < 1000000) (a : Nat) (c : UInt8) (t : List UInt8) (hd : l.drop a = c :: t) (ha : a + t.length + 1 = l.length)
    (h1 : 192 ≤ c.toNat) (h2 : c.toNat < 224) : Call Q 109 [.bs l, .int .i64 (a : Int)] = some (.int .i64 (multi 2 128 (c.toNat % 32) t : Nat)) := by
    have i0 : (0 : Int) ≤ (a : Int) := by omega
    have i1 : (a : Int) < (l.length : Int) := by omega
    have hg : l[a]? = some c := by
      have := congrArg (·[0]?) hd
      simpa [List.getElem?_drop] using this
    have hg' : l.getD a 0 = c := by rw [List.getD_eq_getElem?_getD, hg]; rfl
    have hc := c.toNat_lt
    have tm : (c.toNat : Int).tmod 32 = (c.toNat : Int) % 32 := Int.tmod_eq_emod_of_nonneg (by omega)
    have em : (c.toNat : Int) % 32 = ((c.toNat % 32 : Nat) : Int) := by omega
    have g240 : decide ((240 : Int) ≤ (c.toNat : Int)) = false := by simp; omega
    have g224 : decide ((224 : Int) ≤ (c.toNat : Int)) = false := by simp; omega
    have g192 : decide ((192 : Int) ≤ (c.toNat : Int)) = true := by simp; omega
    have l224 : decide ((c.toNat : Int) < 224) = true := by simp; omega
    unfold multi
    rw [Call_fn Q (m := m109) rfl rfl]
    by_cases hn : t.length + 1 < 2
    · have glt : decide ((l.length : Int) < (a : Int) + 2) = true := by simp; omega
      rw [if_pos hn]
      simp (maxSteps := 99999999) (disch := first | decide | omega | exact ok_of (by kernel_rfl)) only [m109, Run_loop, hg, hg', i0, i1, tm, glt, g240, g224, g192, l224, Nat.reduceAdd, Nat.reduceMul, Nat.reduceLeDiff, Nat.reduceEqDiff, Nat.reduceLT, reduceCtorEq, cut, Int.reduceLE, Int.reduceLT, Int.reduceToNat, Int.reduceEq, Int.reduceNeg, Int.reduceMul, Int.reduceAdd, Int.reduceSub, bC.u, bN.u, bL.u, bD.u]
    · have gle : decide ((l.length : Int) < (a : Int) + 2) = false := by simp; omega
      rw [if_neg hn]
      obtain ⟨rhs, hr⟩ : ∃ z, z = some (MV.int .i64 ((lastO 2 128 (contF (t.take (2 - 1)) (c.toNat % 32)) : Nat) : Int)) := ⟨_, rfl⟩
      rw [← hr]
      simp (maxSteps := 99999999) (disch := first | decide | omega | exact ok_of (by kernel_rfl)) only [m109, Run_loop, hg, hg', i0, i1, tm, gle, g240, g224, g192, l224, Nat.reduceAdd, Nat.reduceMul, Nat.reduceLeDiff, Nat.reduceEqDiff, Nat.reduceLT, reduceCtorEq, cut, Int.reduceLE, Int.reduceLT, Int.reduceToNat, Int.reduceEq, Int.reduceNeg, Int.reduceMul, Int.reduceAdd, Int.reduceSub, bC.u, bN.u, bL.u, bD.u]
      refine (congrArg (fin _) (RunL_canon (canon_cong (V := V109 l a (2 : Nat) (128 : Nat) (c.toNat % 32 : Nat) (1 : Nat)) (O := []) (nx := 1) (Eq.trans (by kernel_rfl) (show [(0, MV.bs l), (1, .int .i64 (a : Int)), (6, .int .i64 2), (7, .int .i64 128), (8, .int .i64 ((c.toNat : Int) % 32)), (9, .int .i64 1)] = V109 l a (2 : Nat) (128 : Nat) (c.toNat % 32 : Nat) (1 : Nat) from by rw [em]; rfl)) (by kernel_rfl) (by kernel_rfl)))).trans ?_
      have hbs : (t.take (2 - 1)).length = 2 - 1 := by rw [List.length_take]; omega
      have hdt : (l.drop (a + 1)).take (t.take (2 - 1)).length = t.take (2 - 1) := by
        have := congrArg (List.drop 1) hd
        rw [List.drop_drop] at this
        rw [hbs, this]
        rfl
      refine (c109_loop l hl a 2 128 (by omega) _ (t.take (2 - 1)) 1 (c.toNat % 32) hdt (by omega) (by unfold fits; omega)).trans ?_
      rw [hr]
      cases contF (t.take (2 - 1)) (c.toNat % 32) with
      | none => rfl
      | some v =>
        show _ = some (MV.int .i64 ((lastN 2 128 v : Nat) : Int))
        unfold lastN
        by_cases y1 : v < 128
        · have d1 : decide ((v : Int) < 128) = true := by simp; omega
          rw [if_pos (by omega)]
          simp (maxSteps := 99999999) (disch := first | decide | omega | exact ok_of (by kernel_rfl)) only [V109, R109, d1, Nat.reduceAdd, Nat.reduceMul, Nat.reduceLeDiff, Nat.reduceEqDiff, Nat.reduceLT, reduceCtorEq, cut, Int.reduceLE, Int.reduceLT, Int.reduceToNat, Int.reduceEq, Int.reduceNeg, Int.reduceMul, Int.reduceAdd, Int.reduceSub, bC.u, bN.u, bL.u, bD.u]
        have d1 : decide ((v : Int) < 128) = false := by simp; omega
        by_cases y2 : 1114111 < v
        · have d2 : decide ((1114111 : Int) < (v : Int)) = true := by simp; omega
          rw [if_pos (by omega)]
          simp (maxSteps := 99999999) (disch := first | decide | omega | exact ok_of (by kernel_rfl)) only [V109, R109, d1, d2, Nat.reduceAdd, Nat.reduceMul, Nat.reduceLeDiff, Nat.reduceEqDiff, Nat.reduceLT, reduceCtorEq, cut, Int.reduceLE, Int.reduceLT, Int.reduceToNat, Int.reduceEq, Int.reduceNeg, Int.reduceMul, Int.reduceAdd, Int.reduceSub, bC.u, bN.u, bL.u, bD.u]
        have d2 : decide ((1114111 : Int) < (v : Int)) = false := by simp; omega
        by_cases y3 : 55296 ≤ v
        · have d3 : decide ((55296 : Int) ≤ (v : Int)) = true := by simp; omega
          by_cases y4 : v < 57344
          · have d4 : decide ((v : Int) < 57344) = true := by simp; omega
            rw [if_pos (by omega)]
            simp (maxSteps := 99999999) (disch := first | decide | omega | exact ok_of (by kernel_rfl)) only [V109, R109, d1, d2, d3, d4, Nat.reduceAdd, Nat.reduceMul, Nat.reduceLeDiff, Nat.reduceEqDiff, Nat.reduceLT, reduceCtorEq, cut, Int.reduceLE, Int.reduceLT, Int.reduceToNat, Int.reduceEq, Int.reduceNeg, Int.reduceMul, Int.reduceAdd, Int.reduceSub, bC.u, bN.u, bL.u, bD.u]
          · have d4 : decide ((v : Int) < 57344) = false := by simp; omega
            rw [if_neg (by omega)]
            simp (maxSteps := 99999999) (disch := first | decide | omega | exact ok_of (by kernel_rfl)) only [V109, R109, d1, d2, d3, d4, Nat.reduceAdd, Nat.reduceMul, Nat.reduceLeDiff, Nat.reduceEqDiff, Nat.reduceLT, reduceCtorEq, cut, Int.reduceLE, Int.reduceLT, Int.reduceToNat, Int.reduceEq, Int.reduceNeg, Int.reduceMul, Int.reduceAdd, Int.reduceSub, bC.u, bN.u, bL.u, bD.u]
        · have d3 : decide ((55296 : Int) ≤ (v : Int)) = false := by simp; omega
          rw [if_neg (by omega)]
          simp (maxSteps := 99999999) (disch := first | decide | omega | exact ok_of (by kernel_rfl)) only [V109, R109, d1, d2, d3, Nat.reduceAdd, Nat.reduceMul, Nat.reduceLeDiff, Nat.reduceEqDiff, Nat.reduceLT, reduceCtorEq, cut, Int.reduceLE, Int.reduceLT, Int.reduceToNat, Int.reduceEq, Int.reduceNeg, Int.reduceMul, Int.reduceAdd, Int.reduceSub, bC.u, bN.u, bL.u, bD.u]

theorem c109_3 (l : List UInt8) (hl : l.length < 1000000) (a : Nat) (c : UInt8) (t : List UInt8) (hd : l.drop a = c :: t) (ha : a + t.length + 1 = l.length)
    (h1 : 224 ≤ c.toNat) (h2 : c.toNat < 240) : Call Q 109 [.bs l, .int .i64 (a : Int)] = some (.int .i64 (multi 3 2048 (c.toNat % 16) t : Nat)) := by
    have i0 : (0 : Int) ≤ (a : Int) := by omega
    have i1 : (a : Int) < (l.length : Int) := by omega
    have hg : l[a]? = some c := by
      have := congrArg (·[0]?) hd
      simpa [List.getElem?_drop] using this
    have hg' : l.getD a 0 = c := by rw [List.getD_eq_getElem?_getD, hg]; rfl
    have hc := c.toNat_lt
    have tm : (c.toNat : Int).tmod 16 = (c.toNat : Int) % 16 := Int.tmod_eq_emod_of_nonneg (by omega)
    have em : (c.toNat : Int) % 16 = ((c.toNat % 16 : Nat) : Int) := by omega
    have g240 : decide ((240 : Int) ≤ (c.toNat : Int)) = false := by simp; omega
    have g224 : decide ((224 : Int) ≤ (c.toNat : Int)) = true := by simp; omega
    have l240 : decide ((c.toNat : Int) < 240) = true := by simp; omega
    unfold multi
    rw [Call_fn Q (m := m109) rfl rfl]
    by_cases hn : t.length + 1 < 3
    · have glt : decide ((l.length : Int) < (a : Int) + 3) = true := by simp; omega
      rw [if_pos hn]
      simp (maxSteps := 99999999) (disch := first | decide | omega | exact ok_of (by kernel_rfl)) only [m109, Run_loop, hg, hg', i0, i1, tm, glt, g240, g224, l240, Nat.reduceAdd, Nat.reduceMul, Nat.reduceLeDiff, Nat.reduceEqDiff, Nat.reduceLT, reduceCtorEq, cut, Int.reduceLE, Int.reduceLT, Int.reduceToNat, Int.reduceEq, Int.reduceNeg, Int.reduceMul, Int.reduceAdd, Int.reduceSub, bC.u, bN.u, bL.u, bD.u]
    · have gle : decide ((l.length : Int) < (a : Int) + 3) = false := by simp; omega
      rw [if_neg hn]
      obtain ⟨rhs, hr⟩ : ∃ z, z = some (MV.int .i64 ((lastO 3 2048 (contF (t.take (3 - 1)) (c.toNat % 16)) : Nat) : Int)) := ⟨_, rfl⟩
      rw [← hr]
      simp (maxSteps := 99999999) (disch := first | decide | omega | exact ok_of (by kernel_rfl)) only [m109, Run_loop, hg, hg', i0, i1, tm, gle, g240, g224, l240, Nat.reduceAdd, Nat.reduceMul, Nat.reduceLeDiff, Nat.reduceEqDiff, Nat.reduceLT, reduceCtorEq, cut, Int.reduceLE, Int.reduceLT, Int.reduceToNat, Int.reduceEq, Int.reduceNeg, Int.reduceMul, Int.reduceAdd, Int.reduceSub, bC.u, bN.u, bL.u, bD.u]
      refine (congrArg (fin _) (RunL_canon (canon_cong (V := V109 l a (3 : Nat) (2048 : Nat) (c.toNat % 16 : Nat) (1 : Nat)) (O := []) (nx := 1) (Eq.trans (by kernel_rfl) (show [(0, MV.bs l), (1, .int .i64 (a : Int)), (6, .int .i64 3), (7, .int .i64 2048), (8, .int .i64 ((c.toNat : Int) % 16)), (9, .int .i64 1)] = V109 l a (3 : Nat) (2048 : Nat) (c.toNat % 16 : Nat) (1 : Nat) from by rw [em]; rfl)) (by kernel_rfl) (by kernel_rfl)))).trans ?_
      have hbs : (t.take (3 - 1)).length = 3 - 1 := by rw [List.length_take]; omega
      have hdt : (l.drop (a + 1)).take (t.take (3 - 1)).length = t.take (3 - 1) := by
        have := congrArg (List.drop 1) hd
        rw [List.drop_drop] at this
        rw [hbs, this]
        rfl
      refine (c109_loop l hl a 3 2048 (by omega) _ (t.take (3 - 1)) 1 (c.toNat % 16) hdt (by omega) (by unfold fits; omega)).trans ?_
      rw [hr]
      cases contF (t.take (3 - 1)) (c.toNat % 16) with
      | none => rfl
      | some v =>
        show _ = some (MV.int .i64 ((lastN 3 2048 v : Nat) : Int))
        unfold lastN
        by_cases y1 : v < 2048
        · have d1 : decide ((v : Int) < 2048) = true := by simp; omega
          rw [if_pos (by omega)]
          simp (maxSteps := 99999999) (disch := first | decide | omega | exact ok_of (by kernel_rfl)) only [V109, R109, d1, Nat.reduceAdd, Nat.reduceMul, Nat.reduceLeDiff, Nat.reduceEqDiff, Nat.reduceLT, reduceCtorEq, cut, Int.reduceLE, Int.reduceLT, Int.reduceToNat, Int.reduceEq, Int.reduceNeg, Int.reduceMul, Int.reduceAdd, Int.reduceSub, bC.u, bN.u, bL.u, bD.u]
        have d1 : decide ((v : Int) < 2048) = false := by simp; omega
        by_cases y2 : 1114111 < v
        · have d2 : decide ((1114111 : Int) < (v : Int)) = true := by simp; omega
          rw [if_pos (by omega)]
          simp (maxSteps := 99999999) (disch := first | decide | omega | exact ok_of (by kernel_rfl)) only [V109, R109, d1, d2, Nat.reduceAdd, Nat.reduceMul, Nat.reduceLeDiff, Nat.reduceEqDiff, Nat.reduceLT, reduceCtorEq, cut, Int.reduceLE, Int.reduceLT, Int.reduceToNat, Int.reduceEq, Int.reduceNeg, Int.reduceMul, Int.reduceAdd, Int.reduceSub, bC.u, bN.u, bL.u, bD.u]
        have d2 : decide ((1114111 : Int) < (v : Int)) = false := by simp; omega
        by_cases y3 : 55296 ≤ v
        · have d3 : decide ((55296 : Int) ≤ (v : Int)) = true := by simp; omega
          by_cases y4 : v < 57344
          · have d4 : decide ((v : Int) < 57344) = true := by simp; omega
            rw [if_pos (by omega)]
            simp (maxSteps := 99999999) (disch := first | decide | omega | exact ok_of (by kernel_rfl)) only [V109, R109, d1, d2, d3, d4, Nat.reduceAdd, Nat.reduceMul, Nat.reduceLeDiff, Nat.reduceEqDiff, Nat.reduceLT, reduceCtorEq, cut, Int.reduceLE, Int.reduceLT, Int.reduceToNat, Int.reduceEq, Int.reduceNeg, Int.reduceMul, Int.reduceAdd, Int.reduceSub, bC.u, bN.u, bL.u, bD.u]
          · have d4 : decide ((v : Int) < 57344) = false := by simp; omega
            rw [if_neg (by omega)]
            simp (maxSteps := 99999999) (disch := first | decide | omega | exact ok_of (by kernel_rfl)) only [V109, R109, d1, d2, d3, d4, Nat.reduceAdd, Nat.reduceMul, Nat.reduceLeDiff, Nat.reduceEqDiff, Nat.reduceLT, reduceCtorEq, cut, Int.reduceLE, Int.reduceLT, Int.reduceToNat, Int.reduceEq, Int.reduceNeg, Int.reduceMul, Int.reduceAdd, Int.reduceSub, bC.u, bN.u, bL.u, bD.u]
        · have d3 : decide ((55296 : Int) ≤ (v : Int)) = false := by simp; omega
          rw [if_neg (by omega)]
          simp (maxSteps := 99999999) (disch := first | decide | omega | exact ok_of (by kernel_rfl)) only [V109, R109, d1, d2, d3, Nat.reduceAdd, Nat.reduceMul, Nat.reduceLeDiff, Nat.reduceEqDiff, Nat.reduceLT, reduceCtorEq, cut, Int.reduceLE, Int.reduceLT, Int.reduceToNat, Int.reduceEq, Int.reduceNeg, Int.reduceMul, Int.reduceAdd, Int.reduceSub, bC.u, bN.u, bL.u, bD.u]

theorem c109_4 (l : List UInt8) (hl : l.length < 1000000) (a : Nat) (c : UInt8) (t : List UInt8) (hd : l.drop a = c :: t) (ha : a + t.length + 1 = l.length)
    (h1 : 240 ≤ c.toNat) (h2 : c.toNat < 248) : Call Q 109 [.bs l, .int .i64 (a : Int)] = some (.int .i64 (multi 4 65536 (c.toNat % 8) t : Nat)) := by
    have i0 : (0 : Int) ≤ (a : Int) := by omega
    have i1 : (a : Int) < (l.length : Int) := by omega
    have hg : l[a]? = some c := by
      have := congrArg (·[0]?) hd
      simpa [List.getElem?_drop] using this
    have hg' : l.getD a 0 = c := by rw [List.getD_eq_getElem?_getD, hg]; rfl
    have hc := c.toNat_lt
    have tm : (c.toNat : Int).tmod 8 = (c.toNat : Int) % 8 := Int.tmod_eq_emod_of_nonneg (by omega)
    have em : (c.toNat : Int) % 8 = ((c.toNat % 8 : Nat) : Int) := by omega
    have g240 : decide ((240 : Int) ≤ (c.toNat : Int)) = true := by simp; omega
    have g248 : decide ((c.toNat : Int) < 248) = true := by simp; omega
    unfold multi
    rw [Call_fn Q (m := m109) rfl rfl]
    by_cases hn : t.length + 1 < 4
    · have glt : decide ((l.length : Int) < (a : Int) + 4) = true := by simp; omega
      rw [if_pos hn]
      simp (maxSteps := 99999999) (disch := first | decide | omega | exact ok_of (by kernel_rfl)) only [m109, Run_loop, hg, hg', i0, i1, tm, glt, g240, g248, Nat.reduceAdd, Nat.reduceMul, Nat.reduceLeDiff, Nat.reduceEqDiff, Nat.reduceLT, reduceCtorEq, cut, Int.reduceLE, Int.reduceLT, Int.reduceToNat, Int.reduceEq, Int.reduceNeg, Int.reduceMul, Int.reduceAdd, Int.reduceSub, bC.u, bN.u, bL.u, bD.u]
    · have gle : decide ((l.length : Int) < (a : Int) + 4) = false := by simp; omega
      rw [if_neg hn]
      obtain ⟨rhs, hr⟩ : ∃ z, z = some (MV.int .i64 ((lastO 4 65536 (contF (t.take (4 - 1)) (c.toNat % 8)) : Nat) : Int)) := ⟨_, rfl⟩
      rw [← hr]
      simp (maxSteps := 99999999) (disch := first | decide | omega | exact ok_of (by kernel_rfl)) only [m109, Run_loop, hg, hg', i0, i1, tm, gle, g240, g248, Nat.reduceAdd, Nat.reduceMul, Nat.reduceLeDiff, Nat.reduceEqDiff, Nat.reduceLT, reduceCtorEq, cut, Int.reduceLE, Int.reduceLT, Int.reduceToNat, Int.reduceEq, Int.reduceNeg, Int.reduceMul, Int.reduceAdd, Int.reduceSub, bC.u, bN.u, bL.u, bD.u]
      refine (congrArg (fin _) (RunL_canon (canon_cong (V := V109 l a (4 : Nat) (65536 : Nat) (c.toNat % 8 : Nat) (1 : Nat)) (O := []) (nx := 1) (Eq.trans (by kernel_rfl) (show [(0, MV.bs l), (1, .int .i64 (a : Int)), (6, .int .i64 4), (7, .int .i64 65536), (8, .int .i64 ((c.toNat : Int) % 8)), (9, .int .i64 1)] = V109 l a (4 : Nat) (65536 : Nat) (c.toNat % 8 : Nat) (1 : Nat) from by rw [em]; rfl)) (by kernel_rfl) (by kernel_rfl)))).trans ?_
      have hbs : (t.take (4 - 1)).length = 4 - 1 := by rw [List.length_take]; omega
      have hdt : (l.drop (a + 1)).take (t.take (4 - 1)).length = t.take (4 - 1) := by
        have := congrArg (List.drop 1) hd
        rw [List.drop_drop] at this
        rw [hbs, this]
        rfl
      refine (c109_loop l hl a 4 65536 (by omega) _ (t.take (4 - 1)) 1 (c.toNat % 8) hdt (by omega) (by unfold fits; omega)).trans ?_
      rw [hr]
      cases contF (t.take (4 - 1)) (c.toNat % 8) with
      | none => rfl
      | some v =>
        show _ = some (MV.int .i64 ((lastN 4 65536 v : Nat) : Int))
        unfold lastN
        by_cases y1 : v < 65536
        · have d1 : decide ((v : Int) < 65536) = true := by simp; omega
          rw [if_pos (by omega)]
          simp (maxSteps := 99999999) (disch := first | decide | omega | exact ok_of (by kernel_rfl)) only [V109, R109, d1, Nat.reduceAdd, Nat.reduceMul, Nat.reduceLeDiff, Nat.reduceEqDiff, Nat.reduceLT, reduceCtorEq, cut, Int.reduceLE, Int.reduceLT, Int.reduceToNat, Int.reduceEq, Int.reduceNeg, Int.reduceMul, Int.reduceAdd, Int.reduceSub, bC.u, bN.u, bL.u, bD.u]
        have d1 : decide ((v : Int) < 65536) = false := by simp; omega
        by_cases y2 : 1114111 < v
        · have d2 : decide ((1114111 : Int) < (v : Int)) = true := by simp; omega
          rw [if_pos (by omega)]
          simp (maxSteps := 99999999) (disch := first | decide | omega | exact ok_of (by kernel_rfl)) only [V109, R109, d1, d2, Nat.reduceAdd, Nat.reduceMul, Nat.reduceLeDiff, Nat.reduceEqDiff, Nat.reduceLT, reduceCtorEq, cut, Int.reduceLE, Int.reduceLT, Int.reduceToNat, Int.reduceEq, Int.reduceNeg, Int.reduceMul, Int.reduceAdd, Int.reduceSub, bC.u, bN.u, bL.u, bD.u]
        have d2 : decide ((1114111 : Int) < (v : Int)) = false := by simp; omega
        by_cases y3 : 55296 ≤ v
        · have d3 : decide ((55296 : Int) ≤ (v : Int)) = true := by simp; omega
          by_cases y4 : v < 57344
          · have d4 : decide ((v : Int) < 57344) = true := by simp; omega
            rw [if_pos (by omega)]
            simp (maxSteps := 99999999) (disch := first | decide | omega | exact ok_of (by kernel_rfl)) only [V109, R109, d1, d2, d3, d4, Nat.reduceAdd, Nat.reduceMul, Nat.reduceLeDiff, Nat.reduceEqDiff, Nat.reduceLT, reduceCtorEq, cut, Int.reduceLE, Int.reduceLT, Int.reduceToNat, Int.reduceEq, Int.reduceNeg, Int.reduceMul, Int.reduceAdd, Int.reduceSub, bC.u, bN.u, bL.u, bD.u]
          · have d4 : decide ((v : Int) < 57344) = false := by simp; omega
            rw [if_neg (by omega)]
            simp (maxSteps := 99999999) (disch := first | decide | omega | exact ok_of (by kernel_rfl)) only [V109, R109, d1, d2, d3, d4, Nat.reduceAdd, Nat.reduceMul, Nat.reduceLeDiff, Nat.reduceEqDiff, Nat.reduceLT, reduceCtorEq, cut, Int.reduceLE, Int.reduceLT, Int.reduceToNat, Int.reduceEq, Int.reduceNeg, Int.reduceMul, Int.reduceAdd, Int.reduceSub, bC.u, bN.u, bL.u, bD.u]
        · have d3 : decide ((55296 : Int) ≤ (v : Int)) = false := by simp; omega
          rw [if_neg (by omega)]
          simp (maxSteps := 99999999) (disch := first | decide | omega | exact ok_of (by kernel_rfl)) only [V109, R109, d1, d2, d3, Nat.reduceAdd, Nat.reduceMul, Nat.reduceLeDiff, Nat.reduceEqDiff, Nat.reduceLT, reduceCtorEq, cut, Int.reduceLE, Int.reduceLT, Int.reduceToNat, Int.reduceEq, Int.reduceNeg, Int.reduceMul, Int.reduceAdd, Int.reduceSub, bC.u, bN.u, bL.u, bD.u]

theorem c109_1 (l : List UInt8) (hl : l.length < 1000000) (a : Nat) (c : UInt8) (t : List UInt8) (hd : l.drop a = c :: t) (ha : a + t.length + 1 = l.length) (h1 : c.toNat < 128) : Call Q 109 [.bs l, .int .i64 (a : Int)] = some (.int .i64 1) := by
    have i0 : (0 : Int) ≤ (a : Int) := by omega
    have i1 : (a : Int) < (l.length : Int) := by omega
    have hg : l[a]? = some c := by
      have := congrArg (·[0]?) hd
      simpa [List.getElem?_drop] using this
    have hg' : l.getD a 0 = c := by rw [List.getD_eq_getElem?_getD, hg]; rfl
    have hc := c.toNat_lt
    have g240 : decide ((240 : Int) ≤ (c.toNat : Int)) = false := by simp; omega
    have g224 : decide ((224 : Int) ≤ (c.toNat : Int)) = false := by simp; omega
    have g192 : decide ((192 : Int) ≤ (c.toNat : Int)) = false := by simp; omega
    have g128 : decide ((128 : Int) ≤ (c.toNat : Int)) = false := by simp; omega
    have gle : decide ((l.length : Int) < (a : Int) + 1) = false := by simp; omega
    have d1 : decide ((c.toNat : Int) < 0) = false := by simp
    have d2 : decide ((1114111 : Int) < (c.toNat : Int)) = false := by simp; omega
    have d3 : decide ((55296 : Int) ≤ (c.toNat : Int)) = false := by simp; omega
    obtain ⟨rhs, hr⟩ : ∃ z, z = some (MV.int .i64 1) := ⟨_, rfl⟩
    rw [Call_fn Q (m := m109) rfl rfl, ← hr]
    simp (maxSteps := 99999999) (disch := first | decide | omega | exact ok_of (by kernel_rfl)) only [m109, Run_loop, hg, hg', i0, i1, gle, g240, g224, g192, g128, Nat.reduceAdd, Nat.reduceMul, Nat.reduceLeDiff, Nat.reduceEqDiff, Nat.reduceLT, reduceCtorEq, cut, Int.reduceLE, Int.reduceLT, Int.reduceToNat, Int.reduceEq, Int.reduceNeg, Int.reduceMul, Int.reduceAdd, Int.reduceSub, bC.u, bN.u, bL.u, bD.u]
    refine (congrArg (fin _) (RunL_canon (canon_cong (V := V109 l a (1 : Nat) (0 : Nat) c.toNat (1 : Nat)) (O := []) (nx := 1) (by kernel_rfl) (by kernel_rfl) (by kernel_rfl)))).trans ?_
    refine (c109_loop l hl a 1 0 (by omega) _ [] 1 c.toNat (by simp) rfl (by unfold fits; simp; omega)).trans ?_
    rw [hr]
    simp only [contF]
    simp (maxSteps := 99999999) (disch := first | decide | omega | exact ok_of (by kernel_rfl)) only [V109, R109, d1, d2, d3, Nat.reduceAdd, Nat.reduceMul, Nat.reduceLeDiff, Nat.reduceEqDiff, Nat.reduceLT, reduceCtorEq, cut, Int.reduceLE, Int.reduceLT, Int.reduceToNat, Int.reduceEq, Int.reduceNeg, Int.reduceMul, Int.reduceAdd, Int.reduceSub, bC.u, bN.u, bL.u, bD.u]
theorem c109_0 (l : List UInt8) (hl : l.length < 1000000) (a : Nat) (c : UInt8) (t : List UInt8) (hd : l.drop a = c :: t) (ha : a + t.length + 1 = l.length) (h1 : 128 ≤ c.toNat) (h2 : c.toNat < 192) : Call Q 109 [.bs l, .int .i64 (a : Int)] = some (.int .i64 0) := by
    have i0 : (0 : Int) ≤ (a : Int) := by omega
    have i1 : (a : Int) < (l.length : Int) := by omega
    have hg : l[a]? = some c := by
      have := congrArg (·[0]?) hd
      simpa [List.getElem?_drop] using this
    have hg' : l.getD a 0 = c := by rw [List.getD_eq_getElem?_getD, hg]; rfl
    have hc := c.toNat_lt
    have g240 : decide ((240 : Int) ≤ (c.toNat : Int)) = false := by simp; omega
    have g224 : decide ((224 : Int) ≤ (c.toNat : Int)) = false := by simp; omega
    have g192 : decide ((192 : Int) ≤ (c.toNat : Int)) = false := by simp; omega
    have g128 : decide ((128 : Int) ≤ (c.toNat : Int)) = true := by simp; omega
    rw [Call_fn Q (m := m109) rfl rfl]
    simp (maxSteps := 99999999) (disch := first | decide | omega | exact ok_of (by kernel_rfl)) only [m109, hg, hg', i0, i1, g240, g224, g192, g128, Nat.reduceAdd, Nat.reduceMul, Nat.reduceLeDiff, Nat.reduceEqDiff, Nat.reduceLT, reduceCtorEq, cut, Int.reduceLE, Int.reduceLT, Int.reduceToNat, Int.reduceEq, Int.reduceNeg, Int.reduceMul, Int.reduceAdd, Int.reduceSub, bC.u, bN.u, bL.u, bD.u]
theorem c109_8 (l : List UInt8) (hl : l.length < 1000000) (a : Nat) (c : UInt8) (t : List UInt8) (hd : l.drop a = c :: t) (ha : a + t.length + 1 = l.length) (h1 : 248 ≤ c.toNat) : Call Q 109 [.bs l, .int .i64 (a : Int)] = some (.int .i64 0) := by
    have i0 : (0 : Int) ≤ (a : Int) := by omega
    have i1 : (a : Int) < (l.length : Int) := by omega
    have hg : l[a]? = some c := by
      have := congrArg (·[0]?) hd
      simpa [List.getElem?_drop] using this
    have hg' : l.getD a 0 = c := by rw [List.getD_eq_getElem?_getD, hg]; rfl
    have hc := c.toNat_lt
    have g240 : decide ((240 : Int) ≤ (c.toNat : Int)) = true := by simp; omega
    have g248 : decide ((c.toNat : Int) < 248) = false := by simp; omega
    have g224 : decide ((224 : Int) ≤ (c.toNat : Int)) = true := by simp; omega
    have l240 : decide ((c.toNat : Int) < 240) = false := by simp; omega
    have g192 : decide ((192 : Int) ≤ (c.toNat : Int)) = true := by simp; omega
    have l224 : decide ((c.toNat : Int) < 224) = false := by simp; omega
    have g128 : decide ((128 : Int) ≤ (c.toNat : Int)) = true := by simp; omega
    rw [Call_fn Q (m := m109) rfl rfl]
    simp (maxSteps := 99999999) (disch := first | decide | omega | exact ok_of (by kernel_rfl)) only [m109, hg, hg', i0, i1, g240, g248, g224, l240, g192, l224, g128, Nat.reduceAdd, Nat.reduceMul, Nat.reduceLeDiff, Nat.reduceEqDiff, Nat.reduceLT, reduceCtorEq, cut, Int.reduceLE, Int.reduceLT, Int.reduceToNat, Int.reduceEq, Int.reduceNeg, Int.reduceMul, Int.reduceAdd, Int.reduceSub, bC.u, bN.u, bL.u, bD.u]
theorem c109 (l : List UInt8) (hl : l.length < 1000000) (a : Nat) (c : UInt8) (t : List UInt8) (hd : l.drop a = c :: t) (ha : a + t.length + 1 = l.length) : Call Q 109 [.bs l, .int .i64 (a : Int)] = some (.int .i64 (runeN (c :: t) : Nat)) := by
  rw [← runeR_eq]
  unfold runeR
  by_cases h1 : c.toNat < 128
  · rw [if_pos h1]; exact c109_1 l hl a c t hd ha h1
  rw [if_neg h1]
  by_cases h2 : c.toNat < 192
  · rw [if_pos h2]; exact c109_0 l hl a c t hd ha (by omega) h2
  rw [if_neg h2]
  by_cases h3 : c.toNat < 224
  · rw [if_pos h3]; exact c109_2 l hl a c t hd ha (by omega) h3
  rw [if_neg h3]
  by_cases h4 : c.toNat < 240
  · rw [if_pos h4]; exact c109_3 l hl a c t hd ha (by omega) h4
  rw [if_neg h4]
  by_cases h5 : c.toNat < 248
  · rw [if_pos h5]; exact c109_4 l hl a c t hd ha (by omega) h5
  rw [if_neg h5]; exact c109_8 l hl a c t hd ha (by omega)

def R84 : List (Nat × Option (Bool × Nat) × PK) := [(2, none, .other)]
def V84 (l : List UInt8) (i : Int) : List (Nat × MV) := [(0, .bs l), (3, .int .i64 i)]
def K84 : List Item := [.blk 0, .code (.seq (.rg [⟨some (.v 2), .mv (.c (.bool true)), none⟩]) .ret)]
theorem c84_loop (l : List UInt8) (hl : l.length < 1000000) : ∀ (k : Nat) (r : List UInt8) (i : Nat), r.length ≤ k → l.drop i = r → i + r.length = l.length →
    fin R84 (RunL Q m84k0 m84b0 K84 ⟨V84 l i, [], [], 1⟩) = some (.bool (Lib.validD r)) := by
  intro k
  induction k with
  | zero =>
    intro r i hk hd hi
    have hr : r = [] := List.eq_nil_of_length_eq_zero (by omega)
    subst hr
    have hi' : i = l.length := by simpa using hi
    subst hi'
    have hlt : decide ((l.length : Int) < (l.length : Int)) = false := by simp
    obtain ⟨b', hb'⟩ : ∃ b', b' = m84b0 := ⟨_, rfl⟩
    rw [RunL_eq, show Item.lp m84k0 m84b0 = Item.lp m84k0 b' by rw [hb']]
    simp (maxSteps := 99999999) (disch := first | decide | omega | exact ok_of (by kernel_rfl)) only [m84b0, V84, R84, K84, hlt, Nat.reduceAdd, Nat.reduceMul, Nat.reduceLeDiff, Nat.reduceEqDiff, Nat.reduceLT, reduceCtorEq, cut, Int.reduceLE, Int.reduceLT, Int.reduceToNat, Int.reduceEq, Int.reduceNeg, Int.reduceMul, Int.reduceAdd, Int.reduceSub, bC.u, bN.u, bD.u]
    rfl
  | succ k ih =>
    intro r i hk hd hi
    cases r with
    | nil =>
      have hi' : i = l.length := by simpa using hi
      subst hi'
      have hlt : decide ((l.length : Int) < (l.length : Int)) = false := by simp
      obtain ⟨b', hb'⟩ : ∃ b', b' = m84b0 := ⟨_, rfl⟩
      rw [RunL_eq, show Item.lp m84k0 m84b0 = Item.lp m84k0 b' by rw [hb']]
      simp (maxSteps := 99999999) (disch := first | decide | omega | exact ok_of (by kernel_rfl)) only [m84b0, V84, R84, K84, hlt, Nat.reduceAdd, Nat.reduceMul, Nat.reduceLeDiff, Nat.reduceEqDiff, Nat.reduceLT, reduceCtorEq, cut, Int.reduceLE, Int.reduceLT, Int.reduceToNat, Int.reduceEq, Int.reduceNeg, Int.reduceMul, Int.reduceAdd, Int.reduceSub, bC.u, bN.u, bD.u]
      rfl
    | cons c t =>
      simp only [List.length_cons] at hi hk
      have hlt : decide ((i : Int) < (l.length : Int)) = true := by simp; omega
      have hc := c109 l hl i c t hd (by omega)
      rw [Lib.validD_step _ (by simp)]
      have hw := Lib.decodeL_width (c :: t)
      have hle := Lib.decodeL_le (c :: t) (by simp)
      simp only [List.length_cons] at hle
      unfold runeN at hc
      by_cases hb : (Lib.decodeL (c :: t)).1 = 65533 ∧ (Lib.decodeL (c :: t)).2 = 1
      · rw [if_pos hb] at hc ⊢
        have hz : (((0 : Nat) : Int) == 0) = true := rfl
        obtain ⟨b', hb'⟩ : ∃ b', b' = m84b0 := ⟨_, rfl⟩
        rw [RunL_eq, show Item.lp m84k0 m84b0 = Item.lp m84k0 b' by rw [hb']]
        simp (maxSteps := 99999999) (disch := first | decide | omega | exact ok_of (by kernel_rfl)) only [m84b0, V84, R84, K84, hlt, hc, hz, Nat.reduceAdd, Nat.reduceMul, Nat.reduceLeDiff, Nat.reduceEqDiff, Nat.reduceLT, reduceCtorEq, cut, Int.reduceLE, Int.reduceLT, Int.reduceToNat, Int.reduceEq, Int.reduceNeg, Int.reduceMul, Int.reduceAdd, Int.reduceSub, bC.u, bN.u, bL.u, bD.u]
      · rw [if_neg hb] at hc ⊢
        have hdr : l.drop (i + (Lib.decodeL (c :: t)).2) = (c :: t).drop (Lib.decodeL (c :: t)).2 := by rw [← hd, List.drop_drop]
        have ih' := ih ((c :: t).drop (Lib.decodeL (c :: t)).2) (i + (Lib.decodeL (c :: t)).2) (by rw [List.length_drop, List.length_cons]; omega) hdr (by rw [List.length_drop, List.length_cons]; omega)
        generalize Lib.validD ((c :: t).drop (Lib.decodeL (c :: t)).2) = ans at ih' ⊢
        generalize (Lib.decodeL (c :: t)).2 = w at hc hw hle ih'
        have hz : ((w : Int) == 0) = false := by rw [beq_eq_false_iff_ne]; omega
        have e : ((i : Int) + (w : Int)) = ((i + w : Nat) : Int) := by omega
        obtain ⟨rhs, hr⟩ : ∃ z, z = some (MV.bool ans) := ⟨_, rfl⟩
        rw [← hr]
        obtain ⟨b', hb'⟩ : ∃ b', b' = m84b0 := ⟨_, rfl⟩
        rw [RunL_eq, show Item.lp m84k0 m84b0 = Item.lp m84k0 b' by rw [hb']]
        simp (maxSteps := 99999999) (disch := first | decide | omega | exact ok_of (by kernel_rfl)) only [m84b0, V84, R84, K84, hlt, hc, hz, Nat.reduceAdd, Nat.reduceMul, Nat.reduceLeDiff, Nat.reduceEqDiff, Nat.reduceLT, reduceCtorEq, cut, Int.reduceLE, Int.reduceLT, Int.reduceToNat, Int.reduceEq, Int.reduceNeg, Int.reduceMul, Int.reduceAdd, Int.reduceSub, bC.u, bN.u, bL.u, bD.u]
        subst hb'
        refine ((congrArg (fin _) (Run_lp Q _ _ _ _)).trans ?_)
        rw [hr, ← ih']
        exact congrArg (fin R84) (RunL_canon (canon_cong (Eq.trans (by kernel_rfl) (show [(0, MV.bs l), (3, .int .i64 ((i : Int) + (w : Int)))] = V84 l (i + w : Nat) from by rw [e]; rfl)) (by kernel_rfl) (by kernel_rfl)))
theorem c84 (l : List UInt8) (hl : l.length < 1000000) : Call Q 84 [.bs l] = some (.bool (Lib.validD l)) := by
  rw [Call_fn Q (m := m84) rfl rfl, ← c84_loop l hl l.length l 0 (Nat.le_refl _) rfl (by omega)]
  simp (maxSteps := 99999999) (disch := first | decide | omega | exact ok_of (by kernel_rfl)) only [m84, Run_loop, Nat.reduceAdd, Nat.reduceMul, Nat.reduceLeDiff, Nat.reduceEqDiff, Nat.reduceLT, reduceCtorEq, cut, Int.reduceLE, Int.reduceLT, Int.reduceToNat, Int.reduceEq, Int.reduceNeg, Int.reduceMul, Int.reduceAdd, Int.reduceSub, bC.u, bN.u, bD.u]
  exact congrArg (fin R84) (RunL_canon (canon_cong (by kernel_rfl) (by kernel_rfl) (by kernel_rfl)))
theorem c51 (s : List UInt8) (hs : s.length < 1000000) : Call Q 51 [.str s] = some (.bool (textB s)) := by
  have hv := c84 s hs
  unfold textB
  rw [Call_fn Q (m := m51) rfl rfl]
  have e1 : decide ((1 : Int) ≤ (s.length : Int)) = decide (1 ≤ s.length) := by rw [Bool.eq_iff_iff]; simp; omega
  have e2 : decide ((s.length : Int) ≤ 64) = decide (s.length ≤ 64) := by rw [Bool.eq_iff_iff]; simp; omega
  cases x1 : decide (1 ≤ s.length)
  · simp (maxSteps := 99999999) (disch := first | decide | omega | exact ok_of (by kernel_rfl)) only [m51, e1, x1, Nat.reduceAdd, Nat.reduceMul, Nat.reduceLeDiff, Nat.reduceEqDiff, Nat.reduceLT, reduceCtorEq, cut, Int.reduceLE, Int.reduceLT, Int.reduceToNat, Int.reduceEq, Int.reduceNeg, Int.reduceMul, Int.reduceAdd, Int.reduceSub, bC.u, bB.u, bN.u, bL.u, bD.u]
  · cases x2 : decide (s.length ≤ 64)
    · simp (maxSteps := 99999999) (disch := first | decide | omega | exact ok_of (by kernel_rfl)) only [m51, e1, e2, x1, x2, Nat.reduceAdd, Nat.reduceMul, Nat.reduceLeDiff, Nat.reduceEqDiff, Nat.reduceLT, reduceCtorEq, cut, Int.reduceLE, Int.reduceLT, Int.reduceToNat, Int.reduceEq, Int.reduceNeg, Int.reduceMul, Int.reduceAdd, Int.reduceSub, bC.u, bB.u, bN.u, bL.u, bD.u]
    · simp (maxSteps := 99999999) (disch := first | decide | omega | exact ok_of (by kernel_rfl)) only [m51, e1, e2, x1, x2, hv, Nat.reduceAdd, Nat.reduceMul, Nat.reduceLeDiff, Nat.reduceEqDiff, Nat.reduceLT, reduceCtorEq, cut, Int.reduceLE, Int.reduceLT, Int.reduceToNat, Int.reduceEq, Int.reduceNeg, Int.reduceMul, Int.reduceAdd, Int.reduceSub, bC.u, bB.u, bN.u, bL.u, bD.u]
end Go.Mini
