/- General names: the program's over Mini: right? as values. -/
import Derived.Test.YtncpjcojnjbhlaaGreatDoorG14
namespace Go.Mini
open Go Go.Proofs.YtncpjcojnjbhlaaGreatDoor
set_option maxRecDepth 10000
set_option maxHeartbeats 40000000
set_option linter.unusedSimpArgs false


def R77 : List (Nat × Option (Bool × Nat) × PK) := [(2, none, .other)]
def V77 (m : List UInt8) (over : Bool) (n i : Int) : List (Nat × MV) := [(0, .str m), (3, .bool over), (8, .int .i64 n), (9, .int .i64 i)]
def K77 : List Item := [.blk 0, .code (.seq (.rg [⟨some (.v 2), .mv (.c (.bool true)), none⟩]) .ret)]
theorem and1t (y : UInt8) : (((y &&& 1).toNat : Int) == 1) = (y &&& 1 == 1) := eq8 (y &&& 1) 1
theorem c77_loop (m : List UInt8) (hm : m.length < 1000000) : ∀ (k : Nat) (over : Bool) (i : Nat), i + k = 8 * m.length →
    fin R77 (RunL Q m77k0 m77b0 K77 ⟨V77 m over (8 * (m.length : Int)) i, [], [], 1⟩) = some (.bool (maskR m k over i))
  | 0, over, i, hi => by
    have hi' : i = 8 * m.length := by omega
    subst hi'
    have hlt : decide (((8 * m.length : Nat) : Int) < 8 * (m.length : Int)) = false := by simp
    obtain ⟨b', hb'⟩ : ∃ b', b' = m77b0 := ⟨_, rfl⟩
    rw [RunL_eq, show Item.lp m77k0 m77b0 = Item.lp m77k0 b' by rw [hb']]
    simp (maxSteps := 99999999) (disch := first | decide | omega | exact ok_of (by kernel_rfl)) only [m77b0, V77, K77, R77, hlt, Nat.reduceAdd, Nat.reduceMul, Nat.reduceLeDiff, Nat.reduceEqDiff, Nat.reduceLT, reduceCtorEq, cut, Int.reduceLE, Int.reduceLT, Int.reduceToNat, Int.reduceEq, Int.reduceNeg, Int.reduceMul, Int.reduceAdd, Int.reduceSub, bC.u, bN.u, bD.u]
    rfl
  | k + 1, over, i, hi => by
    have hlt : decide ((i : Int) < 8 * (m.length : Int)) = true := by simp; omega
    have i0 : (0 : Int) ≤ (i : Int) := by omega
    have e : ((i : Int) + 1) = ((i + 1 : Nat) : Int) := by omega
    have tdi : (i : Int).tdiv 8 = ((i / 8 : Nat) : Int) := by rw [Int.tdiv_eq_ediv_of_nonneg i0]; omega
    have j0 : (0 : Int) ≤ ((i / 8 : Nat) : Int) := by omega
    have j1 : ((i / 8 : Nat) : Int) < (m.length : Int) := by omega
    have es : (7 - (i : Int) % 8).toNat = 7 - i % 8 := by omega
    have i7 : (0 : Int) ≤ 7 - (i : Int) % 8 := by omega
    have i8 : 7 - (i : Int) % 8 < 8 := by omega
    have tm8 : (i : Int).tmod 8 = (i : Int) % 8 := Int.tmod_eq_emod_of_nonneg i0
    unfold maskR oneB
    generalize hx : m.getD (i / 8) 0 = x
    have ih := fun over' => c77_loop m hm k over' (i + 1) (by omega)
    obtain ⟨b', hb'⟩ : ∃ b', b' = m77b0 := ⟨_, rfl⟩
    rw [RunL_eq, show Item.lp m77k0 m77b0 = Item.lp m77k0 b' by rw [hb']]
    cases h1 : (x >>> UInt8.ofNat (7 - i % 8) &&& 1 == 1)
    · rw [Bool.false_and, if_neg (by decide), Bool.not_false, Bool.or_true, ← ih true]
      cases over
      · simp (maxSteps := 99999999) (disch := first | decide | omega | exact ok_of (by kernel_rfl)) only [m77b0, V77, K77, R77, hlt, i0, j0, j1, es, i7, i8, tm8, tdi, hx, and1t, h1, Nat.reduceAdd, Nat.reduceMul, Nat.reduceLeDiff, Nat.reduceEqDiff, Nat.reduceLT, reduceCtorEq, cut, Int.reduceLE, Int.reduceLT, Int.reduceToNat, Int.reduceEq, Int.reduceNeg, Int.reduceMul, Int.reduceAdd, Int.reduceSub, shr8, shr8_128, asB, UInt8.ofNat_toNat, and8_1, and8_127, eq8_1, eq8_0, eq8, w64, w8, and8, or8, xor8, bC.u, bB.u, bL.u, bD.u]
        subst hb'
        refine ((congrArg (fin _) (Run_lp Q _ _ _ _)).trans ?_)
        exact congrArg (fin R77) (RunL_canon (canon_cong (Eq.trans (by kernel_rfl) (show [(0, MV.str m), (3, .bool true), (8, .int .i64 (8 * (m.length : Int))), (9, .int .i64 ((i : Int) + 1))] = V77 m true (8 * (m.length : Int)) (i + 1 : Nat) from by rw [e]; rfl)) (by kernel_rfl) (by kernel_rfl)))
      · simp (maxSteps := 99999999) (disch := first | decide | omega | exact ok_of (by kernel_rfl)) only [m77b0, V77, K77, R77, hlt, i0, j0, j1, es, i7, i8, tm8, tdi, hx, and1t, h1, Nat.reduceAdd, Nat.reduceMul, Nat.reduceLeDiff, Nat.reduceEqDiff, Nat.reduceLT, reduceCtorEq, cut, Int.reduceLE, Int.reduceLT, Int.reduceToNat, Int.reduceEq, Int.reduceNeg, Int.reduceMul, Int.reduceAdd, Int.reduceSub, shr8, shr8_128, asB, UInt8.ofNat_toNat, and8_1, and8_127, eq8_1, eq8_0, eq8, w64, w8, and8, or8, xor8, bC.u, bB.u, bL.u, bD.u]
        subst hb'
        refine ((congrArg (fin _) (Run_lp Q _ _ _ _)).trans ?_)
        exact congrArg (fin R77) (RunL_canon (canon_cong (Eq.trans (by kernel_rfl) (show [(0, MV.str m), (3, .bool true), (8, .int .i64 (8 * (m.length : Int))), (9, .int .i64 ((i : Int) + 1))] = V77 m true (8 * (m.length : Int)) (i + 1 : Nat) from by rw [e]; rfl)) (by kernel_rfl) (by kernel_rfl)))
    · cases over
      · rw [Bool.and_false, if_neg (by decide), Bool.not_true, Bool.or_false, ← ih false]
        simp (maxSteps := 99999999) (disch := first | decide | omega | exact ok_of (by kernel_rfl)) only [m77b0, V77, K77, R77, hlt, i0, j0, j1, es, i7, i8, tm8, tdi, hx, and1t, h1, Nat.reduceAdd, Nat.reduceMul, Nat.reduceLeDiff, Nat.reduceEqDiff, Nat.reduceLT, reduceCtorEq, cut, Int.reduceLE, Int.reduceLT, Int.reduceToNat, Int.reduceEq, Int.reduceNeg, Int.reduceMul, Int.reduceAdd, Int.reduceSub, shr8, shr8_128, asB, UInt8.ofNat_toNat, and8_1, and8_127, eq8_1, eq8_0, eq8, w64, w8, and8, or8, xor8, bC.u, bB.u, bL.u, bD.u]
        subst hb'
        refine ((congrArg (fin _) (Run_lp Q _ _ _ _)).trans ?_)
        exact congrArg (fin R77) (RunL_canon (canon_cong (Eq.trans (by kernel_rfl) (show [(0, MV.str m), (3, .bool false), (8, .int .i64 (8 * (m.length : Int))), (9, .int .i64 ((i : Int) + 1))] = V77 m false (8 * (m.length : Int)) (i + 1 : Nat) from by rw [e]; rfl)) (by kernel_rfl) (by kernel_rfl)))
      · rw [Bool.and_true, if_pos rfl]
        simp (maxSteps := 99999999) (disch := first | decide | omega | exact ok_of (by kernel_rfl)) only [m77b0, V77, K77, R77, hlt, i0, j0, j1, es, i7, i8, tm8, tdi, hx, and1t, h1, Nat.reduceAdd, Nat.reduceMul, Nat.reduceLeDiff, Nat.reduceEqDiff, Nat.reduceLT, reduceCtorEq, cut, Int.reduceLE, Int.reduceLT, Int.reduceToNat, Int.reduceEq, Int.reduceNeg, Int.reduceMul, Int.reduceAdd, Int.reduceSub, shr8, shr8_128, asB, UInt8.ofNat_toNat, and8_1, and8_127, eq8_1, eq8_0, eq8, w64, w8, and8, or8, xor8, bC.u, bB.u, bL.u, bD.u]
theorem c77 (m : List UInt8) (hm : m.length < 1000000) : Call Q 77 [.str m] = some (.bool (maskB m)) := by
  unfold maskB
  rw [Call_fn Q (m := m77) rfl rfl, ← c77_loop m hm (8 * m.length) false 0 (by omega)]
  simp (maxSteps := 99999999) (disch := first | decide | omega | exact ok_of (by kernel_rfl)) only [m77, Run_loop, Nat.reduceAdd, Nat.reduceMul, Nat.reduceLeDiff, Nat.reduceEqDiff, Nat.reduceLT, reduceCtorEq, cut, Int.reduceLE, Int.reduceLT, Int.reduceToNat, Int.reduceEq, Int.reduceNeg, Int.reduceMul, Int.reduceAdd, Int.reduceSub, bC.u, bN.u, bD.u]
  exact congrArg (fin R77) (RunL_canon (canon_cong (by kernel_rfl) (by kernel_rfl) (by kernel_rfl)))

theorem c43 (k : Int) (t : List UInt8) (dv : MV) (d : Dn) (hdv : isDir dv d) (ht : t.length < 1000000) (lim : Bool) : Call Q 43 [gM k t dv, .bool lim] = some (.bool (rightB k t d lim)) := by
  have hal := attrs_length d
  have e0 : decide ((0 : Int) < (d.length : Int)) = decide (0 < d.length) := by rw [Bool.eq_iff_iff]; simp
  have e1 : decide ((0 : Int) < (t.length : Int)) = decide (0 < t.length) := by rw [Bool.eq_iff_iff]; simp
  have e2 : decide ((t.length : Int) ≤ 64) = decide (t.length ≤ 64) := by rw [Bool.eq_iff_iff]; simp; omega
  have s4 : ((t.length : Int) == 4) = decide (t.length = 4) := by rw [Bool.eq_iff_iff]; simp; omega
  have s16 : ((t.length : Int) == 16) = decide (t.length = 16) := by rw [Bool.eq_iff_iff]; simp; omega
  have s8 : ((t.length : Int) == 8) = decide (t.length = 8) := by rw [Bool.eq_iff_iff]; simp; omega
  have s32 : ((t.length : Int) == 32) = decide (t.length = 32) := by rw [Bool.eq_iff_iff]; simp; omega
  have h77 := c77 (t.drop (t.length / 2)) (by rw [List.length_drop]; omega)
  have tdl : (t.length : Int).tdiv 2 = ((t.length / 2 : Nat) : Int) := by rw [Int.tdiv_eq_ediv_of_nonneg (by omega)]; omega
  have hc := cut_from (s := t) (i := ((t.length / 2 : Nat) : Int)) (k := t.length / 2) rfl (by omega)
  have h65 := c65 78 high t ht (fits_high t)
  unfold rightB gM
  rw [high_eq, Call_fn Q (m := m43) rfl rfl]
  rcases hdv with rfl | ⟨rfl, rfl⟩
  · by_cases h4 : k = 4
    · have q4 : (k == 4) = true := by rw [h4]; rfl
      rw [if_pos h4]
      cases lim
      · simp (maxSteps := 99999999) (disch := first | decide | omega | exact ok_of (by kernel_rfl)) only [m43, hal, e0, e1, e2, s4, s16, s8, s32, h77, tdl, hc, h65, q4, Nat.reduceAdd, Nat.reduceMul, Nat.reduceLeDiff, Nat.reduceEqDiff, Nat.reduceLT, reduceCtorEq, Int.reduceLE, Int.reduceLT, Int.reduceToNat, Int.reduceEq, Int.reduceNeg, Int.reduceMul, Int.reduceAdd, Int.reduceSub, shr8, shr8_128, asB, UInt8.ofNat_toNat, and8_1, and8_127, eq8_1, eq8_0, eq8, w64, w8, and8, or8, xor8, bC.u, bB.u, bL.u, bR.u, bD.u]
      · simp (maxSteps := 99999999) (disch := first | decide | omega | exact ok_of (by kernel_rfl)) only [m43, hal, e0, e1, e2, s4, s16, s8, s32, h77, tdl, hc, h65, q4, Nat.reduceAdd, Nat.reduceMul, Nat.reduceLeDiff, Nat.reduceEqDiff, Nat.reduceLT, reduceCtorEq, Int.reduceLE, Int.reduceLT, Int.reduceToNat, Int.reduceEq, Int.reduceNeg, Int.reduceMul, Int.reduceAdd, Int.reduceSub, shr8, shr8_128, asB, UInt8.ofNat_toNat, and8_1, and8_127, eq8_1, eq8_0, eq8, w64, w8, and8, or8, xor8, bC.u, bB.u, bL.u, bR.u, bD.u]
    have q4 : (k == 4) = false := by rw [beq_eq_false_iff_ne]; exact h4
    rw [if_neg h4]
    by_cases h7 : k = 7
    · have q7 : (k == 7) = true := by rw [h7]; rfl
      rw [if_pos h7]
      cases lim
      · rw [if_neg (by decide)]
        cases x4 : decide (t.length = 4)
        · simp (maxSteps := 99999999) (disch := first | decide | omega | exact ok_of (by kernel_rfl)) only [m43, hal, e0, e1, e2, s4, s16, s8, s32, h77, tdl, hc, h65, q4, q7, x4, Nat.reduceAdd, Nat.reduceMul, Nat.reduceLeDiff, Nat.reduceEqDiff, Nat.reduceLT, reduceCtorEq, Int.reduceLE, Int.reduceLT, Int.reduceToNat, Int.reduceEq, Int.reduceNeg, Int.reduceMul, Int.reduceAdd, Int.reduceSub, shr8, shr8_128, asB, UInt8.ofNat_toNat, and8_1, and8_127, eq8_1, eq8_0, eq8, w64, w8, and8, or8, xor8, bC.u, bB.u, bL.u, bR.u, bD.u]
        · simp (maxSteps := 99999999) (disch := first | decide | omega | exact ok_of (by kernel_rfl)) only [m43, hal, e0, e1, e2, s4, s16, s8, s32, h77, tdl, hc, h65, q4, q7, x4, Nat.reduceAdd, Nat.reduceMul, Nat.reduceLeDiff, Nat.reduceEqDiff, Nat.reduceLT, reduceCtorEq, Int.reduceLE, Int.reduceLT, Int.reduceToNat, Int.reduceEq, Int.reduceNeg, Int.reduceMul, Int.reduceAdd, Int.reduceSub, shr8, shr8_128, asB, UInt8.ofNat_toNat, and8_1, and8_127, eq8_1, eq8_0, eq8, w64, w8, and8, or8, xor8, bC.u, bB.u, bL.u, bR.u, bD.u]
      · rw [if_pos rfl]
        cases x8 : decide (t.length = 8)
        · cases x32 : decide (t.length = 32)
          · simp (maxSteps := 99999999) (disch := first | decide | omega | exact ok_of (by kernel_rfl)) only [m43, hal, e0, e1, e2, s4, s16, s8, s32, h77, tdl, hc, h65, q4, q7, x8, x32, Nat.reduceAdd, Nat.reduceMul, Nat.reduceLeDiff, Nat.reduceEqDiff, Nat.reduceLT, reduceCtorEq, Int.reduceLE, Int.reduceLT, Int.reduceToNat, Int.reduceEq, Int.reduceNeg, Int.reduceMul, Int.reduceAdd, Int.reduceSub, shr8, shr8_128, asB, UInt8.ofNat_toNat, and8_1, and8_127, eq8_1, eq8_0, eq8, w64, w8, and8, or8, xor8, bC.u, bB.u, bL.u, bR.u, bD.u]
          · simp (maxSteps := 99999999) (disch := first | decide | omega | exact ok_of (by kernel_rfl)) only [m43, hal, e0, e1, e2, s4, s16, s8, s32, h77, tdl, hc, h65, q4, q7, x8, x32, Nat.reduceAdd, Nat.reduceMul, Nat.reduceLeDiff, Nat.reduceEqDiff, Nat.reduceLT, reduceCtorEq, Int.reduceLE, Int.reduceLT, Int.reduceToNat, Int.reduceEq, Int.reduceNeg, Int.reduceMul, Int.reduceAdd, Int.reduceSub, shr8, shr8_128, asB, UInt8.ofNat_toNat, and8_1, and8_127, eq8_1, eq8_0, eq8, w64, w8, and8, or8, xor8, bC.u, bB.u, bL.u, bR.u, bD.u]
        · simp (maxSteps := 99999999) (disch := first | decide | omega | exact ok_of (by kernel_rfl)) only [m43, hal, e0, e1, e2, s4, s16, s8, s32, h77, tdl, hc, h65, q4, q7, x8, Nat.reduceAdd, Nat.reduceMul, Nat.reduceLeDiff, Nat.reduceEqDiff, Nat.reduceLT, reduceCtorEq, Int.reduceLE, Int.reduceLT, Int.reduceToNat, Int.reduceEq, Int.reduceNeg, Int.reduceMul, Int.reduceAdd, Int.reduceSub, shr8, shr8_128, asB, UInt8.ofNat_toNat, and8_1, and8_127, eq8_1, eq8_0, eq8, w64, w8, and8, or8, xor8, bC.u, bB.u, bL.u, bR.u, bD.u]
    have q7 : (k == 7) = false := by rw [beq_eq_false_iff_ne]; exact h7
    rw [if_neg h7]
    cases x1 : decide (0 < t.length)
    · cases lim
      · simp (maxSteps := 99999999) (disch := first | decide | omega | exact ok_of (by kernel_rfl)) only [m43, hal, e0, e1, e2, s4, s16, s8, s32, h77, tdl, hc, h65, q4, q7, x1, Nat.reduceAdd, Nat.reduceMul, Nat.reduceLeDiff, Nat.reduceEqDiff, Nat.reduceLT, reduceCtorEq, Int.reduceLE, Int.reduceLT, Int.reduceToNat, Int.reduceEq, Int.reduceNeg, Int.reduceMul, Int.reduceAdd, Int.reduceSub, shr8, shr8_128, asB, UInt8.ofNat_toNat, and8_1, and8_127, eq8_1, eq8_0, eq8, w64, w8, and8, or8, xor8, bC.u, bB.u, bL.u, bR.u, bD.u]
      · cases x2 : decide (t.length ≤ 64)
        · simp (maxSteps := 99999999) (disch := first | decide | omega | exact ok_of (by kernel_rfl)) only [m43, hal, e0, e1, e2, s4, s16, s8, s32, h77, tdl, hc, h65, q4, q7, x1, x2, Nat.reduceAdd, Nat.reduceMul, Nat.reduceLeDiff, Nat.reduceEqDiff, Nat.reduceLT, reduceCtorEq, Int.reduceLE, Int.reduceLT, Int.reduceToNat, Int.reduceEq, Int.reduceNeg, Int.reduceMul, Int.reduceAdd, Int.reduceSub, shr8, shr8_128, asB, UInt8.ofNat_toNat, and8_1, and8_127, eq8_1, eq8_0, eq8, w64, w8, and8, or8, xor8, bC.u, bB.u, bL.u, bR.u, bD.u]
        · simp (maxSteps := 99999999) (disch := first | decide | omega | exact ok_of (by kernel_rfl)) only [m43, hal, e0, e1, e2, s4, s16, s8, s32, h77, tdl, hc, h65, q4, q7, x1, x2, Nat.reduceAdd, Nat.reduceMul, Nat.reduceLeDiff, Nat.reduceEqDiff, Nat.reduceLT, reduceCtorEq, Int.reduceLE, Int.reduceLT, Int.reduceToNat, Int.reduceEq, Int.reduceNeg, Int.reduceMul, Int.reduceAdd, Int.reduceSub, shr8, shr8_128, asB, UInt8.ofNat_toNat, and8_1, and8_127, eq8_1, eq8_0, eq8, w64, w8, and8, or8, xor8, bC.u, bB.u, bL.u, bR.u, bD.u]
    · cases x2 : decide (t.length ≤ 64)
      · simp (maxSteps := 99999999) (disch := first | decide | omega | exact ok_of (by kernel_rfl)) only [m43, hal, e0, e1, e2, s4, s16, s8, s32, h77, tdl, hc, h65, q4, q7, x1, x2, Nat.reduceAdd, Nat.reduceMul, Nat.reduceLeDiff, Nat.reduceEqDiff, Nat.reduceLT, reduceCtorEq, Int.reduceLE, Int.reduceLT, Int.reduceToNat, Int.reduceEq, Int.reduceNeg, Int.reduceMul, Int.reduceAdd, Int.reduceSub, shr8, shr8_128, asB, UInt8.ofNat_toNat, and8_1, and8_127, eq8_1, eq8_0, eq8, w64, w8, and8, or8, xor8, bC.u, bB.u, bL.u, bR.u, bD.u]
      · simp (maxSteps := 99999999) (disch := first | decide | omega | exact ok_of (by kernel_rfl)) only [m43, hal, e0, e1, e2, s4, s16, s8, s32, h77, tdl, hc, h65, q4, q7, x1, x2, Nat.reduceAdd, Nat.reduceMul, Nat.reduceLeDiff, Nat.reduceEqDiff, Nat.reduceLT, reduceCtorEq, Int.reduceLE, Int.reduceLT, Int.reduceToNat, Int.reduceEq, Int.reduceNeg, Int.reduceMul, Int.reduceAdd, Int.reduceSub, shr8, shr8_128, asB, UInt8.ofNat_toNat, and8_1, and8_127, eq8_1, eq8_0, eq8, w64, w8, and8, or8, xor8, bC.u, bB.u, bL.u, bR.u, bD.u]
  · by_cases h4 : k = 4
    · have q4 : (k == 4) = true := by rw [h4]; rfl
      rw [if_pos h4]
      cases lim
      · simp (maxSteps := 99999999) (disch := first | decide | omega | exact ok_of (by kernel_rfl)) only [m43, hal, e0, e1, e2, s4, s16, s8, s32, h77, tdl, hc, h65, q4, Nat.reduceAdd, Nat.reduceMul, Nat.reduceLeDiff, Nat.reduceEqDiff, Nat.reduceLT, reduceCtorEq, Int.reduceLE, Int.reduceLT, Int.reduceToNat, Int.reduceEq, Int.reduceNeg, Int.reduceMul, Int.reduceAdd, Int.reduceSub, shr8, shr8_128, asB, UInt8.ofNat_toNat, and8_1, and8_127, eq8_1, eq8_0, eq8, w64, w8, and8, or8, xor8, bC.u, bB.u, bL.u, bR.u, bD.u]
      · simp (maxSteps := 99999999) (disch := first | decide | omega | exact ok_of (by kernel_rfl)) only [m43, hal, e0, e1, e2, s4, s16, s8, s32, h77, tdl, hc, h65, q4, Nat.reduceAdd, Nat.reduceMul, Nat.reduceLeDiff, Nat.reduceEqDiff, Nat.reduceLT, reduceCtorEq, Int.reduceLE, Int.reduceLT, Int.reduceToNat, Int.reduceEq, Int.reduceNeg, Int.reduceMul, Int.reduceAdd, Int.reduceSub, shr8, shr8_128, asB, UInt8.ofNat_toNat, and8_1, and8_127, eq8_1, eq8_0, eq8, w64, w8, and8, or8, xor8, bC.u, bB.u, bL.u, bR.u, bD.u]
    have q4 : (k == 4) = false := by rw [beq_eq_false_iff_ne]; exact h4
    rw [if_neg h4]
    by_cases h7 : k = 7
    · have q7 : (k == 7) = true := by rw [h7]; rfl
      rw [if_pos h7]
      cases lim
      · rw [if_neg (by decide)]
        cases x4 : decide (t.length = 4)
        · simp (maxSteps := 99999999) (disch := first | decide | omega | exact ok_of (by kernel_rfl)) only [m43, hal, e0, e1, e2, s4, s16, s8, s32, h77, tdl, hc, h65, q4, q7, x4, Nat.reduceAdd, Nat.reduceMul, Nat.reduceLeDiff, Nat.reduceEqDiff, Nat.reduceLT, reduceCtorEq, Int.reduceLE, Int.reduceLT, Int.reduceToNat, Int.reduceEq, Int.reduceNeg, Int.reduceMul, Int.reduceAdd, Int.reduceSub, shr8, shr8_128, asB, UInt8.ofNat_toNat, and8_1, and8_127, eq8_1, eq8_0, eq8, w64, w8, and8, or8, xor8, bC.u, bB.u, bL.u, bR.u, bD.u]
        · simp (maxSteps := 99999999) (disch := first | decide | omega | exact ok_of (by kernel_rfl)) only [m43, hal, e0, e1, e2, s4, s16, s8, s32, h77, tdl, hc, h65, q4, q7, x4, Nat.reduceAdd, Nat.reduceMul, Nat.reduceLeDiff, Nat.reduceEqDiff, Nat.reduceLT, reduceCtorEq, Int.reduceLE, Int.reduceLT, Int.reduceToNat, Int.reduceEq, Int.reduceNeg, Int.reduceMul, Int.reduceAdd, Int.reduceSub, shr8, shr8_128, asB, UInt8.ofNat_toNat, and8_1, and8_127, eq8_1, eq8_0, eq8, w64, w8, and8, or8, xor8, bC.u, bB.u, bL.u, bR.u, bD.u]
      · rw [if_pos rfl]
        cases x8 : decide (t.length = 8)
        · cases x32 : decide (t.length = 32)
          · simp (maxSteps := 99999999) (disch := first | decide | omega | exact ok_of (by kernel_rfl)) only [m43, hal, e0, e1, e2, s4, s16, s8, s32, h77, tdl, hc, h65, q4, q7, x8, x32, Nat.reduceAdd, Nat.reduceMul, Nat.reduceLeDiff, Nat.reduceEqDiff, Nat.reduceLT, reduceCtorEq, Int.reduceLE, Int.reduceLT, Int.reduceToNat, Int.reduceEq, Int.reduceNeg, Int.reduceMul, Int.reduceAdd, Int.reduceSub, shr8, shr8_128, asB, UInt8.ofNat_toNat, and8_1, and8_127, eq8_1, eq8_0, eq8, w64, w8, and8, or8, xor8, bC.u, bB.u, bL.u, bR.u, bD.u]
          · simp (maxSteps := 99999999) (disch := first | decide | omega | exact ok_of (by kernel_rfl)) only [m43, hal, e0, e1, e2, s4, s16, s8, s32, h77, tdl, hc, h65, q4, q7, x8, x32, Nat.reduceAdd, Nat.reduceMul, Nat.reduceLeDiff, Nat.reduceEqDiff, Nat.reduceLT, reduceCtorEq, Int.reduceLE, Int.reduceLT, Int.reduceToNat, Int.reduceEq, Int.reduceNeg, Int.reduceMul, Int.reduceAdd, Int.reduceSub, shr8, shr8_128, asB, UInt8.ofNat_toNat, and8_1, and8_127, eq8_1, eq8_0, eq8, w64, w8, and8, or8, xor8, bC.u, bB.u, bL.u, bR.u, bD.u]
        · simp (maxSteps := 99999999) (disch := first | decide | omega | exact ok_of (by kernel_rfl)) only [m43, hal, e0, e1, e2, s4, s16, s8, s32, h77, tdl, hc, h65, q4, q7, x8, Nat.reduceAdd, Nat.reduceMul, Nat.reduceLeDiff, Nat.reduceEqDiff, Nat.reduceLT, reduceCtorEq, Int.reduceLE, Int.reduceLT, Int.reduceToNat, Int.reduceEq, Int.reduceNeg, Int.reduceMul, Int.reduceAdd, Int.reduceSub, shr8, shr8_128, asB, UInt8.ofNat_toNat, and8_1, and8_127, eq8_1, eq8_0, eq8, w64, w8, and8, or8, xor8, bC.u, bB.u, bL.u, bR.u, bD.u]
    have q7 : (k == 7) = false := by rw [beq_eq_false_iff_ne]; exact h7
    rw [if_neg h7]
    cases x1 : decide (0 < t.length)
    · cases lim
      · simp (maxSteps := 99999999) (disch := first | decide | omega | exact ok_of (by kernel_rfl)) only [m43, hal, e0, e1, e2, s4, s16, s8, s32, h77, tdl, hc, h65, q4, q7, x1, Nat.reduceAdd, Nat.reduceMul, Nat.reduceLeDiff, Nat.reduceEqDiff, Nat.reduceLT, reduceCtorEq, Int.reduceLE, Int.reduceLT, Int.reduceToNat, Int.reduceEq, Int.reduceNeg, Int.reduceMul, Int.reduceAdd, Int.reduceSub, shr8, shr8_128, asB, UInt8.ofNat_toNat, and8_1, and8_127, eq8_1, eq8_0, eq8, w64, w8, and8, or8, xor8, bC.u, bB.u, bL.u, bR.u, bD.u]
      · cases x2 : decide (t.length ≤ 64)
        · simp (maxSteps := 99999999) (disch := first | decide | omega | exact ok_of (by kernel_rfl)) only [m43, hal, e0, e1, e2, s4, s16, s8, s32, h77, tdl, hc, h65, q4, q7, x1, x2, Nat.reduceAdd, Nat.reduceMul, Nat.reduceLeDiff, Nat.reduceEqDiff, Nat.reduceLT, reduceCtorEq, Int.reduceLE, Int.reduceLT, Int.reduceToNat, Int.reduceEq, Int.reduceNeg, Int.reduceMul, Int.reduceAdd, Int.reduceSub, shr8, shr8_128, asB, UInt8.ofNat_toNat, and8_1, and8_127, eq8_1, eq8_0, eq8, w64, w8, and8, or8, xor8, bC.u, bB.u, bL.u, bR.u, bD.u]
        · simp (maxSteps := 99999999) (disch := first | decide | omega | exact ok_of (by kernel_rfl)) only [m43, hal, e0, e1, e2, s4, s16, s8, s32, h77, tdl, hc, h65, q4, q7, x1, x2, Nat.reduceAdd, Nat.reduceMul, Nat.reduceLeDiff, Nat.reduceEqDiff, Nat.reduceLT, reduceCtorEq, Int.reduceLE, Int.reduceLT, Int.reduceToNat, Int.reduceEq, Int.reduceNeg, Int.reduceMul, Int.reduceAdd, Int.reduceSub, shr8, shr8_128, asB, UInt8.ofNat_toNat, and8_1, and8_127, eq8_1, eq8_0, eq8, w64, w8, and8, or8, xor8, bC.u, bB.u, bL.u, bR.u, bD.u]
    · cases x2 : decide (t.length ≤ 64)
      · simp (maxSteps := 99999999) (disch := first | decide | omega | exact ok_of (by kernel_rfl)) only [m43, hal, e0, e1, e2, s4, s16, s8, s32, h77, tdl, hc, h65, q4, q7, x1, x2, Nat.reduceAdd, Nat.reduceMul, Nat.reduceLeDiff, Nat.reduceEqDiff, Nat.reduceLT, reduceCtorEq, Int.reduceLE, Int.reduceLT, Int.reduceToNat, Int.reduceEq, Int.reduceNeg, Int.reduceMul, Int.reduceAdd, Int.reduceSub, shr8, shr8_128, asB, UInt8.ofNat_toNat, and8_1, and8_127, eq8_1, eq8_0, eq8, w64, w8, and8, or8, xor8, bC.u, bB.u, bL.u, bR.u, bD.u]
      · simp (maxSteps := 99999999) (disch := first | decide | omega | exact ok_of (by kernel_rfl)) only [m43, hal, e0, e1, e2, s4, s16, s8, s32, h77, tdl, hc, h65, q4, q7, x1, x2, Nat.reduceAdd, Nat.reduceMul, Nat.reduceLeDiff, Nat.reduceEqDiff, Nat.reduceLT, reduceCtorEq, Int.reduceLE, Int.reduceLT, Int.reduceToNat, Int.reduceEq, Int.reduceNeg, Int.reduceMul, Int.reduceAdd, Int.reduceSub, shr8, shr8_128, asB, UInt8.ofNat_toNat, and8_1, and8_127, eq8_1, eq8_0, eq8, w64, w8, and8, or8, xor8, bC.u, bB.u, bL.u, bR.u, bD.u]
end Go.Mini
