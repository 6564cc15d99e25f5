/- Oids of texts over Mini: the bytes; the whole. -/
import Derived.Test.YtncpjcojnjbhlaaGreatDoorD0
namespace Go.Mini
open Go Go.Proofs.YtncpjcojnjbhlaaGreatDoor
set_option maxRecDepth 10000
set_option linter.unusedSimpArgs false

theorem shr64 {n b : Int} (h0 : 0 ≤ b) (h1 : b ≤ 63) : shiftI .shr .i64 n b = some (.int .i64 (n / 2 ^ b.toNat)) := by
  obtain ⟨m, rfl⟩ := Int.eq_ofNat_of_zero_le h0
  unfold shiftI
  rw [if_neg (by omega)]
  simp only [Int.toNat_natCast]
  have e : min m IntKind.i64.bits = m := by show min m 64 = m; omega
  rw [e]
  congr 2
  have e2 : ((2 : Int) ^ m) = ((2 ^ m : Nat) : Int) := by simp
  rw [e2, Int.fdiv_eq_ediv_of_nonneg _ (Int.natCast_nonneg _)]
theorem fdivE {a b : Int} (h : 0 ≤ b) : a.fdiv b = a / b := Int.fdiv_eq_ediv_of_nonneg a h
theorem and64_127 {x : Int} (h0 : 0 ≤ x) (h1 : x ≤ 9223372036854775807) : IntKind.i64.wrap ((BitVec.ofInt IntKind.i64.bits x &&& BitVec.ofInt IntKind.i64.bits 127).toNat : Int) = x % 128 := by
  obtain ⟨n, rfl⟩ := Int.eq_ofNat_of_zero_le h0
  have e : (BitVec.ofInt IntKind.i64.bits (n : Int) &&& BitVec.ofInt IntKind.i64.bits 127).toNat = n % 128 := by
    show (BitVec.ofInt 64 (n : Int) &&& BitVec.ofInt 64 127).toNat = n % 128
    rw [BitVec.toNat_and, BitVec.ofInt_natCast, BitVec.toNat_ofNat]
    have : (BitVec.ofInt 64 127).toNat = 127 := by decide
    rw [this, Nat.mod_eq_of_lt (by omega), show 127 = 2 ^ 7 - 1 by decide, Nat.and_two_pow_sub_one_eq_mod]
  rw [e, w64 (by omega) (by omega)]
  omega
theorem or8_128 {m : Int} (h0 : 0 ≤ m) (h1 : m < 256) : IntKind.u8.wrap ((BitVec.ofInt IntKind.u8.bits m ||| BitVec.ofInt IntKind.u8.bits 128).toNat : Int) = ((UInt8.ofNat m.toNat ||| 128).toNat : Int) := by
  obtain ⟨n, rfl⟩ := Int.eq_ofNat_of_zero_le h0
  have := or8 (UInt8.ofNat n) 128
  have e : ((UInt8.ofNat n).toNat : Int) = (n : Int) := by rw [UInt8.toNat_ofNat']; omega
  rw [e] at this
  exact this

def V2 (out : List UInt8) (n sh : Int) (tl : List MV) (len i : Int) : List (Nat × MV) := [(2, .ptr 0 0), (10, .own 1 out.length), (12, .int .i64 n), (13, .int .i64 sh), (99, .sl 1 tl), (100, .int .i64 len), (101, .int .i64 i)]
def V1 (a : Nat) (out : List UInt8) (tl : List MV) (len i : Int) : List (Nat × MV) := [(2, .ptr 0 0), (10, .own a out.length), (99, .sl 1 tl), (100, .int .i64 len), (101, .int .i64 i)]
def OB (a : Nat) (out : List UInt8) : List (Nat × Obj) := [(0, .cells zero5), (a, .byt out false)]

theorem stop (out : List UInt8) (n : Int) (tl : List MV) (len i : Int) (K : List Item) : RunL Q m53k2 m53b2 (.blk 4 :: K) ⟨V2 out n (-7) tl len i, [], OB 1 out, 3⟩ = Run Q K ⟨(106, .bool false) :: V2 out n (-7) tl len i, [], OB 1 out, 11⟩ := by
  obtain ⟨b', hb'⟩ : ∃ b', b' = m53b2 := ⟨_, rfl⟩
  rw [RunL_eq, show Item.lp m53k2 m53b2 = Item.lp m53k2 b' by rw [hb']]
  simp (maxSteps := 99999999) (disch := first | decide | omega | exact ok_of (by kernel_rfl)) only [m53b2, V2, OB, Nat.reduceAdd, Nat.reduceMul, Nat.reduceLeDiff, Nat.reduceEqDiff, Nat.reduceLT, reduceCtorEq, cut, Nat.reducePow, Int.reduceDiv, Int.reduceMod, Int.reduceBNe, Int.reduceBEq, Int.reduceLE, Int.reduceLT, Int.reduceToNat, Int.reduceEq, Int.reduceNeg, Int.reduceMul, Int.reduceAdd, Int.reduceSub, bC.u, bD.u]

theorem e0 (out : List UInt8) (n : Int) (hn : 0 ≤ n ∧ n < 9223372036854775807) (ho : out.length < 1000) (tl : List MV) (len i : Int) (K : List Item) : RunL Q m53k2 m53b2 (.blk 4 :: K) ⟨V2 out n 0 tl len i, [], OB 1 out, 3⟩ = Run Q K ⟨(106, .bool false) :: V2 (out ++ encD n []) n (-7) tl len i, [], OB 1 (out ++ encD n []), 11⟩ := by
  obtain ⟨rhs, hr⟩ : ∃ r, r = Run Q K ⟨(106, .bool false) :: V2 (out ++ encD n []) n (-7) tl len i, [], OB 1 (out ++ encD n []), 11⟩ := ⟨_, rfl⟩
  rw [← hr]
  obtain ⟨b', hb'⟩ : ∃ b', b' = m53b2 := ⟨_, rfl⟩
  have hcap : out.length + 1 ≤ 2 ^ 47 := by omega
  rw [RunL_eq, show Item.lp m53k2 m53b2 = Item.lp m53k2 b' by rw [hb']]
  simp (maxSteps := 99999999) (disch := first | decide | omega | exact ok_of (by kernel_rfl)) only [m53b2, V2, OB, hcap, shr64, Int.ediv_one, Int.reducePow, and64_127, Nat.reduceAdd, Nat.reduceMul, Nat.reduceLeDiff, Nat.reduceEqDiff, Nat.reduceLT, reduceCtorEq, cut, Nat.reducePow, Int.reduceDiv, Int.reduceMod, Int.reduceBNe, Int.reduceBEq, Int.reduceLE, Int.reduceLT, Int.reduceToNat, Int.reduceEq, Int.reduceNeg, Int.reduceMul, Int.reduceAdd, Int.reduceSub, bC.u, bN.u, bR.u, bD.u]
  subst hb'
  rw [Run_lp, hr]
  have ve : ∀ b : UInt8, [(2, MV.ptr 0 0), (10, .own 1 (out.length + 1)), (12, .int .i64 n), (13, .int .i64 (-7)), (99, .sl 1 tl), (100, .int .i64 len), (101, .int .i64 i)] = V2 (out ++ [b]) n (-7) tl len i := fun b => by simp [V2]
  exact (RunL_canon (canon_cong (Eq.trans (by kernel_rfl) (ve _)) (by kernel_rfl) (by kernel_rfl))).trans (stop _ n tl len i K)

theorem e1 (out : List UInt8) (n : Int) (hn : 0 ≤ n ∧ n < 9223372036854775807) (ho : out.length < 999) (tl : List MV) (len i : Int) (K : List Item) : RunL Q m53k2 m53b2 (.blk 4 :: K) ⟨V2 out n 7 tl len i, [], OB 1 out, 3⟩ = Run Q K ⟨(106, .bool false) :: V2 (out ++ encD n [128]) n (-7) tl len i, [], OB 1 (out ++ encD n [128]), 11⟩ := by
  obtain ⟨rhs, hr⟩ : ∃ r, r = Run Q K ⟨(106, .bool false) :: V2 (out ++ encD n [128]) n (-7) tl len i, [], OB 1 (out ++ encD n [128]), 11⟩ := ⟨_, rfl⟩
  rw [← hr]
  obtain ⟨b', hb'⟩ : ∃ b', b' = m53b2 := ⟨_, rfl⟩
  have hcap : out.length + 1 ≤ 2 ^ 47 := by omega
  rw [RunL_eq, show Item.lp m53k2 m53b2 = Item.lp m53k2 b' by rw [hb']]
  by_cases hd : 0 < n / 128
  · have hd' : decide (0 < n / 128) = true := by simp; omega
    have hp : part n 128 = [UInt8.ofNat (n / 128 % 128).toNat ||| 128] := if_pos hd
    simp (maxSteps := 99999999) (disch := first | decide | omega | exact ok_of (by kernel_rfl)) only [m53b2, V2, OB, hd', hcap, shr64, Int.ediv_one, Int.reducePow, and64_127, or8_128, Nat.reduceAdd, Nat.reduceMul, Nat.reduceLeDiff, Nat.reduceEqDiff, Nat.reduceLT, reduceCtorEq, cut, Nat.reducePow, Int.reduceDiv, Int.reduceMod, Int.reduceBNe, Int.reduceBEq, Int.reduceLE, Int.reduceLT, Int.reduceToNat, Int.reduceEq, Int.reduceNeg, Int.reduceMul, Int.reduceAdd, Int.reduceSub, bC.u, bN.u, bR.u, bD.u]
    subst hb'
    rw [Run_lp, hr]
    have ve : ∀ b : UInt8, [(2, MV.ptr 0 0), (10, .own 1 (out.length + 1)), (12, .int .i64 n), (13, .int .i64 0), (99, .sl 1 tl), (100, .int .i64 len), (101, .int .i64 i)] = V2 (out ++ [b]) n 0 tl len i := fun b => by simp [V2]
    have ih := e0 (out ++ [UInt8.ofNat (n / 128 % 128).toNat ||| 128]) n hn (by simp; omega) tl len i K
    rw [show encD n [128] = part n 128 ++ encD n [] from rfl, hp, ← List.append_assoc]
    exact (RunL_canon (canon_cong (Eq.trans (by kernel_rfl) (ve _)) (by kernel_rfl) (by kernel_rfl))).trans ih
  · have hd' : decide (0 < n / 128) = false := by simp; omega
    have hp : part n 128 = [] := if_neg hd
    simp (maxSteps := 99999999) (disch := first | decide | omega | exact ok_of (by kernel_rfl)) only [m53b2, V2, OB, hd', hcap, shr64, Int.ediv_one, Int.reducePow, and64_127, or8_128, Nat.reduceAdd, Nat.reduceMul, Nat.reduceLeDiff, Nat.reduceEqDiff, Nat.reduceLT, reduceCtorEq, cut, Nat.reducePow, Int.reduceDiv, Int.reduceMod, Int.reduceBNe, Int.reduceBEq, Int.reduceLE, Int.reduceLT, Int.reduceToNat, Int.reduceEq, Int.reduceNeg, Int.reduceMul, Int.reduceAdd, Int.reduceSub, bC.u, bN.u, bR.u, bD.u]
    subst hb'
    rw [Run_lp, hr]
    have ih := e0 out n hn (by omega) tl len i K
    rw [show encD n [128] = part n 128 ++ encD n [] from rfl, hp, List.nil_append]
    exact (RunL_canon (canon_cong (by kernel_rfl) (by kernel_rfl) (by kernel_rfl))).trans ih

theorem e2 (out : List UInt8) (n : Int) (hn : 0 ≤ n ∧ n < 9223372036854775807) (ho : out.length < 998) (tl : List MV) (len i : Int) (K : List Item) : RunL Q m53k2 m53b2 (.blk 4 :: K) ⟨V2 out n 14 tl len i, [], OB 1 out, 3⟩ = Run Q K ⟨(106, .bool false) :: V2 (out ++ encD n [16384, 128]) n (-7) tl len i, [], OB 1 (out ++ encD n [16384, 128]), 11⟩ := by
  obtain ⟨rhs, hr⟩ : ∃ r, r = Run Q K ⟨(106, .bool false) :: V2 (out ++ encD n [16384, 128]) n (-7) tl len i, [], OB 1 (out ++ encD n [16384, 128]), 11⟩ := ⟨_, rfl⟩
  rw [← hr]
  obtain ⟨b', hb'⟩ : ∃ b', b' = m53b2 := ⟨_, rfl⟩
  have hcap : out.length + 1 ≤ 2 ^ 47 := by omega
  rw [RunL_eq, show Item.lp m53k2 m53b2 = Item.lp m53k2 b' by rw [hb']]
  by_cases hd : 0 < n / 16384
  · have hd' : decide (0 < n / 16384) = true := by simp; omega
    have hp : part n 16384 = [UInt8.ofNat (n / 16384 % 128).toNat ||| 128] := if_pos hd
    simp (maxSteps := 99999999) (disch := first | decide | omega | exact ok_of (by kernel_rfl)) only [m53b2, V2, OB, hd', hcap, shr64, Int.ediv_one, Int.reducePow, and64_127, or8_128, Nat.reduceAdd, Nat.reduceMul, Nat.reduceLeDiff, Nat.reduceEqDiff, Nat.reduceLT, reduceCtorEq, cut, Nat.reducePow, Int.reduceDiv, Int.reduceMod, Int.reduceBNe, Int.reduceBEq, Int.reduceLE, Int.reduceLT, Int.reduceToNat, Int.reduceEq, Int.reduceNeg, Int.reduceMul, Int.reduceAdd, Int.reduceSub, bC.u, bN.u, bR.u, bD.u]
    subst hb'
    rw [Run_lp, hr]
    have ve : ∀ b : UInt8, [(2, MV.ptr 0 0), (10, .own 1 (out.length + 1)), (12, .int .i64 n), (13, .int .i64 7), (99, .sl 1 tl), (100, .int .i64 len), (101, .int .i64 i)] = V2 (out ++ [b]) n 7 tl len i := fun b => by simp [V2]
    have ih := e1 (out ++ [UInt8.ofNat (n / 16384 % 128).toNat ||| 128]) n hn (by simp; omega) tl len i K
    rw [show encD n [16384, 128] = part n 16384 ++ encD n [128] from rfl, hp, ← List.append_assoc]
    exact (RunL_canon (canon_cong (Eq.trans (by kernel_rfl) (ve _)) (by kernel_rfl) (by kernel_rfl))).trans ih
  · have hd' : decide (0 < n / 16384) = false := by simp; omega
    have hp : part n 16384 = [] := if_neg hd
    simp (maxSteps := 99999999) (disch := first | decide | omega | exact ok_of (by kernel_rfl)) only [m53b2, V2, OB, hd', hcap, shr64, Int.ediv_one, Int.reducePow, and64_127, or8_128, Nat.reduceAdd, Nat.reduceMul, Nat.reduceLeDiff, Nat.reduceEqDiff, Nat.reduceLT, reduceCtorEq, cut, Nat.reducePow, Int.reduceDiv, Int.reduceMod, Int.reduceBNe, Int.reduceBEq, Int.reduceLE, Int.reduceLT, Int.reduceToNat, Int.reduceEq, Int.reduceNeg, Int.reduceMul, Int.reduceAdd, Int.reduceSub, bC.u, bN.u, bR.u, bD.u]
    subst hb'
    rw [Run_lp, hr]
    have ih := e1 out n hn (by omega) tl len i K
    rw [show encD n [16384, 128] = part n 16384 ++ encD n [128] from rfl, hp, List.nil_append]
    exact (RunL_canon (canon_cong (by kernel_rfl) (by kernel_rfl) (by kernel_rfl))).trans ih

theorem e3 (out : List UInt8) (n : Int) (hn : 0 ≤ n ∧ n < 9223372036854775807) (ho : out.length < 997) (tl : List MV) (len i : Int) (K : List Item) : RunL Q m53k2 m53b2 (.blk 4 :: K) ⟨V2 out n 21 tl len i, [], OB 1 out, 3⟩ = Run Q K ⟨(106, .bool false) :: V2 (out ++ encD n [2097152, 16384, 128]) n (-7) tl len i, [], OB 1 (out ++ encD n [2097152, 16384, 128]), 11⟩ := by
  obtain ⟨rhs, hr⟩ : ∃ r, r = Run Q K ⟨(106, .bool false) :: V2 (out ++ encD n [2097152, 16384, 128]) n (-7) tl len i, [], OB 1 (out ++ encD n [2097152, 16384, 128]), 11⟩ := ⟨_, rfl⟩
  rw [← hr]
  obtain ⟨b', hb'⟩ : ∃ b', b' = m53b2 := ⟨_, rfl⟩
  have hcap : out.length + 1 ≤ 2 ^ 47 := by omega
  rw [RunL_eq, show Item.lp m53k2 m53b2 = Item.lp m53k2 b' by rw [hb']]
  by_cases hd : 0 < n / 2097152
  · have hd' : decide (0 < n / 2097152) = true := by simp; omega
    have hp : part n 2097152 = [UInt8.ofNat (n / 2097152 % 128).toNat ||| 128] := if_pos hd
    simp (maxSteps := 99999999) (disch := first | decide | omega | exact ok_of (by kernel_rfl)) only [m53b2, V2, OB, hd', hcap, shr64, Int.ediv_one, Int.reducePow, and64_127, or8_128, Nat.reduceAdd, Nat.reduceMul, Nat.reduceLeDiff, Nat.reduceEqDiff, Nat.reduceLT, reduceCtorEq, cut, Nat.reducePow, Int.reduceDiv, Int.reduceMod, Int.reduceBNe, Int.reduceBEq, Int.reduceLE, Int.reduceLT, Int.reduceToNat, Int.reduceEq, Int.reduceNeg, Int.reduceMul, Int.reduceAdd, Int.reduceSub, bC.u, bN.u, bR.u, bD.u]
    subst hb'
    rw [Run_lp, hr]
    have ve : ∀ b : UInt8, [(2, MV.ptr 0 0), (10, .own 1 (out.length + 1)), (12, .int .i64 n), (13, .int .i64 14), (99, .sl 1 tl), (100, .int .i64 len), (101, .int .i64 i)] = V2 (out ++ [b]) n 14 tl len i := fun b => by simp [V2]
    have ih := e2 (out ++ [UInt8.ofNat (n / 2097152 % 128).toNat ||| 128]) n hn (by simp; omega) tl len i K
    rw [show encD n [2097152, 16384, 128] = part n 2097152 ++ encD n [16384, 128] from rfl, hp, ← List.append_assoc]
    exact (RunL_canon (canon_cong (Eq.trans (by kernel_rfl) (ve _)) (by kernel_rfl) (by kernel_rfl))).trans ih
  · have hd' : decide (0 < n / 2097152) = false := by simp; omega
    have hp : part n 2097152 = [] := if_neg hd
    simp (maxSteps := 99999999) (disch := first | decide | omega | exact ok_of (by kernel_rfl)) only [m53b2, V2, OB, hd', hcap, shr64, Int.ediv_one, Int.reducePow, and64_127, or8_128, Nat.reduceAdd, Nat.reduceMul, Nat.reduceLeDiff, Nat.reduceEqDiff, Nat.reduceLT, reduceCtorEq, cut, Nat.reducePow, Int.reduceDiv, Int.reduceMod, Int.reduceBNe, Int.reduceBEq, Int.reduceLE, Int.reduceLT, Int.reduceToNat, Int.reduceEq, Int.reduceNeg, Int.reduceMul, Int.reduceAdd, Int.reduceSub, bC.u, bN.u, bR.u, bD.u]
    subst hb'
    rw [Run_lp, hr]
    have ih := e2 out n hn (by omega) tl len i K
    rw [show encD n [2097152, 16384, 128] = part n 2097152 ++ encD n [16384, 128] from rfl, hp, List.nil_append]
    exact (RunL_canon (canon_cong (by kernel_rfl) (by kernel_rfl) (by kernel_rfl))).trans ih

theorem e4 (out : List UInt8) (n : Int) (hn : 0 ≤ n ∧ n < 9223372036854775807) (ho : out.length < 996) (tl : List MV) (len i : Int) (K : List Item) : RunL Q m53k2 m53b2 (.blk 4 :: K) ⟨V2 out n 28 tl len i, [], OB 1 out, 3⟩ = Run Q K ⟨(106, .bool false) :: V2 (out ++ encD n [268435456, 2097152, 16384, 128]) n (-7) tl len i, [], OB 1 (out ++ encD n [268435456, 2097152, 16384, 128]), 11⟩ := by
  obtain ⟨rhs, hr⟩ : ∃ r, r = Run Q K ⟨(106, .bool false) :: V2 (out ++ encD n [268435456, 2097152, 16384, 128]) n (-7) tl len i, [], OB 1 (out ++ encD n [268435456, 2097152, 16384, 128]), 11⟩ := ⟨_, rfl⟩
  rw [← hr]
  obtain ⟨b', hb'⟩ : ∃ b', b' = m53b2 := ⟨_, rfl⟩
  have hcap : out.length + 1 ≤ 2 ^ 47 := by omega
  rw [RunL_eq, show Item.lp m53k2 m53b2 = Item.lp m53k2 b' by rw [hb']]
  by_cases hd : 0 < n / 268435456
  · have hd' : decide (0 < n / 268435456) = true := by simp; omega
    have hp : part n 268435456 = [UInt8.ofNat (n / 268435456 % 128).toNat ||| 128] := if_pos hd
    simp (maxSteps := 99999999) (disch := first | decide | omega | exact ok_of (by kernel_rfl)) only [m53b2, V2, OB, hd', hcap, shr64, Int.ediv_one, Int.reducePow, and64_127, or8_128, Nat.reduceAdd, Nat.reduceMul, Nat.reduceLeDiff, Nat.reduceEqDiff, Nat.reduceLT, reduceCtorEq, cut, Nat.reducePow, Int.reduceDiv, Int.reduceMod, Int.reduceBNe, Int.reduceBEq, Int.reduceLE, Int.reduceLT, Int.reduceToNat, Int.reduceEq, Int.reduceNeg, Int.reduceMul, Int.reduceAdd, Int.reduceSub, bC.u, bN.u, bR.u, bD.u]
    subst hb'
    rw [Run_lp, hr]
    have ve : ∀ b : UInt8, [(2, MV.ptr 0 0), (10, .own 1 (out.length + 1)), (12, .int .i64 n), (13, .int .i64 21), (99, .sl 1 tl), (100, .int .i64 len), (101, .int .i64 i)] = V2 (out ++ [b]) n 21 tl len i := fun b => by simp [V2]
    have ih := e3 (out ++ [UInt8.ofNat (n / 268435456 % 128).toNat ||| 128]) n hn (by simp; omega) tl len i K
    rw [show encD n [268435456, 2097152, 16384, 128] = part n 268435456 ++ encD n [2097152, 16384, 128] from rfl, hp, ← List.append_assoc]
    exact (RunL_canon (canon_cong (Eq.trans (by kernel_rfl) (ve _)) (by kernel_rfl) (by kernel_rfl))).trans ih
  · have hd' : decide (0 < n / 268435456) = false := by simp; omega
    have hp : part n 268435456 = [] := if_neg hd
    simp (maxSteps := 99999999) (disch := first | decide | omega | exact ok_of (by kernel_rfl)) only [m53b2, V2, OB, hd', hcap, shr64, Int.ediv_one, Int.reducePow, and64_127, or8_128, Nat.reduceAdd, Nat.reduceMul, Nat.reduceLeDiff, Nat.reduceEqDiff, Nat.reduceLT, reduceCtorEq, cut, Nat.reducePow, Int.reduceDiv, Int.reduceMod, Int.reduceBNe, Int.reduceBEq, Int.reduceLE, Int.reduceLT, Int.reduceToNat, Int.reduceEq, Int.reduceNeg, Int.reduceMul, Int.reduceAdd, Int.reduceSub, bC.u, bN.u, bR.u, bD.u]
    subst hb'
    rw [Run_lp, hr]
    have ih := e3 out n hn (by omega) tl len i K
    rw [show encD n [268435456, 2097152, 16384, 128] = part n 268435456 ++ encD n [2097152, 16384, 128] from rfl, hp, List.nil_append]
    exact (RunL_canon (canon_cong (by kernel_rfl) (by kernel_rfl) (by kernel_rfl))).trans ih

theorem e5 (out : List UInt8) (n : Int) (hn : 0 ≤ n ∧ n < 9223372036854775807) (ho : out.length < 995) (tl : List MV) (len i : Int) (K : List Item) : RunL Q m53k2 m53b2 (.blk 4 :: K) ⟨V2 out n 35 tl len i, [], OB 1 out, 3⟩ = Run Q K ⟨(106, .bool false) :: V2 (out ++ encD n [34359738368, 268435456, 2097152, 16384, 128]) n (-7) tl len i, [], OB 1 (out ++ encD n [34359738368, 268435456, 2097152, 16384, 128]), 11⟩ := by
  obtain ⟨rhs, hr⟩ : ∃ r, r = Run Q K ⟨(106, .bool false) :: V2 (out ++ encD n [34359738368, 268435456, 2097152, 16384, 128]) n (-7) tl len i, [], OB 1 (out ++ encD n [34359738368, 268435456, 2097152, 16384, 128]), 11⟩ := ⟨_, rfl⟩
  rw [← hr]
  obtain ⟨b', hb'⟩ : ∃ b', b' = m53b2 := ⟨_, rfl⟩
  have hcap : out.length + 1 ≤ 2 ^ 47 := by omega
  rw [RunL_eq, show Item.lp m53k2 m53b2 = Item.lp m53k2 b' by rw [hb']]
  by_cases hd : 0 < n / 34359738368
  · have hd' : decide (0 < n / 34359738368) = true := by simp; omega
    have hp : part n 34359738368 = [UInt8.ofNat (n / 34359738368 % 128).toNat ||| 128] := if_pos hd
    simp (maxSteps := 99999999) (disch := first | decide | omega | exact ok_of (by kernel_rfl)) only [m53b2, V2, OB, hd', hcap, shr64, Int.ediv_one, Int.reducePow, and64_127, or8_128, Nat.reduceAdd, Nat.reduceMul, Nat.reduceLeDiff, Nat.reduceEqDiff, Nat.reduceLT, reduceCtorEq, cut, Nat.reducePow, Int.reduceDiv, Int.reduceMod, Int.reduceBNe, Int.reduceBEq, Int.reduceLE, Int.reduceLT, Int.reduceToNat, Int.reduceEq, Int.reduceNeg, Int.reduceMul, Int.reduceAdd, Int.reduceSub, bC.u, bN.u, bR.u, bD.u]
    subst hb'
    rw [Run_lp, hr]
    have ve : ∀ b : UInt8, [(2, MV.ptr 0 0), (10, .own 1 (out.length + 1)), (12, .int .i64 n), (13, .int .i64 28), (99, .sl 1 tl), (100, .int .i64 len), (101, .int .i64 i)] = V2 (out ++ [b]) n 28 tl len i := fun b => by simp [V2]
    have ih := e4 (out ++ [UInt8.ofNat (n / 34359738368 % 128).toNat ||| 128]) n hn (by simp; omega) tl len i K
    rw [show encD n [34359738368, 268435456, 2097152, 16384, 128] = part n 34359738368 ++ encD n [268435456, 2097152, 16384, 128] from rfl, hp, ← List.append_assoc]
    exact (RunL_canon (canon_cong (Eq.trans (by kernel_rfl) (ve _)) (by kernel_rfl) (by kernel_rfl))).trans ih
  · have hd' : decide (0 < n / 34359738368) = false := by simp; omega
    have hp : part n 34359738368 = [] := if_neg hd
    simp (maxSteps := 99999999) (disch := first | decide | omega | exact ok_of (by kernel_rfl)) only [m53b2, V2, OB, hd', hcap, shr64, Int.ediv_one, Int.reducePow, and64_127, or8_128, Nat.reduceAdd, Nat.reduceMul, Nat.reduceLeDiff, Nat.reduceEqDiff, Nat.reduceLT, reduceCtorEq, cut, Nat.reducePow, Int.reduceDiv, Int.reduceMod, Int.reduceBNe, Int.reduceBEq, Int.reduceLE, Int.reduceLT, Int.reduceToNat, Int.reduceEq, Int.reduceNeg, Int.reduceMul, Int.reduceAdd, Int.reduceSub, bC.u, bN.u, bR.u, bD.u]
    subst hb'
    rw [Run_lp, hr]
    have ih := e4 out n hn (by omega) tl len i K
    rw [show encD n [34359738368, 268435456, 2097152, 16384, 128] = part n 34359738368 ++ encD n [268435456, 2097152, 16384, 128] from rfl, hp, List.nil_append]
    exact (RunL_canon (canon_cong (by kernel_rfl) (by kernel_rfl) (by kernel_rfl))).trans ih

end Go.Mini
