/- Oids of texts: the document's over Mini. -/
import Derived.Test.YtncpjcojnjbhlaaGreatDoorG7
namespace Go.Mini
open Go Go.Proofs.YtncpjcojnjbhlaaGreatDoor
set_option maxRecDepth 10000
set_option maxHeartbeats 40000000
set_option linter.unusedSimpArgs false


/-! ### The plain law -/
def partF : Nat → Int → List UInt8
  | 0, _ => []
  | k + 1, n => if n < 128 then [] else UInt8.ofNat (128 + n / 128 % 128).toNat :: partF k (n / 128)
def topF : Nat → Int → Int
  | 0, n => n
  | k + 1, n => if n < 128 then n else topF k (n / 128)
theorem or128 : ∀ m : Fin 128, UInt8.ofNat (128 + m.val) = UInt8.ofNat m.val ||| 128 := by decide
theorem or128_of {x : Int} (h0 : 0 ≤ x) : UInt8.ofNat (128 + x % 128).toNat = UInt8.ofNat (x % 128).toNat ||| 128 := by
  have h1 : 0 ≤ x % 128 := by omega
  obtain ⟨m, hm⟩ := Int.eq_ofNat_of_zero_le h1
  rw [hm]
  have := or128 ⟨m, by omega⟩
  simp only at this
  rw [show (128 + (m : Int)).toNat = 128 + m by omega, show ((m : Nat) : Int).toNat = m by omega]
  exact this
theorem enc_eq (n : Int) (h0 : 0 ≤ n) (h1 : n < 4398046511104) : enc n = (UInt8.ofNat (n % 128).toNat :: partF 6 n).reverse := by
  have o0 := or128_of (x := n / 128) (by omega)
  have o1 := or128_of (x := n / 16384) (by omega)
  have o2 := or128_of (x := n / 2097152) (by omega)
  have o3 := or128_of (x := n / 268435456) (by omega)
  have o4 := or128_of (x := n / 34359738368) (by omega)
  have d1 : n / 128 / 128 = n / 16384 := by omega
  have d2 : n / 16384 / 128 = n / 2097152 := by omega
  have d3 : n / 2097152 / 128 = n / 268435456 := by omega
  have d4 : n / 268435456 / 128 = n / 34359738368 := by omega
  unfold enc
  simp only [encD, part, partF]
  by_cases c1 : n < 128
  · rw [if_pos c1, if_neg (by omega), if_neg (by omega), if_neg (by omega), if_neg (by omega), if_neg (by omega)]; rfl
  rw [if_neg c1, d1]
  by_cases c2 : n / 128 < 128
  · rw [if_pos c2, if_neg (by omega), if_neg (by omega), if_neg (by omega), if_neg (by omega), if_pos (by omega), o0]; rfl
  rw [if_neg c2, d2]
  by_cases c3 : n / 16384 < 128
  · rw [if_pos c3, if_neg (by omega), if_neg (by omega), if_neg (by omega), if_pos (by omega), if_pos (by omega), o0, o1]; rfl
  rw [if_neg c3, d3]
  by_cases c4 : n / 2097152 < 128
  · rw [if_pos c4, if_neg (by omega), if_neg (by omega), if_pos (by omega), if_pos (by omega), if_pos (by omega), o0, o1, o2]; rfl
  rw [if_neg c4, d4]
  by_cases c5 : n / 268435456 < 128
  · rw [if_pos c5, if_neg (by omega), if_pos (by omega), if_pos (by omega), if_pos (by omega), if_pos (by omega), o0, o1, o2, o3]; rfl
  rw [if_neg c5, if_pos (by omega), if_pos (by omega), if_pos (by omega), if_pos (by omega), if_pos (by omega), if_pos (by omega), o0, o1, o2, o3, o4]
  rfl
theorem partF_len : ∀ (k : Nat) (n : Int), (partF k n).length ≤ k
  | 0, n => Nat.le_refl _
  | k + 1, n => by
    have := partF_len k (n / 128)
    unfold partF
    split
    · simp
    · simp; omega

/-! ### The loops -/
def R56 : List (Nat × Option (Bool × Nat) × PK) := [(2, some (true, 5), .other), (3, none, .other)]
def O4 (L : List Int) (a : Nat) (out : List UInt8) (r : List (Nat × Obj)) : List (Nat × Obj) := (0, .cells zero5) :: (1, .el 1 (ints L) false) :: (a, .byt out false) :: r
def A56 (L : List Int) (a : Nat) (out : List UInt8) (i : Int) : List (Nat × MV) := [(2, .ptr 0 0), (4, .own 1 L.length), (6, .own a out.length), (7, .int .i64 i)]
def B56 (L : List Int) (out : List UInt8) (i : Int) (p : List UInt8) (n : Int) : List (Nat × MV) := [(2, .ptr 0 0), (4, .own 1 L.length), (6, .own 2 out.length), (7, .int .i64 i), (8, .own 3 p.length), (9, .int .i64 n)]
def C56 (L : List Int) (out : List UInt8) (i : Int) (p : List UInt8) (k : Int) : List (Nat × MV) := [(2, .ptr 0 0), (4, .own 1 L.length), (6, .own 2 out.length), (7, .int .i64 i), (8, .own 3 p.length), (10, .int .i64 k)]
theorem by8 {x : Int} (h0 : 0 ≤ x) : IntKind.u8.wrap (128 + x % 128) = (((UInt8.ofNat (128 + x % 128).toNat).toNat : Nat) : Int) := by
  rw [w8 (by omega) (by omega), UInt8.toNat_ofNat']; omega
theorem by8' {x : Int} (h0 : 0 ≤ x) : IntKind.u8.wrap (x % 128) = (((UInt8.ofNat (x % 128).toNat).toNat : Nat) : Int) := by
  rw [w8 (by omega) (by omega), UInt8.toNat_ofNat']; omega
theorem c56_part (L : List Int) (out : List UInt8) (i : Int) (K : List Item) : ∀ (k : Nat) (n : Int) (p : List UInt8), 0 ≤ n → n < 128 ^ (k + 1) → n < 562949953421312 → p.length + k ≤ 10 →
    RunL Q m56k1 m56b1 (.blk 2 :: K) ⟨B56 L out i p n, [], O4 L 2 out [(3, .byt p false)], 5⟩ = Run Q K ⟨(75, .bool false) :: B56 L out i (p ++ partF k n) (topF k n), [], O4 L 2 out [(3, .byt (p ++ partF k n) false)], 13⟩
  | 0, n, p, h0, h1, h3, _ => by
    have hge : decide ((128 : Int) ≤ n) = false := by simp; omega
    unfold partF topF
    rw [List.append_nil]
    obtain ⟨b', hb'⟩ : ∃ b', b' = m56b1 := ⟨_, rfl⟩
    rw [RunL_eq, show Item.lp m56k1 m56b1 = Item.lp m56k1 b' by rw [hb']]
    simp (maxSteps := 99999999) (disch := first | decide | omega | exact ok_of (by kernel_rfl)) only [m56b1, B56, O4, hge, Nat.reduceAdd, Nat.reduceMul, Nat.reduceLeDiff, Nat.reduceEqDiff, Nat.reduceLT, reduceCtorEq, cut, Int.reduceLE, Int.reduceLT, Int.reduceToNat, Int.reduceEq, Int.reduceNeg, Int.reduceMul, Int.reduceAdd, Int.reduceSub, bC.u, bD.u]
  | k + 1, n, p, h0, h1, h3, hp => by
    unfold partF topF
    by_cases hn : n < 128
    · have hge : decide ((128 : Int) ≤ n) = false := by simp; omega
      rw [if_pos hn, if_pos hn, List.append_nil]
      obtain ⟨b', hb'⟩ : ∃ b', b' = m56b1 := ⟨_, rfl⟩
      rw [RunL_eq, show Item.lp m56k1 m56b1 = Item.lp m56k1 b' by rw [hb']]
      simp (maxSteps := 99999999) (disch := first | decide | omega | exact ok_of (by kernel_rfl)) only [m56b1, B56, O4, hge, Nat.reduceAdd, Nat.reduceMul, Nat.reduceLeDiff, Nat.reduceEqDiff, Nat.reduceLT, reduceCtorEq, cut, Int.reduceLE, Int.reduceLT, Int.reduceToNat, Int.reduceEq, Int.reduceNeg, Int.reduceMul, Int.reduceAdd, Int.reduceSub, bC.u, bD.u]
    · have hge : decide ((128 : Int) ≤ n) = true := by simp; omega
      have ih := c56_part L out i K k (n / 128) (p ++ [UInt8.ofNat (128 + n / 128 % 128).toNat]) (by omega) (by rw [Int.pow_succ] at h1; omega) (by omega) (by simp; omega)
      have hcap : p.length + 1 ≤ 2 ^ 47 := by omega
      have e8 := by8 (x := n / 128) (by omega)
      rw [if_neg hn, if_neg hn]
      rw [List.append_assoc, List.cons_append, List.nil_append] at ih
      rw [← ih]
      obtain ⟨rhs, hr⟩ : ∃ z, z = RunL Q m56k1 m56b1 (.blk 2 :: K) ⟨B56 L out i (p ++ [UInt8.ofNat (128 + n / 128 % 128).toNat]) (n / 128), [], O4 L 2 out [(3, .byt (p ++ [UInt8.ofNat (128 + n / 128 % 128).toNat]) false)], 5⟩ := ⟨_, rfl⟩
      rw [← hr]
      obtain ⟨b', hb'⟩ : ∃ b', b' = m56b1 := ⟨_, rfl⟩
      rw [RunL_eq, show Item.lp m56k1 m56b1 = Item.lp m56k1 b' by rw [hb']]
      simp (maxSteps := 99999999) (disch := first | decide | omega | exact ok_of (by kernel_rfl)) only [m56b1, B56, O4, hge, hcap, e8, Nat.reduceAdd, Nat.reduceMul, Nat.reduceLeDiff, Nat.reduceEqDiff, Nat.reduceLT, reduceCtorEq, cut, Int.reduceLE, Int.reduceLT, Int.reduceToNat, Int.reduceEq, Int.reduceNeg, Int.reduceMul, Int.reduceAdd, Int.reduceSub, bC.u, bN.u, bL.u, bD.u]
      subst hb'
      rw [Run_lp, hr]
      have ve : ∀ b : UInt8, [(2, MV.ptr 0 0), (4, .own 1 L.length), (6, .own 2 out.length), (7, .int .i64 i), (8, .own 3 (p.length + 1)), (9, .int .i64 (n / 128))] = B56 L out i (p ++ [b]) (n / 128) := fun b => by simp [B56]
      exact RunL_canon (canon_cong (Eq.trans (by kernel_rfl) (ve _)) (by kernel_rfl) (by kernel_rfl))

theorem c56_rev (L : List Int) (i : Int) (p : List UInt8) (hp : p.length ≤ 20) (K : List Item) : ∀ (m : Nat) (out : List UInt8), m ≤ p.length → out.length + m ≤ 100000 →
    RunL Q m56k2 m56b2 (.blk 4 :: K) ⟨C56 L out i p ((m : Int) - 1), [], O4 L 2 out [(3, .byt p false)], 5⟩ = Run Q K ⟨(89, .bool false) :: C56 L (out ++ (p.take m).reverse) i p (-1), [], O4 L 2 (out ++ (p.take m).reverse) [(3, .byt p false)], 13⟩
  | 0, out, _, _ => by
    have hge : decide ((0 : Int) ≤ ((0 : Nat) : Int) - 1) = false := by decide
    have e0 : ((0 : Nat) : Int) - 1 = -1 := rfl
    rw [List.take_zero, List.reverse_nil, List.append_nil, e0]
    obtain ⟨b', hb'⟩ : ∃ b', b' = m56b2 := ⟨_, rfl⟩
    rw [RunL_eq, show Item.lp m56k2 m56b2 = Item.lp m56k2 b' by rw [hb']]
    simp (maxSteps := 99999999) (disch := first | decide | omega | exact ok_of (by kernel_rfl)) only [m56b2, C56, O4, hge, Nat.reduceAdd, Nat.reduceMul, Nat.reduceLeDiff, Nat.reduceEqDiff, Nat.reduceLT, reduceCtorEq, cut, Int.reduceLE, Int.reduceLT, Int.reduceToNat, Int.reduceEq, Int.reduceNeg, Int.reduceMul, Int.reduceAdd, Int.reduceSub, bC.u, bD.u]
  | m + 1, out, hm, ho => by
    have e : ((m + 1 : Nat) : Int) - 1 = (m : Int) := by omega
    have hge : decide ((0 : Int) ≤ (m : Int)) = true := by simp
    have i0 : (0 : Int) ≤ (m : Int) := by omega
    have i1 : (m : Int) < (p.length : Int) := by omega
    obtain ⟨b, hb⟩ : ∃ b, p[m]? = some b := ⟨_, List.getElem?_eq_getElem (by omega)⟩
    have hg' : p.getD m 0 = b := by rw [List.getD_eq_getElem?_getD, hb]; rfl
    have ht : (p.take (m + 1)).reverse = b :: (p.take m).reverse := by rw [List.take_add_one, hb]; simp
    have hcap : out.length + 1 ≤ 2 ^ 47 := by omega
    have ih := c56_rev L i p hp K m (out ++ [b]) (by omega)
    rw [ht, e]
    have ih := ih (by simp; omega)
    rw [List.append_assoc, List.cons_append, List.nil_append] at ih
    rw [← ih]
    obtain ⟨rhs, hr⟩ : ∃ z, z = RunL Q m56k2 m56b2 (.blk 4 :: K) ⟨C56 L (out ++ [b]) i p ((m : Int) - 1), [], O4 L 2 (out ++ [b]) [(3, .byt p false)], 5⟩ := ⟨_, rfl⟩
    rw [← hr]
    obtain ⟨b', hb'⟩ : ∃ b', b' = m56b2 := ⟨_, rfl⟩
    rw [RunL_eq, show Item.lp m56k2 m56b2 = Item.lp m56k2 b' by rw [hb']]
    simp (maxSteps := 99999999) (disch := first | decide | omega | exact ok_of (by kernel_rfl)) only [m56b2, C56, O4, hge, i0, i1, hb, hg', hcap, Nat.reduceAdd, Nat.reduceMul, Nat.reduceLeDiff, Nat.reduceEqDiff, Nat.reduceLT, reduceCtorEq, cut, Int.reduceLE, Int.reduceLT, Int.reduceToNat, Int.reduceEq, Int.reduceNeg, Int.reduceMul, Int.reduceAdd, Int.reduceSub, bC.u, bN.u, bL.u, bD.u]
    subst hb'
    rw [Run_lp, hr]
    have ve : [(2, MV.ptr 0 0), (4, .own 1 L.length), (6, .own 2 (out.length + 1)), (7, .int .i64 i), (8, .own 3 p.length), (10, .int .i64 ((m : Int) - 1))] = C56 L (out ++ [b]) i p ((m : Int) - 1) := by simp [C56]
    exact RunL_canon (canon_cong (Eq.trans (by kernel_rfl) ve) (by kernel_rfl) (by kernel_rfl))
end Go.Mini
