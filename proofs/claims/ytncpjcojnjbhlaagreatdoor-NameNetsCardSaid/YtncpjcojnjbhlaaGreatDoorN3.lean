/- The net's law over Mini: it answers true. -/
import Derived.Test.YtncpjcojnjbhlaaGreatDoorN2
namespace Go.Mini
open Go Go.Proofs.YtncpjcojnjbhlaaGreatDoor
set_option maxRecDepth 10000
set_option linter.unusedSimpArgs false

/-! ### Numbers -/
theorem maskM_length : ∀ (k : Nat) (i : Int) (l : List UInt8), (maskM k i l).length = l.length := by
  intro k
  induction k with
  | zero => intro i l; rfl
  | succ k ih => intro i l; rw [maskM, ih, List.length_set]

theorem mask_ok4 : ∀ k : Fin 33, maskF (maskM k.val 0 (List.replicate 4 0)) 32 0 false = true := by decide +kernel
theorem mask_ok16 : ∀ k : Fin 129, maskF (maskM k.val 0 (List.replicate 16 0)) 128 0 false = true := by decide +kernel

def topm (t : Nat) : UInt8 := [0, 128, 192, 224, 240, 248, 252, 254, 255].getD t 255
theorem topm_step : ∀ r : Fin 8, topm r.val ||| (128 : UInt8) >>> UInt8.ofNat r.val = topm (r.val + 1) := by decide +kernel
theorem topm_bits : ∀ (x : Fin 256) (t : Fin 9), (UInt8.ofNat x.val &&& topm t.val == 0) = ((List.range t.val).all fun r => ((UInt8.ofNat x.val >>> UInt8.ofNat (7 - r)) &&& 1) == 0) := by decide +kernel

theorem topm_bits' (x : UInt8) {t : Nat} (ht : t ≤ 8) : (x &&& topm t == 0) = ((List.range t).all fun r => ((x >>> UInt8.ofNat (7 - r)) &&& 1) == 0) := by
  have := topm_bits ⟨x.toNat, x.toNat_lt⟩ ⟨t, by omega⟩
  simpa using this

theorem and_xor (x y m : UInt8) : (x &&& m = y &&& m) ↔ ((x ^^^ y) &&& m = 0) := by
  rw [← UInt8.toBitVec_inj, ← UInt8.toBitVec_inj]
  simp only [UInt8.toBitVec_and, UInt8.toBitVec_xor, UInt8.toBitVec_zero]
  constructor
  · intro h
    have : (x.toBitVec ^^^ y.toBitVec) &&& m.toBitVec = (x.toBitVec &&& m.toBitVec) ^^^ (y.toBitVec &&& m.toBitVec) := by ext i; simp [Bool.and_xor_distrib_right]
    rw [this, h, BitVec.xor_self]
  · intro h
    have : x.toBitVec &&& m.toBitVec = ((x.toBitVec ^^^ y.toBitVec) &&& m.toBitVec) ^^^ (y.toBitVec &&& m.toBitVec) := by ext i; simp [Bool.and_xor_distrib_right]
    rw [this, h]; simp

/-- A mask's bytes. -/
theorem maskM_at (n : Nat) : ∀ (k i : Nat) (l : List UInt8), l.length = n → i + k ≤ 8 * n → (∀ j, j < n → l.getD j 0 = topm (min 8 (i - 8 * j))) → ∀ j, j < n → (maskM k i l).getD j 0 = topm (min 8 (i + k - 8 * j)) := by
  intro k
  induction k with
  | zero => intro i l _ _ h j hj; exact h j hj
  | succ k ih =>
    intro i l hl hk h j hj
    have e : ((i : Int) + 1) = ((i + 1 : Nat) : Int) := by omega
    have q : ((i : Int) / 8).toNat = i / 8 := by omega
    have r : ((i : Int) % 8).toNat = i % 8 := by omega
    rw [maskM, e, q, r]
    have := ih (i + 1) (l.set (i / 8) (l.getD (i / 8) 0 ||| (128 : UInt8) >>> UInt8.ofNat (i % 8))) (by rw [List.length_set]; exact hl) (by omega) (fun j hj => ?_) j hj
    · rw [this]; congr 2; omega
    · rw [List.getD_eq_getElem?_getD, List.getElem?_set]
      by_cases hji : i / 8 = j
      · subst hji
        rw [if_pos rfl, if_pos (by omega)]
        simp only [Option.getD_some]
        rw [h (i / 8) hj]
        have e1 : min 8 (i - 8 * (i / 8)) = i % 8 := by omega
        have e2 : min 8 (i + 1 - 8 * (i / 8)) = i % 8 + 1 := by omega
        rw [e1, e2]
        exact topm_step ⟨i % 8, by omega⟩
      · rw [if_neg hji, ← List.getD_eq_getElem?_getD, h j hj]
        congr 1
        omega

theorem andF_at (m : List UInt8) (n : Nat) : ∀ (k i : Nat) (l : List UInt8), l.length = n → i + k ≤ n → ∀ j, j < n → (andF m k i l).getD j 0 = if i ≤ j ∧ j < i + k then l.getD j 0 &&& m.getD j 0 else l.getD j 0 := by
  intro k
  induction k with
  | zero => intro i l _ _ j _; rw [if_neg (by omega)]; rfl
  | succ k ih =>
    intro i l hl hk j hj
    have e : ((i : Int) + 1) = ((i + 1 : Nat) : Int) := by omega
    rw [andF, e, Int.toNat_natCast, ih (i + 1) _ (by rw [List.length_set]; exact hl) (by omega) j hj]
    have g : (l.set i (l.getD i 0 &&& m.getD i 0)).getD j 0 = if i = j then l.getD j 0 &&& m.getD j 0 else l.getD j 0 := by
      rw [List.getD_eq_getElem?_getD, List.getElem?_set]
      by_cases h : i = j
      · subst h; rw [if_pos rfl, if_pos (by omega), if_pos rfl]; rfl
      · rw [if_neg h, if_neg h, List.getD_eq_getElem?_getD]
    rw [g]
    by_cases h1 : i = j
    · subst h1
      rw [if_neg (by omega), if_pos rfl, if_pos (by omega)]
    · rw [if_neg h1]
      by_cases h2 : i + 1 ≤ j ∧ j < i + 1 + k
      · rw [if_pos h2, if_pos (by omega)]
      · rw [if_neg h2, if_neg (by omega)]

theorem andF_length (m : List UInt8) : ∀ (k : Nat) (i : Int) (x : List UInt8), (andF m k i x).length = x.length := by
  intro k
  induction k with
  | zero => intro i x; rfl
  | succ k ih => intro i x; rw [andF, ih, List.length_set]

theorem sameM_all (a b : List UInt8) : ∀ (k i : Nat) (s : Bool), sameM a b k i s = (s && (List.range k).all fun t => sameB a b ((i + t : Nat) : Int)) := by
  intro k
  induction k with
  | zero => intro i s; simp [sameM]
  | succ k ih =>
    intro i s
    have e : ((i : Int) + 1) = ((i + 1 : Nat) : Int) := by omega
    rw [sameM, e, ih, List.range_succ_eq_map, List.all_cons, List.all_map]
    have : (fun t => sameB a b ((i + 1 + t : Nat) : Int)) = (fun t => sameB a b ((i + t : Nat) : Int)) ∘ Nat.succ := by
      funext t; simp only [Function.comp]; congr 2; omega
    rw [this]
    cases s <;> simp

theorem sameB_at (a b : List UInt8) (j r : Nat) (hr : r < 8) : sameB a b ((8 * j + r : Nat) : Int) = ((((a.getD j 0 ^^^ b.getD j 0) >>> UInt8.ofNat (7 - r)) &&& 1) == 0) := by
  unfold sameB
  have q : (((8 * j + r : Nat) : Int) / 8).toNat = j := by omega
  have s : (7 - ((8 * j + r : Nat) : Int) % 8).toNat = 7 - r := by omega
  rw [q, s]

/-- The addresses agree under the mask just if their first bits do. -/
theorem nets (a b : List UInt8) (n k : Nat) (ha : a.length = n) (hb : b.length = n) (hk : k ≤ 8 * n) :
    (andF (maskM k 0 (List.replicate n 0)) n 0 a == andF (maskM k 0 (List.replicate n 0)) n 0 b) = sameM a b k 0 true := by
  have hm := maskM_at n k 0 (List.replicate n 0) (by simp) (by omega) (fun j hj => by
    rw [List.getD_eq_getElem?_getD, List.getElem?_replicate, if_pos hj]; simp [topm])
  generalize maskM k 0 (List.replicate n 0) = m at hm
  have key : (andF m n 0 a = andF m n 0 b) ↔ ∀ j, j < n → a.getD j 0 &&& m.getD j 0 = b.getD j 0 &&& m.getD j 0 := by
    constructor
    · intro h j hj
      have e1 := andF_at m n n 0 a ha (by omega) j hj
      have e2 := andF_at m n n 0 b hb (by omega) j hj
      rw [if_pos (by omega)] at e1 e2
      rw [← e1, ← e2]
      exact congrArg (fun l => List.getD l j 0) h
    · intro h
      apply List.ext_getElem?
      intro j
      by_cases hj : j < n
      · have e1 := andF_at m n n 0 a ha (by omega) j hj
        have e2 := andF_at m n n 0 b hb (by omega) j hj
        rw [if_pos (by omega)] at e1 e2
        have l1 : j < (andF m n ((0 : Nat) : Int) a).length := by rw [andF_length]; omega
        have l2 : j < (andF m n ((0 : Nat) : Int) b).length := by rw [andF_length]; omega
        show (andF m n ((0 : Nat) : Int) a)[j]? = (andF m n ((0 : Nat) : Int) b)[j]?
        rw [getD_some l1, getD_some l2, e1, e2, h j hj]
      · rw [List.getElem?_eq_none (by rw [andF_length]; omega), List.getElem?_eq_none (by rw [andF_length]; omega)]
  rw [show sameM a b k 0 true = sameM a b k ((0 : Nat) : Int) true from rfl, sameM_all, Bool.true_and, Bool.eq_iff_iff, beq_iff_eq, key, List.all_eq_true]
  have byte : ∀ j, j < n → ((a.getD j 0 &&& m.getD j 0 = b.getD j 0 &&& m.getD j 0) ↔ ∀ r, r < min 8 (k - 8 * j) → sameB a b ((8 * j + r : Nat) : Int) = true) := by
    intro j hj
    have hmj := hm j hj
    rw [Nat.zero_add] at hmj
    rw [and_xor, hmj]
    have := topm_bits' (a.getD j 0 ^^^ b.getD j 0) (t := min 8 (k - 8 * j)) (by omega)
    rw [Bool.eq_iff_iff, beq_iff_eq, List.all_eq_true] at this
    rw [this]
    constructor
    · intro h r hr
      rw [sameB_at a b j r (by omega)]
      exact h r (List.mem_range.2 hr)
    · intro h r hr
      have hr := List.mem_range.1 hr
      rw [← sameB_at a b j r (by omega)]
      exact h r hr
  constructor
  · intro h t ht
    have ht := List.mem_range.1 ht
    have := (byte (t / 8) (by omega)).1 (h (t / 8) (by omega)) (t % 8) (by omega)
    rw [show 8 * (t / 8) + t % 8 = t by omega] at this
    rw [Nat.zero_add]; exact this
  · intro h j hj
    rw [byte j hj]
    intro r hr
    have := h (8 * j + r) (List.mem_range.2 (by omega))
    rwa [Nat.zero_add] at this

end Go.Mini
