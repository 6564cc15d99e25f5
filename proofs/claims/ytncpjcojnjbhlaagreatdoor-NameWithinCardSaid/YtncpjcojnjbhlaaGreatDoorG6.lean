/- Parts of oids: their numbers, as the document reckons them: the plain law. -/
import Derived.Test.YtncpjcojnjbhlaaGreatDoorG5
import Derived.Lib.ItoaNum
namespace Go.Mini
open Go Go.Proofs.YtncpjcojnjbhlaaGreatDoor
set_option maxRecDepth 10000
set_option maxHeartbeats 40000000
set_option linter.unusedSimpArgs false


def dig (c : UInt8) : Bool := decide (48 ≤ c.toNat) && decide (c.toNat ≤ 57)
def val (a : Nat) (l : List UInt8) : Nat := l.foldl (fun a c => a * 10 + (c.toNat - 48)) a
def okLab (p : List UInt8) : Bool := decide (1 ≤ p.length) && decide (p.length ≤ 13) && !(decide (1 < p.length) && p.getD 0 0 == 48)
def numR (p : List UInt8) : Option Int := if okLab p = true then (if val 0 p < 1099511627776 then some (val 0 p : Int) else none) else none

theorem val_cons (a : Nat) (c : UInt8) (r : List UInt8) : val a (c :: r) = val (a * 10 + (c.toNat - 48)) r := by simp only [val, List.foldl_cons]
theorem val_snoc (a : Nat) (c : UInt8) (r : List UInt8) : val a (r ++ [c]) = val a r * 10 + (c.toNat - 48) := by simp [val]
theorem val_le : ∀ (r : List UInt8) (a : Nat), a ≤ val a r
  | [], a => Nat.le_refl _
  | c :: r, a => by
    have := val_le r (a * 10 + (c.toNat - 48))
    rw [val_cons]
    omega
theorem dig_iff {c : UInt8} : dig c = true ↔ 48 ≤ c.toNat ∧ c.toNat ≤ 57 := by simp [dig]
theorem ofNat_dig {c : UInt8} (h : dig c = true) : UInt8.ofNat (48 + (c.toNat - 48)) = c := by
  have := dig_iff.1 h
  rw [show 48 + (c.toNat - 48) = c.toNat by omega, UInt8.ofNat_toNat]
theorem parse_val : ∀ (l : List UInt8) (a : Nat), l.all dig = true → val a l < 1099511627776 → Lib.parseUint10 a l = .ok (val a l)
  | [], a, _, _ => rfl
  | c :: r, a, h, hv => by
    simp only [List.all_cons, Bool.and_eq_true] at h
    have hc := dig_iff.1 h.1
    have hl := val_le r (a * 10 + (c.toNat - 48))
    rw [val_cons] at hv ⊢
    unfold Lib.parseUint10
    rw [if_pos hc, if_neg (by omega), if_neg (by omega)]
    exact parse_val r _ h.2 hv
theorem atoi_val {p : List UInt8} (h0 : p ≠ []) (h : p.all dig = true) (hv : val 0 p < 1099511627776) : Lib.atoiAll p = .ok (val 0 p : Int) := by
  cases p with
  | nil => exact (h0 rfl).elim
  | cons c r =>
    have hh := h
    simp only [List.all_cons, Bool.and_eq_true] at h
    have hc := dig_iff.1 h.1
    have hm : Lib.parseMag (c :: r) = .ok (val 0 (c :: r)) := by
      unfold Lib.parseMag
      rw [if_neg (by simp)]
      exact parse_val _ _ hh hv
    unfold Lib.atoiAll
    simp only
    rw [if_neg (by omega), hm]
    simp only
    rw [if_neg (by omega), if_neg (by omega), if_neg (by omega)]
theorem val_pos {c : UInt8} {r : List UInt8} (h : dig c = true) (h0 : c ≠ 48) : 1 ≤ val 0 (c :: r) := by
  have hc := dig_iff.1 h
  have : c.toNat ≠ 48 := fun e => h0 (UInt8.toNat_inj.1 e)
  have := val_le r (0 * 10 + (c.toNat - 48))
  rw [val_cons]
  omega
theorem digits_val : ∀ (n : Nat) (p : List UInt8), p.length = n → p ≠ [] → p.all dig = true → (p.length = 1 ∨ p.getD 0 0 ≠ 48) → Lib.decDigits (val 0 p) = p := by
  intro n
  induction n with
  | zero =>
    intro p hn h0
    exact (h0 (List.eq_nil_of_length_eq_zero hn)).elim
  | succ n ih =>
    intro p hn h0 h h1
    obtain ⟨q, c, rfl⟩ : ∃ q c, p = q ++ [c] := ⟨p.dropLast, p.getLast h0, (List.dropLast_concat_getLast h0).symm⟩
    have hq : q.all dig = true := by simp only [List.all_append, Bool.and_eq_true] at h; exact h.1
    have hc : dig c = true := by simp only [List.all_append, Bool.and_eq_true, List.all_cons, List.all_nil] at h; exact h.2.1
    have hcd := dig_iff.1 hc
    rw [val_snoc]
    cases q with
    | nil =>
      rw [Lib.decDigits, dif_pos (by simp [val]; omega)]
      simp only [val, List.foldl_nil, Nat.zero_mul, Nat.zero_add, ofNat_dig hc]
      rfl
    | cons b t =>
      have hb : b ≠ 48 := by
        rcases h1 with h1 | h1
        · simp at h1
        · simpa using h1
      have hbd : dig b = true := by simp at hq; exact hq.1
      have hp := val_pos (r := t) hbd hb
      have i1 := ih (b :: t) (by simp at hn ⊢; omega) (by simp) hq (Or.inr (by simpa using hb))
      rw [Lib.decDigits, dif_neg (by omega), show (val 0 (b :: t) * 10 + (c.toNat - 48)) / 10 = val 0 (b :: t) by omega, show (val 0 (b :: t) * 10 + (c.toNat - 48)) % 10 = c.toNat - 48 by omega, i1, ofNat_dig hc]
theorem digits_all : ∀ n : Nat, (Lib.decDigits n).all dig = true ∧ Lib.decDigits n ≠ [] ∧ val 0 (Lib.decDigits n) = n ∧ (1 ≤ n → (Lib.decDigits n).getD 0 0 ≠ 48) ∧ (n < 10 → (Lib.decDigits n).length = 1) := by
  intro n
  induction n using Nat.strongRecOn with
  | ind n ih =>
    have hd : ∀ m : Nat, m < 10 → dig (UInt8.ofNat (48 + m)) = true ∧ (UInt8.ofNat (48 + m)).toNat = 48 + m := by
      intro m hm
      have : (UInt8.ofNat (48 + m)).toNat = 48 + m := by rw [UInt8.toNat_ofNat']; omega
      exact ⟨dig_iff.2 (by omega), this⟩
    rw [Lib.decDigits]
    by_cases h : n < 10
    · rw [dif_pos h]
      have h1 := hd n h
      refine ⟨by simp only [List.all_cons, List.all_nil, h1.1, Bool.and_true], by simp, ?_, ?_, by simp⟩
      · simp only [val, List.foldl_cons, List.foldl_nil, h1.2]; omega
      · intro hn he
        have := congrArg UInt8.toNat (show UInt8.ofNat (48 + n) = 48 from he)
        rw [h1.2] at this
        have e48 : (48 : UInt8).toNat = 48 := rfl
        omega
    · rw [dif_neg h]
      have h1 := hd (n % 10) (by omega)
      obtain ⟨i1, i2, i3, i4, i5⟩ := ih (n / 10) (by omega)
      refine ⟨by simp only [List.all_append, List.all_cons, List.all_nil, i1, h1.1, Bool.and_true], by simp, ?_, ?_, by omega⟩
      · rw [val_snoc, i3, h1.2]; omega
      · intro _
        cases hx : Lib.decDigits (n / 10) with
        | nil => exact (i2 hx).elim
        | cons b t =>
          have := i4 (by omega)
          rw [hx] at this
          simpa using this
theorem decF_len : ∀ (k n : Nat), (decF k n).length ≤ k + 1
  | 0, n => Nat.le_refl _
  | k + 1, n => by
    unfold decF
    split
    · simp
    · have := decF_len k (n / 10)
      simp; omega
theorem numP_eq (p : List UInt8) : numP p = if p.all dig = true then numR p else none := by
  have up : ∀ n, numP p = some n → p.all dig = true ∧ numR p = some n := by
    intro n h
    unfold numP at h
    cases ha : Lib.atoiAll p with
    | ok m =>
      rw [ha] at h
      simp only at h
      split at h
      · rename_i hm
        obtain rfl := Option.some.inj h
        obtain ⟨k, rfl⟩ := Int.eq_ofNat_of_zero_le hm.1
        have hk : k < 1099511627776 := by omega
        have e := hm.2.2
        unfold itoaL at e
        rw [if_neg (by omega), Int.toNat_natCast, decF_eq 19 k (by omega)] at e
        have hlen := decF_len 12 k
        rw [decF_eq 12 k (by omega), e] at hlen
        obtain ⟨d1, d2, d3, d4, d5⟩ := digits_all k
        rw [e] at d1 d2 d3 d4 d5
        refine ⟨d1, ?_⟩
        have hpos := List.length_pos_iff.2 d2
        unfold numR okLab
        rw [d3, decide_eq_true (show 1 ≤ p.length from hpos), decide_eq_true hlen, if_pos, if_pos hk]
        by_cases h10 : k < 10
        · rw [d5 h10]; rfl
        · have := d4 (by omega)
          have hz : (p.getD 0 0 == 48) = false := by rw [beq_eq_false_iff_ne]; exact this
          rw [hz, Bool.and_false]; rfl
      · cases h
    | range => rw [ha] at h; cases h
    | _ => rw [ha] at h; cases h
  have down : ∀ n, p.all dig = true → numR p = some n → numP p = some n := by
    intro n hall h
    unfold numR okLab at h
    split at h
    · rename_i hl
      split at h
      · rename_i hv
        obtain rfl := Option.some.inj h
        simp only [Bool.and_eq_true, decide_eq_true_eq, Bool.not_eq_true'] at hl
        have hne : p ≠ [] := List.length_pos_iff.1 hl.1.1
        have hd := digits_val p.length p rfl hne hall (by
          by_cases h1 : p.length = 1
          · exact .inl h1
          · right
            intro e
            have := hl.2
            rw [e, decide_eq_true (show 1 < p.length by omega)] at this
            cases this)
        unfold numP
        rw [atoi_val hne hall hv]
        simp only
        rw [if_pos]
        refine ⟨by omega, by omega, ?_⟩
        unfold itoaL
        rw [if_neg (by omega), Int.toNat_natCast, decF_eq 19 _ (by omega), hd]
      · cases h
    · cases h
  cases hp : numP p with
  | some n =>
    obtain ⟨h1, h2⟩ := up n hp
    rw [if_pos h1, h2]
  | none =>
    by_cases hall : p.all dig = true
    · rw [if_pos hall]
      cases hr : numR p with
      | none => rfl
      | some n => rw [down n hall hr] at hp; cases hp
    · rw [if_neg hall]

/-- The parts' numbers, byte by byte. -/
def numsC : List UInt8 → List UInt8 → Option (List Int)
  | cur, [] => match numR cur with
    | some n => some [n]
    | none => none
  | cur, c :: r => if c = 46 then (match numR cur, numsC [] r with
      | some n, some l => some (n :: l)
      | _, _ => none) else if dig c = true then numsC (cur ++ [c]) r else none
theorem numsC_eq : ∀ (r cur : List UInt8), cur.all dig = true → numsC cur r = match splits r with | p :: ps => numsP ((cur ++ p) :: ps) | [] => none
  | [], cur, h => by
    unfold numsC splits
    simp only [List.append_nil]
    rw [numsP_cons, numP_eq, if_pos h]
    cases numR cur <;> rfl
  | c :: r, cur, h => by
    unfold numsC splits
    have hn := splits_ne r
    by_cases hc : c = 46
    · rw [if_pos hc, if_pos hc, numsC_eq r [] rfl]
      simp only [List.append_nil]
      rw [numsP_cons, numP_eq, if_pos h]
      cases hs : splits r with
      | nil => exact (hn hs).elim
      | cons p ps => rfl
    · rw [if_neg hc, if_neg hc]
      cases hk : dig c
      · rw [if_neg (by decide)]
        cases hs : splits r with
        | nil => exact (hn hs).elim
        | cons p ps =>
          simp only
          rw [numsP_cons, numP_eq, if_neg (by simp [hk])]
      · rw [if_pos rfl, numsC_eq r (cur ++ [c]) (by simp [h, hk])]
        cases hs : splits r with
        | nil => exact (hn hs).elim
        | cons p ps => simp
theorem numsC_nums (s : List UInt8) : numsC [] s = numsP (splits s) := by
  rw [numsC_eq s [] rfl]
  have hn := splits_ne s
  cases hs : splits s with
  | nil => exact (hn hs).elim
  | cons p ps => simp
end Go.Mini
