/- Valid texts: the document's over Mini. -/
import Derived.Test.YtncpjcojnjbhlaaGreatDoorG3
import Derived.Lib.ValidLaws
namespace Go.Mini
open Go Go.Proofs.YtncpjcojnjbhlaaGreatDoor
set_option maxRecDepth 10000
set_option maxHeartbeats 40000000
set_option linter.unusedSimpArgs false


/-- The bytes behind the first: all must go on. -/
def contF : List UInt8 → Nat → Option Nat
  | [], v => some v
  | b :: r, v => if 128 ≤ b.toNat ∧ b.toNat < 192 then contF r (64 * v + b.toNat % 64) else none
def R109 : List (Nat × Option (Bool × Nat) × PK) := [(4, none, .other)]
def V109 (l : List UInt8) (at' n low v i : Int) : List (Nat × MV) := [(0, .bs l), (1, .int .i64 at'), (6, .int .i64 n), (7, .int .i64 low), (8, .int .i64 v), (9, .int .i64 i)]
def fits (k v : Nat) : Prop := k ≤ 3 ∧ v < 256 ∨ k ≤ 2 ∧ v < 20000 ∨ k ≤ 1 ∧ v < 2000000 ∨ k = 0 ∧ v < 200000000
theorem c109_loop (l : List UInt8) (hl : l.length < 1000000) (a n low : Nat) (han : a + n ≤ l.length) (K : List Item) : ∀ (bs : List UInt8) (i v : Nat), (l.drop (a + i)).take bs.length = bs → i + bs.length = n → fits bs.length v →
    fin R109 (RunL Q m109k0 m109b0 (.blk 0 :: K) ⟨V109 l a n low v i, [], [], 1⟩) = match contF bs v with
      | none => some (.int .i64 0)
      | some v' => fin R109 (Run Q K ⟨(50, .bool false) :: V109 l a n low v' n, [], [], 13⟩)
  | [], i, v, hd, hi, hv => by
    have hi' : i = n := by simpa using hi
    subst hi'
    have hlt : decide ((i : Int) < (i : Int)) = false := by simp
    obtain ⟨b', hb'⟩ : ∃ b', b' = m109b0 := ⟨_, rfl⟩
    rw [RunL_eq, show Item.lp m109k0 m109b0 = Item.lp m109k0 b' by rw [hb']]
    simp (maxSteps := 99999999) (disch := first | decide | omega | exact ok_of (by kernel_rfl)) only [m109b0, V109, hlt, Nat.reduceAdd, Nat.reduceMul, Nat.reduceLeDiff, Nat.reduceEqDiff, Nat.reduceLT, reduceCtorEq, cut, Int.reduceLE, Int.reduceLT, Int.reduceToNat, Int.reduceEq, Int.reduceNeg, Int.reduceMul, Int.reduceAdd, Int.reduceSub, bC.u, bD.u]
    rfl
  | b :: r, i, v, hd, hi, hv => by
    simp only [List.length_cons] at hi hv hd
    have hlt : decide ((i : Int) < (n : Int)) = true := by simp; omega
    have hg : l[a + i]? = some b := by
      have := congrArg (·[0]?) hd
      simpa [List.getElem?_take, List.getElem?_drop] using this
    have hg' : l.getD (a + i) 0 = b := by rw [List.getD_eq_getElem?_getD, hg]; rfl
    have hd' : (l.drop (a + (i + 1))).take r.length = r := by
      have := congrArg (List.drop 1) hd
      rw [List.drop_take, List.drop_drop] at this
      simpa [Nat.add_assoc] using this
    have hi0 : (a : Int) + (i : Int) = ((a + i : Nat) : Int) := by omega
    have k0 : (0 : Int) ≤ ((a + i : Nat) : Int) := by omega
    have k1 : ((a + i : Nat) : Int) < (l.length : Int) := by omega
    have e : ((i : Int) + 1) = ((i + 1 : Nat) : Int) := by omega
    have hb := b.toNat_lt
    have ih := c109_loop l hl a n low han K r (i + 1) (64 * v + b.toNat % 64) hd' (by omega) (by unfold fits at hv ⊢; omega)
    have hv2 : v < 20000000 := by unfold fits at hv; omega
    have ev : 64 * (v : Int) + (b.toNat : Int) % 64 = ((64 * v + b.toNat % 64 : Nat) : Int) := by omega
    unfold contF
    by_cases h1 : 128 ≤ b.toNat
    · have q1 : decide ((b.toNat : Int) < 128) = false := by simp; omega
      by_cases h2 : b.toNat < 192
      · have q2 : decide ((192 : Int) ≤ (b.toNat : Int)) = false := by simp; omega
        rw [if_pos ⟨h1, h2⟩, ← ih]
        obtain ⟨rhs, hr⟩ : ∃ z, z = fin R109 (RunL Q m109k0 m109b0 (.blk 0 :: K) ⟨V109 l a n low (64 * v + b.toNat % 64 : Nat) (i + 1 : Nat), [], [], 1⟩) := ⟨_, rfl⟩
        rw [← hr]
        obtain ⟨b', hb'⟩ : ∃ b', b' = m109b0 := ⟨_, rfl⟩
        rw [RunL_eq, show Item.lp m109k0 m109b0 = Item.lp m109k0 b' by rw [hb']]
        simp (maxSteps := 99999999) (disch := first | decide | omega | exact ok_of (by kernel_rfl)) only [m109b0, V109, R109, hlt, hg, hg', hi0, k0, k1, q1, q2, Nat.reduceAdd, Nat.reduceMul, Nat.reduceLeDiff, Nat.reduceEqDiff, Nat.reduceLT, reduceCtorEq, cut, Int.reduceLE, Int.reduceLT, Int.reduceToNat, Int.reduceEq, Int.reduceNeg, Int.reduceMul, Int.reduceAdd, Int.reduceSub, bC.u, bN.u, bL.u, bD.u]
        subst hb'
        refine ((congrArg (fin _) (Run_lp Q _ _ _ _)).trans ?_)
        rw [hr]
        exact congrArg (fin R109) (RunL_canon (canon_cong (Eq.trans (by kernel_rfl) (show [(0, MV.bs l), (1, .int .i64 (a : Int)), (6, .int .i64 (n : Int)), (7, .int .i64 (low : Int)), (8, .int .i64 (64 * (v : Int) + (b.toNat : Int) % 64)), (9, .int .i64 ((i : Int) + 1))] = V109 l a n low (64 * v + b.toNat % 64 : Nat) (i + 1 : Nat) from by rw [e, ev]; rfl)) (by kernel_rfl) (by kernel_rfl)))
      · have q2 : decide ((192 : Int) ≤ (b.toNat : Int)) = true := by simp; omega
        rw [if_neg (by omega)]
        show _ = some (MV.int .i64 0)
        obtain ⟨b', hb'⟩ : ∃ b', b' = m109b0 := ⟨_, rfl⟩
        rw [RunL_eq, show Item.lp m109k0 m109b0 = Item.lp m109k0 b' by rw [hb']]
        simp (maxSteps := 99999999) (disch := first | decide | omega | exact ok_of (by kernel_rfl)) only [m109b0, V109, R109, hlt, hg, hg', hi0, k0, k1, q1, q2, Nat.reduceAdd, Nat.reduceMul, Nat.reduceLeDiff, Nat.reduceEqDiff, Nat.reduceLT, reduceCtorEq, cut, Int.reduceLE, Int.reduceLT, Int.reduceToNat, Int.reduceEq, Int.reduceNeg, Int.reduceMul, Int.reduceAdd, Int.reduceSub, bC.u, bN.u, bL.u, bD.u]
    · have q1 : decide ((b.toNat : Int) < 128) = true := by simp; omega
      rw [if_neg (by omega)]
      show _ = some (MV.int .i64 0)
      obtain ⟨b', hb'⟩ : ∃ b', b' = m109b0 := ⟨_, rfl⟩
      rw [RunL_eq, show Item.lp m109k0 m109b0 = Item.lp m109k0 b' by rw [hb']]
      simp (maxSteps := 99999999) (disch := first | decide | omega | exact ok_of (by kernel_rfl)) only [m109b0, V109, R109, hlt, hg, hg', hi0, k0, k1, q1, Nat.reduceAdd, Nat.reduceMul, Nat.reduceLeDiff, Nat.reduceEqDiff, Nat.reduceLT, reduceCtorEq, cut, Int.reduceLE, Int.reduceLT, Int.reduceToNat, Int.reduceEq, Int.reduceNeg, Int.reduceMul, Int.reduceAdd, Int.reduceSub, bC.u, bN.u, bL.u, bD.u]

/-- How many bytes the first rune has; 0: it is none. -/
def runeN (r : List UInt8) : Nat := if (Lib.decodeL r).1 = 65533 ∧ (Lib.decodeL r).2 = 1 then 0 else (Lib.decodeL r).2
def lastN (n low v : Nat) : Nat := if v < low ∨ 1114111 < v ∨ 55296 ≤ v ∧ v < 57344 then 0 else n
def lastO (n low : Nat) : Option Nat → Nat
  | none => 0
  | some v' => lastN n low v'
def multi (n low v : Nat) (t : List UInt8) : Nat := if t.length + 1 < n then 0 else lastO n low (contF (t.take (n - 1)) v)
def runeR (c : UInt8) (t : List UInt8) : Nat :=
  if c.toNat < 128 then 1 else if c.toNat < 192 then 0 else if c.toNat < 224 then multi 2 128 (c.toNat % 32) t else if c.toNat < 240 then multi 3 2048 (c.toNat % 16) t else if c.toNat < 248 then multi 4 65536 (c.toNat % 8) t else 0

def runeF (n b0 b1 b2 b3 : Nat) : Nat := if b0 < 128 then 1
  else if b0 / 32 = 6 ∧ (1 < n ∧ b1 / 64 = 2) then (if 128 ≤ b0 % 32 * 64 + b1 % 64 then 2 else 0)
  else if b0 / 16 = 14 ∧ (1 < n ∧ b1 / 64 = 2) ∧ (2 < n ∧ b2 / 64 = 2) then lastN 3 2048 (b0 % 16 * 4096 + b1 % 64 * 64 + b2 % 64)
  else if b0 / 8 = 30 ∧ (1 < n ∧ b1 / 64 = 2) ∧ (2 < n ∧ b2 / 64 = 2) ∧ (3 < n ∧ b3 / 64 = 2) then lastN 4 65536 (b0 % 8 * 262144 + b1 % 64 * 4096 + b2 % 64 * 64 + b3 % 64)
  else 0
theorem runeF_eq (n b0 b1 b2 b3 : Nat) : (if (Lib.decodeN n b0 b1 b2 b3).1 = 65533 ∧ (Lib.decodeN n b0 b1 b2 b3).2 = 1 then 0 else (Lib.decodeN n b0 b1 b2 b3).2) = runeF n b0 b1 b2 b3 := by
  have key : ∀ x w : Nat, (x = 65533 → w ≠ 1) → (if (x, w).1 = 65533 ∧ (x, w).2 = 1 then 0 else (x, w).2) = w := by
    intro x w h
    rw [if_neg]
    intro hh
    exact h hh.1 hh.2
  have bad : (if ((65533, 1) : Nat × Nat).1 = 65533 ∧ ((65533, 1) : Nat × Nat).2 = 1 then 0 else ((65533, 1) : Nat × Nat).2) = 0 := rfl
  unfold Lib.decodeN runeF
  by_cases h1 : b0 < 128
  · rw [if_pos h1, if_pos h1]
    exact key _ _ (fun h => by omega)
  rw [if_neg h1, if_neg h1]
  by_cases h2 : b0 / 32 = 6 ∧ (1 < n ∧ b1 / 64 = 2)
  · rw [if_pos h2, if_pos h2]
    by_cases h3 : 128 ≤ b0 % 32 * 64 + b1 % 64
    · rw [if_pos h3, if_pos h3]; exact key _ _ (fun h => by decide)
    · rw [if_neg h3, if_neg h3]; exact bad
  rw [if_neg h2, if_neg h2]
  by_cases h3 : b0 / 16 = 14 ∧ (1 < n ∧ b1 / 64 = 2) ∧ (2 < n ∧ b2 / 64 = 2)
  · rw [if_pos h3, if_pos h3]
    by_cases h4 : b0 % 16 * 4096 + b1 % 64 * 64 + b2 % 64 ≥ 2048 ∧ (b0 % 16 * 4096 + b1 % 64 * 64 + b2 % 64 < 55296 ∨ (57344 ≤ b0 % 16 * 4096 + b1 % 64 * 64 + b2 % 64 ∧ b0 % 16 * 4096 + b1 % 64 * 64 + b2 % 64 ≤ 1114111))
    · rw [if_pos h4, show lastN 3 2048 (b0 % 16 * 4096 + b1 % 64 * 64 + b2 % 64) = 3 from if_neg (by omega)]; exact key _ _ (fun h => by decide)
    · rw [if_neg h4, show lastN 3 2048 (b0 % 16 * 4096 + b1 % 64 * 64 + b2 % 64) = 0 from if_pos (by omega)]; exact bad
  rw [if_neg h3, if_neg h3]
  by_cases h4 : b0 / 8 = 30 ∧ (1 < n ∧ b1 / 64 = 2) ∧ (2 < n ∧ b2 / 64 = 2) ∧ (3 < n ∧ b3 / 64 = 2)
  · rw [if_pos h4, if_pos h4]
    by_cases h5 : b0 % 8 * 262144 + b1 % 64 * 4096 + b2 % 64 * 64 + b3 % 64 ≥ 65536 ∧ (b0 % 8 * 262144 + b1 % 64 * 4096 + b2 % 64 * 64 + b3 % 64 < 55296 ∨ (57344 ≤ b0 % 8 * 262144 + b1 % 64 * 4096 + b2 % 64 * 64 + b3 % 64 ∧ b0 % 8 * 262144 + b1 % 64 * 4096 + b2 % 64 * 64 + b3 % 64 ≤ 1114111))
    · rw [if_pos h5, show lastN 4 65536 (b0 % 8 * 262144 + b1 % 64 * 4096 + b2 % 64 * 64 + b3 % 64) = 4 from if_neg (by omega)]; exact key _ _ (fun h => by decide)
    · rw [if_neg h5, show lastN 4 65536 (b0 % 8 * 262144 + b1 % 64 * 4096 + b2 % 64 * 64 + b3 % 64) = 0 from if_pos (by omega)]; exact bad
  rw [if_neg h4, if_neg h4]; exact bad
theorem contF_cons (b : UInt8) (r : List UInt8) (v : Nat) : contF (b :: r) v = if 128 ≤ b.toNat ∧ b.toNat < 192 then contF r (64 * v + b.toNat % 64) else none := rfl
theorem runeR_eq (c : UInt8) (t : List UInt8) : runeR c t = runeN (c :: t) := by
  have hc := c.toNat_lt
  unfold runeN
  rw [Lib.decodeL_N, runeF_eq]
  unfold runeR
  have g0 : (c :: t).getD 0 0 = c := rfl
  rw [g0]
  by_cases h1 : c.toNat < 128
  · unfold runeF
    rw [if_pos h1, if_pos h1]
  rw [if_neg h1]
  by_cases h2 : c.toNat < 192
  · unfold runeF
    rw [if_pos h2, if_neg h1, if_neg (by omega), if_neg (by omega), if_neg (by omega)]
  rw [if_neg h2]
  by_cases h3 : c.toNat < 224
  · rw [if_pos h3]
    match t with
    | [] =>
      unfold multi runeF
      rw [if_pos (by simp), if_neg h1, if_neg (by simp), if_neg (by omega), if_neg (by omega)]
    | b1 :: t =>
      have e1 : (c :: b1 :: t).getD 1 0 = b1 := rfl
      have hb := b1.toNat_lt
      rw [e1]
      generalize (c :: b1 :: t).getD 2 0 = b2
      generalize (c :: b1 :: t).getD 3 0 = b3
      unfold multi
      simp only [List.length_cons, show 2 - 1 = 1 from rfl, List.take_succ_cons, List.take_zero]
      rw [if_neg (by omega), contF_cons]
      unfold runeF
      by_cases k1 : 128 ≤ b1.toNat ∧ b1.toNat < 192
      · rw [if_pos k1, if_neg h1, if_pos (by omega)]
        simp only [contF, lastO, lastN]
        repeat' split
        all_goals omega
      · rw [if_neg k1]; show 0 = _; rw [if_neg h1, if_neg (by omega), if_neg (by omega), if_neg (by omega)]
  rw [if_neg h3]
  by_cases h4 : c.toNat < 240
  · rw [if_pos h4]
    match t with
    | [] =>
      unfold multi runeF
      rw [if_pos (by simp), if_neg h1, if_neg (by simp), if_neg (by simp), if_neg (by omega)]
    | [b1] =>
      unfold multi runeF
      rw [if_pos (by simp), if_neg h1, if_neg (by omega), if_neg (by simp), if_neg (by omega)]
    | b1 :: b2 :: t =>
      have e1 : (c :: b1 :: b2 :: t).getD 1 0 = b1 := rfl
      have e2 : (c :: b1 :: b2 :: t).getD 2 0 = b2 := rfl
      have hb := b1.toNat_lt
      have hb2 := b2.toNat_lt
      rw [e1, e2]
      generalize (c :: b1 :: b2 :: t).getD 3 0 = b3
      unfold multi
      simp only [List.length_cons, show 3 - 1 = 2 from rfl, List.take_succ_cons, List.take_zero]
      rw [if_neg (by omega), contF_cons]
      unfold runeF
      by_cases k1 : 128 ≤ b1.toNat ∧ b1.toNat < 192
      · rw [if_pos k1, contF_cons]
        by_cases k2 : 128 ≤ b2.toNat ∧ b2.toNat < 192
        · rw [if_pos k2, if_neg h1, if_neg (by omega), if_pos (by omega)]
          simp only [contF, lastO, lastN]
          repeat' split
          all_goals omega
        · rw [if_neg k2]; show 0 = _; rw [if_neg h1, if_neg (by omega), if_neg (by omega), if_neg (by omega)]
      · rw [if_neg k1]; show 0 = _; rw [if_neg h1, if_neg (by omega), if_neg (by omega), if_neg (by omega)]
  rw [if_neg h4]
  by_cases h5 : c.toNat < 248
  · rw [if_pos h5]
    match t with
    | [] =>
      unfold multi runeF
      rw [if_pos (by simp), if_neg h1, if_neg (by simp), if_neg (by simp), if_neg (by simp)]
    | [b1] =>
      unfold multi runeF
      rw [if_pos (by simp), if_neg h1, if_neg (by omega), if_neg (by simp), if_neg (by simp)]
    | [b1, b2] =>
      unfold multi runeF
      rw [if_pos (by simp), if_neg h1, if_neg (by omega), if_neg (by omega), if_neg (by simp)]
    | b1 :: b2 :: b3 :: t =>
      have e1 : (c :: b1 :: b2 :: b3 :: t).getD 1 0 = b1 := rfl
      have e2 : (c :: b1 :: b2 :: b3 :: t).getD 2 0 = b2 := rfl
      have e3 : (c :: b1 :: b2 :: b3 :: t).getD 3 0 = b3 := rfl
      have hb := b1.toNat_lt
      have hb2 := b2.toNat_lt
      have hb3 := b3.toNat_lt
      rw [e1, e2, e3]
      unfold multi
      simp only [List.length_cons, show 4 - 1 = 3 from rfl, List.take_succ_cons, List.take_zero]
      rw [if_neg (by omega), contF_cons]
      unfold runeF
      by_cases k1 : 128 ≤ b1.toNat ∧ b1.toNat < 192
      · rw [if_pos k1, contF_cons]
        by_cases k2 : 128 ≤ b2.toNat ∧ b2.toNat < 192
        · rw [if_pos k2, contF_cons]
          by_cases k3 : 128 ≤ b3.toNat ∧ b3.toNat < 192
          · rw [if_pos k3, if_neg h1, if_neg (by omega), if_neg (by omega), if_pos (by omega)]
            simp only [contF, lastO, lastN]
            repeat' split
            all_goals omega
          · rw [if_neg k3]; show 0 = _; rw [if_neg h1, if_neg (by omega), if_neg (by omega), if_neg (by omega)]
        · rw [if_neg k2]; show 0 = _; rw [if_neg h1, if_neg (by omega), if_neg (by omega), if_neg (by omega)]
      · rw [if_neg k1]; show 0 = _; rw [if_neg h1, if_neg (by omega), if_neg (by omega), if_neg (by omega)]
  · rw [if_neg h5]
    unfold runeF
    rw [if_neg h1, if_neg (by omega), if_neg (by omega), if_neg (by omega)]
end Go.Mini
