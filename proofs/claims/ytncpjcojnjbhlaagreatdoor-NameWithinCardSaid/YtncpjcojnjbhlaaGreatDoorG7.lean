/- Oids of texts: the document's numbers over Mini. -/
import Derived.Test.YtncpjcojnjbhlaaGreatDoorG6
namespace Go.Mini
open Go Go.Proofs.YtncpjcojnjbhlaaGreatDoor
set_option maxRecDepth 10000
set_option maxHeartbeats 40000000
set_option linter.unusedSimpArgs false


def R87 : List (Nat × Option (Bool × Nat) × PK) := [(2, none, .ownE 1), (3, none, .other)]
def V87 (a : Nat) (s : List UInt8) (l : List Int) (f i : Int) : List (Nat × MV) := [(0, .str s), (4, .own a l.length), (5, .int .i64 f), (6, .int .i64 i)]
def O87 (a : Nat) (l : List Int) : List (Nat × Obj) := [(a, .el 1 (ints l) false)]
def W87 (s : List UInt8) (l : List Int) (i : Int) (p : List UInt8) (n k : Int) : List (Nat × MV) := [(0, .str s), (4, .own 0 l.length), (6, .int .i64 i), (7, .str p), (8, .int .i64 n), (9, .int .i64 k)]
theorem c87_val (s : List UInt8) (l : List Int) (i : Int) (p : List UInt8) (hp : p.length ≤ 13) (K : List Item) : ∀ (r : List UInt8) (k n : Nat), p.drop k = r → k + r.length = p.length → r.all dig = true → (n + 1) * 10 ^ r.length ≤ 10000000000000 →
    RunL Q m87k1 m87b1 (.blk 2 :: K) ⟨W87 s l i p n k, [], O87 0 l, 2⟩ = Run Q K ⟨(61, .bool false) :: W87 s l i p (val n r) p.length, [], O87 0 l, 18⟩
  | [], k, n, hd, hi, ha, hn => by
    have hi' : k = p.length := by simpa using hi
    subst hi'
    have hlt : decide ((p.length : Int) < (p.length : Int)) = false := by simp
    show _ = Run Q K ⟨(61, .bool false) :: W87 s l i p n p.length, [], O87 0 l, 18⟩
    obtain ⟨b', hb'⟩ : ∃ b', b' = m87b1 := ⟨_, rfl⟩
    rw [RunL_eq, show Item.lp m87k1 m87b1 = Item.lp m87k1 b' by rw [hb']]
    simp (maxSteps := 99999999) (disch := first | decide | omega | exact ok_of (by kernel_rfl)) only [m87b1, W87, O87, hlt, Nat.reduceAdd, Nat.reduceMul, Nat.reduceLeDiff, Nat.reduceEqDiff, Nat.reduceLT, reduceCtorEq, cut, Int.reduceLE, Int.reduceLT, Int.reduceToNat, Int.reduceEq, Int.reduceNeg, Int.reduceMul, Int.reduceAdd, Int.reduceSub, bC.u, bD.u]
  | c :: r, k, n, hd, hi, ha, hn => by
    simp only [List.length_cons] at hi hn
    simp only [List.all_cons, Bool.and_eq_true] at ha
    have hcd := dig_iff.1 ha.1
    have hlt : decide ((k : Int) < (p.length : Int)) = true := by simp; omega
    have i0 : (0 : Int) ≤ (k : Int) := by omega
    have i1 : (k : Int) < (p.length : Int) := by omega
    have hg : p[k]? = some c := by
      have := congrArg (·[0]?) hd
      simpa [List.getElem?_drop] using this
    have hg' : p.getD k 0 = c := by rw [List.getD_eq_getElem?_getD, hg]; rfl
    have hd' : p.drop (k + 1) = r := by
      have := congrArg (List.drop 1) hd
      simpa [List.drop_drop] using this
    have e : ((k : Int) + 1) = ((k + 1 : Nat) : Int) := by omega
    have ev : 10 * (n : Int) + (c.toNat : Int) - 48 = ((n * 10 + (c.toNat - 48) : Nat) : Int) := by omega
    have hb : (n * 10 + (c.toNat - 48) + 1) * 10 ^ r.length ≤ 10000000000000 := by
      have : (n * 10 + (c.toNat - 48) + 1) * 10 ^ r.length ≤ ((n + 1) * 10) * 10 ^ r.length := Nat.mul_le_mul_right _ (by omega)
      rw [Nat.pow_succ] at hn
      have e2 : (n + 1) * 10 * 10 ^ r.length = (n + 1) * (10 ^ r.length * 10) := by rw [Nat.mul_assoc, Nat.mul_comm 10]
      omega
    have hnb : n + 1 ≤ 10000000000000 := by
      have : 1 ≤ 10 ^ (r.length + 1) := Nat.one_le_pow _ _ (by decide)
      have := Nat.mul_le_mul_left (n + 1) this
      omega
    have ih := c87_val s l i p hp K r (k + 1) (n * 10 + (c.toNat - 48)) hd' (by omega) ha.2 hb
    rw [val_cons, ← ih]
    obtain ⟨rhs, hr⟩ : ∃ z, z = RunL Q m87k1 m87b1 (.blk 2 :: K) ⟨W87 s l i p (n * 10 + (c.toNat - 48) : Nat) (k + 1 : Nat), [], O87 0 l, 2⟩ := ⟨_, rfl⟩
    rw [← hr]
    obtain ⟨b', hb'⟩ : ∃ b', b' = m87b1 := ⟨_, rfl⟩
    rw [RunL_eq, show Item.lp m87k1 m87b1 = Item.lp m87k1 b' by rw [hb']]
    simp (maxSteps := 99999999) (disch := first | decide | omega | exact ok_of (by kernel_rfl)) only [m87b1, W87, O87, hlt, i0, i1, hg, hg', Nat.reduceAdd, Nat.reduceMul, Nat.reduceLeDiff, Nat.reduceEqDiff, Nat.reduceLT, reduceCtorEq, cut, Int.reduceLE, Int.reduceLT, Int.reduceToNat, Int.reduceEq, Int.reduceNeg, Int.reduceMul, Int.reduceAdd, Int.reduceSub, bC.u, bN.u, bL.u, bD.u]
    subst hb'
    rw [Run_lp, hr]
    exact RunL_canon (canon_cong (Eq.trans (by kernel_rfl) (show [(0, MV.str s), (4, .own 0 l.length), (6, .int .i64 i), (7, .str p), (8, .int .i64 (10 * (n : Int) + (c.toNat : Int) - 48)), (9, .int .i64 ((k : Int) + 1))] = W87 s l i p (n * 10 + (c.toNat - 48) : Nat) (k + 1 : Nat) from by rw [e, ev]; rfl)) (by kernel_rfl) (by kernel_rfl))

def K87 : List Item := [.blk 0, .code (.seq (.rg [⟨some (.t 80), .mv (.v 4), none⟩, ⟨some (.t 81), .mv (.v 4), none⟩, ⟨some (.t 82), .len false (.t 81), none⟩, ⟨some (.t 83), .bin .geq (.t 82) (.c (.int .i64 2)), none⟩, ⟨some (.t 84), .mv (.t 83), none⟩, ⟨some (.t 85), .mv (.v 4), some (.t 84, true)⟩, ⟨some (.t 86), .len false (.t 85), some (.t 84, true)⟩, ⟨some (.t 87), .bin .leq (.t 86) (.c (.int .i64 20)), some (.t 84, true)⟩, ⟨some (.t 88), .pick (.t 84) (.t 87) (.c (.bool false)), none⟩, ⟨some (.v 2), .mv (.t 80), none⟩, ⟨some (.v 3), .mv (.t 88), none⟩]) .ret)]
def bad87 : MV := .tup [.fel 1 [], .bool false]
def good87 (l : List Int) : MV := .tup [.fel 1 (ints l), .bool (decide (2 ≤ l.length) && decide (l.length ≤ 20))]
theorem c87_past (a : Nat) (ha : a = 0 ∨ a = 1) (s : List UInt8) (hs : s.length < 1000000) (l : List Int) (f : Int) : fin R87 (RunL Q m87k0 m87b0 K87 ⟨V87 a s l f (s.length + 1 : Nat), [], O87 a l, 2⟩) = some (good87 l) := by
    have hle : decide (((s.length + 1 : Nat) : Int) ≤ (s.length : Int)) = false := by simp; omega
    have hil := ints_length l
    have e1 : decide ((2 : Int) ≤ (l.length : Int)) = decide (2 ≤ l.length) := by rw [Bool.eq_iff_iff]; simp; omega
    have e2 : decide ((l.length : Int) ≤ 20) = decide (l.length ≤ 20) := by rw [Bool.eq_iff_iff]; simp; omega
    unfold good87
    rcases ha with rfl | rfl
    · obtain ⟨b', hb'⟩ : ∃ b', b' = m87b0 := ⟨_, rfl⟩
      rw [RunL_eq, show Item.lp m87k0 m87b0 = Item.lp m87k0 b' by rw [hb']]
      cases x1 : decide (2 ≤ l.length)
      · simp (maxSteps := 99999999) (disch := first | decide | omega | exact ok_of (by kernel_rfl)) only [m87b0, V87, O87, R87, K87, hle, hil, e1, e2, x1, Nat.reduceAdd, Nat.reduceMul, Nat.reduceLeDiff, Nat.reduceEqDiff, Nat.reduceLT, reduceCtorEq, cut, Int.reduceLE, Int.reduceLT, Int.reduceToNat, Int.reduceEq, Int.reduceNeg, Int.reduceMul, Int.reduceAdd, Int.reduceSub, bC.u, bB.u, bN.u, bL.u, bD.u]
      · cases x2 : decide (l.length ≤ 20)
        · simp (maxSteps := 99999999) (disch := first | decide | omega | exact ok_of (by kernel_rfl)) only [m87b0, V87, O87, R87, K87, hle, hil, e1, e2, x1, x2, Nat.reduceAdd, Nat.reduceMul, Nat.reduceLeDiff, Nat.reduceEqDiff, Nat.reduceLT, reduceCtorEq, cut, Int.reduceLE, Int.reduceLT, Int.reduceToNat, Int.reduceEq, Int.reduceNeg, Int.reduceMul, Int.reduceAdd, Int.reduceSub, bC.u, bB.u, bN.u, bL.u, bD.u]
        · simp (maxSteps := 99999999) (disch := first | decide | omega | exact ok_of (by kernel_rfl)) only [m87b0, V87, O87, R87, K87, hle, hil, e1, e2, x1, x2, Nat.reduceAdd, Nat.reduceMul, Nat.reduceLeDiff, Nat.reduceEqDiff, Nat.reduceLT, reduceCtorEq, cut, Int.reduceLE, Int.reduceLT, Int.reduceToNat, Int.reduceEq, Int.reduceNeg, Int.reduceMul, Int.reduceAdd, Int.reduceSub, bC.u, bB.u, bN.u, bL.u, bD.u]
    · obtain ⟨b', hb'⟩ : ∃ b', b' = m87b0 := ⟨_, rfl⟩
      rw [RunL_eq, show Item.lp m87k0 m87b0 = Item.lp m87k0 b' by rw [hb']]
      cases x1 : decide (2 ≤ l.length)
      · simp (maxSteps := 99999999) (disch := first | decide | omega | exact ok_of (by kernel_rfl)) only [m87b0, V87, O87, R87, K87, hle, hil, e1, e2, x1, Nat.reduceAdd, Nat.reduceMul, Nat.reduceLeDiff, Nat.reduceEqDiff, Nat.reduceLT, reduceCtorEq, cut, Int.reduceLE, Int.reduceLT, Int.reduceToNat, Int.reduceEq, Int.reduceNeg, Int.reduceMul, Int.reduceAdd, Int.reduceSub, bC.u, bB.u, bN.u, bL.u, bD.u]
      · cases x2 : decide (l.length ≤ 20)
        · simp (maxSteps := 99999999) (disch := first | decide | omega | exact ok_of (by kernel_rfl)) only [m87b0, V87, O87, R87, K87, hle, hil, e1, e2, x1, x2, Nat.reduceAdd, Nat.reduceMul, Nat.reduceLeDiff, Nat.reduceEqDiff, Nat.reduceLT, reduceCtorEq, cut, Int.reduceLE, Int.reduceLT, Int.reduceToNat, Int.reduceEq, Int.reduceNeg, Int.reduceMul, Int.reduceAdd, Int.reduceSub, bC.u, bB.u, bN.u, bL.u, bD.u]
        · simp (maxSteps := 99999999) (disch := first | decide | omega | exact ok_of (by kernel_rfl)) only [m87b0, V87, O87, R87, K87, hle, hil, e1, e2, x1, x2, Nat.reduceAdd, Nat.reduceMul, Nat.reduceLeDiff, Nat.reduceEqDiff, Nat.reduceLT, reduceCtorEq, cut, Int.reduceLE, Int.reduceLT, Int.reduceToNat, Int.reduceEq, Int.reduceNeg, Int.reduceMul, Int.reduceAdd, Int.reduceSub, bC.u, bB.u, bN.u, bL.u, bD.u]

theorem ne46 (x : UInt8) : ((x.toNat : Int) != 46) = !(x == 46) := by rw [bne, eq46]
theorem eq48 (x : UInt8) : ((x.toNat : Int) == 48) = (x == 48) := eq8 x 48
theorem c87_char (a : Nat) (ha : a = 0 ∨ a = 1) (s : List UInt8) (hs : s.length < 1000000) (l : List Int) (f : Int) (i : Nat) (c : UInt8) (hil : i < s.length) (hg : s.getD i 0 = c) (hc : c ≠ 46) :
    fin R87 (RunL Q m87k0 m87b0 K87 ⟨V87 a s l f i, [], O87 a l, 2⟩) = if dig c = true then fin R87 (RunL Q m87k0 m87b0 K87 ⟨V87 0 s l f (i + 1 : Nat), [], O87 0 l, 2⟩) else some bad87 := by
    have hle : decide ((i : Int) ≤ (s.length : Int)) = true := by simp; omega
    have hlt : decide ((i : Int) < (s.length : Int)) = true := by simp; omega
    have i0 : (0 : Int) ≤ (i : Int) := by omega
    have i1 : (i : Int) < (s.length : Int) := by omega
    have e : ((i : Int) + 1) = ((i + 1 : Nat) : Int) := by omega
    have h5 : (c == 46) = false := by rw [beq_eq_false_iff_ne]; exact hc
    obtain ⟨rhs, hr⟩ : ∃ z, z = fin R87 (RunL Q m87k0 m87b0 K87 ⟨V87 0 s l f (i + 1 : Nat), [], O87 0 l, 2⟩) := ⟨_, rfl⟩
    rw [← hr]
    have k1 : decide ((c.toNat : Int) < 48) = !decide (48 ≤ c.toNat) := by rw [Bool.eq_iff_iff]; simp; omega
    have k2 : decide (57 < (c.toNat : Int)) = !decide (c.toNat ≤ 57) := by rw [Bool.eq_iff_iff]; simp; omega
    unfold dig
    rcases ha with rfl | rfl
    · obtain ⟨b', hb'⟩ : ∃ b', b' = m87b0 := ⟨_, rfl⟩
      rw [RunL_eq, show Item.lp m87k0 m87b0 = Item.lp m87k0 b' by rw [hb']]
      cases y1 : decide (48 ≤ c.toNat)
      · rw [if_neg (by simp)]
        simp (maxSteps := 99999999) (disch := first | decide | omega | exact ok_of (by kernel_rfl)) only [m87b0, V87, O87, R87, hle, i0, eq46, ne46, eq48, hlt, i1, hg, h5, k1, k2, y1, bad87, Nat.reduceAdd, Nat.reduceMul, Nat.reduceLeDiff, Nat.reduceEqDiff, Nat.reduceLT, reduceCtorEq, cut, Int.reduceLE, Int.reduceLT, Int.reduceToNat, Int.reduceEq, Int.reduceNeg, Int.reduceMul, Int.reduceAdd, Int.reduceSub, bC.u, bB.u, bN.u, bL.u, bD.u]
      · cases y2 : decide (c.toNat ≤ 57)
        · rw [if_neg (by decide)]
          simp (maxSteps := 99999999) (disch := first | decide | omega | exact ok_of (by kernel_rfl)) only [m87b0, V87, O87, R87, hle, i0, eq46, ne46, eq48, hlt, i1, hg, h5, k1, k2, y1, y2, bad87, Nat.reduceAdd, Nat.reduceMul, Nat.reduceLeDiff, Nat.reduceEqDiff, Nat.reduceLT, reduceCtorEq, cut, Int.reduceLE, Int.reduceLT, Int.reduceToNat, Int.reduceEq, Int.reduceNeg, Int.reduceMul, Int.reduceAdd, Int.reduceSub, bC.u, bB.u, bN.u, bL.u, bD.u]
        · rw [if_pos (by decide)]
          simp (maxSteps := 99999999) (disch := first | decide | omega | exact ok_of (by kernel_rfl)) only [m87b0, V87, O87, R87, hle, i0, eq46, ne46, eq48, hlt, i1, hg, h5, k1, k2, y1, y2, bad87, Nat.reduceAdd, Nat.reduceMul, Nat.reduceLeDiff, Nat.reduceEqDiff, Nat.reduceLT, reduceCtorEq, cut, Int.reduceLE, Int.reduceLT, Int.reduceToNat, Int.reduceEq, Int.reduceNeg, Int.reduceMul, Int.reduceAdd, Int.reduceSub, bC.u, bB.u, bN.u, bL.u, bD.u]
          subst hb'
          refine ((congrArg (fin _) (Run_lp Q _ _ _ _)).trans ?_)
          rw [hr]
          exact congrArg (fin R87) (RunL_canon (canon_cong (Eq.trans (by kernel_rfl) (show [(0, MV.str s), (4, .own 0 l.length), (5, .int .i64 f), (6, .int .i64 ((i : Int) + 1))] = V87 0 s l f (i + 1 : Nat) from by rw [e]; rfl)) (by kernel_rfl) (by kernel_rfl)))
    · obtain ⟨b', hb'⟩ : ∃ b', b' = m87b0 := ⟨_, rfl⟩
      rw [RunL_eq, show Item.lp m87k0 m87b0 = Item.lp m87k0 b' by rw [hb']]
      cases y1 : decide (48 ≤ c.toNat)
      · rw [if_neg (by simp)]
        simp (maxSteps := 99999999) (disch := first | decide | omega | exact ok_of (by kernel_rfl)) only [m87b0, V87, O87, R87, hle, i0, eq46, ne46, eq48, hlt, i1, hg, h5, k1, k2, y1, bad87, Nat.reduceAdd, Nat.reduceMul, Nat.reduceLeDiff, Nat.reduceEqDiff, Nat.reduceLT, reduceCtorEq, cut, Int.reduceLE, Int.reduceLT, Int.reduceToNat, Int.reduceEq, Int.reduceNeg, Int.reduceMul, Int.reduceAdd, Int.reduceSub, bC.u, bB.u, bN.u, bL.u, bD.u]
      · cases y2 : decide (c.toNat ≤ 57)
        · rw [if_neg (by decide)]
          simp (maxSteps := 99999999) (disch := first | decide | omega | exact ok_of (by kernel_rfl)) only [m87b0, V87, O87, R87, hle, i0, eq46, ne46, eq48, hlt, i1, hg, h5, k1, k2, y1, y2, bad87, Nat.reduceAdd, Nat.reduceMul, Nat.reduceLeDiff, Nat.reduceEqDiff, Nat.reduceLT, reduceCtorEq, cut, Int.reduceLE, Int.reduceLT, Int.reduceToNat, Int.reduceEq, Int.reduceNeg, Int.reduceMul, Int.reduceAdd, Int.reduceSub, bC.u, bB.u, bN.u, bL.u, bD.u]
        · rw [if_pos (by decide)]
          simp (maxSteps := 99999999) (disch := first | decide | omega | exact ok_of (by kernel_rfl)) only [m87b0, V87, O87, R87, hle, i0, eq46, ne46, eq48, hlt, i1, hg, h5, k1, k2, y1, y2, bad87, Nat.reduceAdd, Nat.reduceMul, Nat.reduceLeDiff, Nat.reduceEqDiff, Nat.reduceLT, reduceCtorEq, cut, Int.reduceLE, Int.reduceLT, Int.reduceToNat, Int.reduceEq, Int.reduceNeg, Int.reduceMul, Int.reduceAdd, Int.reduceSub, bC.u, bB.u, bN.u, bL.u, bD.u]
          subst hb'
          refine ((congrArg (fin _) (Run_lp Q _ _ _ _)).trans ?_)
          rw [hr]
          exact congrArg (fin R87) (RunL_canon (canon_cong (Eq.trans (by kernel_rfl) (show [(0, MV.str s), (4, .own 0 l.length), (5, .int .i64 f), (6, .int .i64 ((i : Int) + 1))] = V87 0 s l f (i + 1 : Nat) from by rw [e]; rfl)) (by kernel_rfl) (by kernel_rfl)))

theorem Oapp87 (l : List Int) (n : Int) : [(0, Obj.el 1 (ints l ++ [.int .i64 n]) false)] = O87 0 (l ++ [n]) := by simp [O87, ints]
theorem Vapp87 (s : List UInt8) (l : List Int) (n f i : Int) : [(0, MV.str s), (4, .own 0 (l.length + 1)), (5, .int .i64 f), (6, .int .i64 i)] = V87 0 s (l ++ [n]) f i := by simp [V87]
theorem c87_dot (a : Nat) (ha : a = 0 ∨ a = 1) (s : List UInt8) (hs : s.length < 1000000) (l : List Int) (hl : l.length ≤ 1000000) (cur rest : List UInt8) (f i : Nat) (hp : s.drop f = cur ++ rest) (hi : i = f + cur.length) (hil : i ≤ s.length) (hcur : cur.all dig = true) (hend : i = s.length ∨ i < s.length ∧ s.getD i 0 = 46) :
    fin R87 (RunL Q m87k0 m87b0 K87 ⟨V87 a s l f i, [], O87 a l, 2⟩) = match numR cur with
      | some n => fin R87 (RunL Q m87k0 m87b0 K87 ⟨V87 0 s (l ++ [n]) (i + 1 : Nat) (i + 1 : Nat), [], O87 0 (l ++ [n]), 2⟩)
      | none => some bad87 := by
    have hle : decide ((i : Int) ≤ (s.length : Int)) = true := by simp; omega
    have i0 : (0 : Int) ≤ (i : Int) := by omega
    have e : ((i : Int) + 1) = ((i + 1 : Nat) : Int) := by omega
    have hint := ints_length l
    have hcap : (l.length + 1) * 8 ≤ 140737488355328 := by omega
    have dot : decide ((i : Int) < (s.length : Int)) = false ∨ decide ((i : Int) < (s.length : Int)) = true ∧ (i : Int) < (s.length : Int) ∧ (s.getD i 0 == 46) = true := by
      rcases hend with h | ⟨h, h2⟩
      · exact .inl (by simp; omega)
      · exact .inr ⟨by simp; omega, by omega, by rw [h2]; rfl⟩
    have hc : cut s (some (.int .i64 (f : Int))) (some (.int .i64 (i : Int))) = some cur := by
      simp only [cut]
      rw [if_pos ⟨by omega, by omega, by omega⟩]
      simp only [Int.toNat_natCast]
      rw [hp, show i - f = cur.length by omega, List.take_left]
    unfold numR okLab
    cases q1 : decide (1 ≤ cur.length)
    · have z0 : ((cur.length : Int) == 0) = true := by simp at q1; rw [q1]; rfl
      rw [Bool.false_and, Bool.false_and, if_neg (by decide)]
      show _ = some bad87
      rcases ha with rfl | rfl <;> rcases dot with h3 | ⟨h3, h4, h5⟩
      · obtain ⟨b', hb'⟩ : ∃ b', b' = m87b0 := ⟨_, rfl⟩
        rw [RunL_eq, show Item.lp m87k0 m87b0 = Item.lp m87k0 b' by rw [hb']]
        simp (maxSteps := 99999999) (disch := first | decide | omega | exact ok_of (by kernel_rfl)) only [m87b0, V87, O87, R87, hle, i0, eq46, ne46, eq48, h3, hc, bad87, z0, Nat.reduceAdd, Nat.reduceMul, Nat.reduceLeDiff, Nat.reduceEqDiff, Nat.reduceLT, reduceCtorEq, Int.reduceLE, Int.reduceLT, Int.reduceToNat, Int.reduceEq, Int.reduceNeg, Int.reduceMul, Int.reduceAdd, Int.reduceSub, bC.u, bB.u, bN.u, bL.u, bD.u]
      · obtain ⟨b', hb'⟩ : ∃ b', b' = m87b0 := ⟨_, rfl⟩
        rw [RunL_eq, show Item.lp m87k0 m87b0 = Item.lp m87k0 b' by rw [hb']]
        simp (maxSteps := 99999999) (disch := first | decide | omega | exact ok_of (by kernel_rfl)) only [m87b0, V87, O87, R87, hle, i0, eq46, ne46, eq48, h3, h4, h5, hc, bad87, z0, Nat.reduceAdd, Nat.reduceMul, Nat.reduceLeDiff, Nat.reduceEqDiff, Nat.reduceLT, reduceCtorEq, Int.reduceLE, Int.reduceLT, Int.reduceToNat, Int.reduceEq, Int.reduceNeg, Int.reduceMul, Int.reduceAdd, Int.reduceSub, bC.u, bB.u, bN.u, bL.u, bD.u]
      · obtain ⟨b', hb'⟩ : ∃ b', b' = m87b0 := ⟨_, rfl⟩
        rw [RunL_eq, show Item.lp m87k0 m87b0 = Item.lp m87k0 b' by rw [hb']]
        simp (maxSteps := 99999999) (disch := first | decide | omega | exact ok_of (by kernel_rfl)) only [m87b0, V87, O87, R87, hle, i0, eq46, ne46, eq48, h3, hc, bad87, z0, Nat.reduceAdd, Nat.reduceMul, Nat.reduceLeDiff, Nat.reduceEqDiff, Nat.reduceLT, reduceCtorEq, Int.reduceLE, Int.reduceLT, Int.reduceToNat, Int.reduceEq, Int.reduceNeg, Int.reduceMul, Int.reduceAdd, Int.reduceSub, bC.u, bB.u, bN.u, bL.u, bD.u]
      · obtain ⟨b', hb'⟩ : ∃ b', b' = m87b0 := ⟨_, rfl⟩
        rw [RunL_eq, show Item.lp m87k0 m87b0 = Item.lp m87k0 b' by rw [hb']]
        simp (maxSteps := 99999999) (disch := first | decide | omega | exact ok_of (by kernel_rfl)) only [m87b0, V87, O87, R87, hle, i0, eq46, ne46, eq48, h3, h4, h5, hc, bad87, z0, Nat.reduceAdd, Nat.reduceMul, Nat.reduceLeDiff, Nat.reduceEqDiff, Nat.reduceLT, reduceCtorEq, Int.reduceLE, Int.reduceLT, Int.reduceToNat, Int.reduceEq, Int.reduceNeg, Int.reduceMul, Int.reduceAdd, Int.reduceSub, bC.u, bB.u, bN.u, bL.u, bD.u]
    have z0 : ((cur.length : Int) == 0) = false := by simp at q1; rw [beq_eq_false_iff_ne]; omega
    have z1 : (0 : Int) < (cur.length : Int) := by simp at q1; omega
    cases q2 : decide (cur.length ≤ 13)
    · have z2 : decide ((13 : Int) < (cur.length : Int)) = true := by simp at q2; simp; omega
      rw [Bool.and_false, Bool.false_and, if_neg (by decide)]
      show _ = some bad87
      rcases ha with rfl | rfl <;> rcases dot with h3 | ⟨h3, h4, h5⟩
      · obtain ⟨b', hb'⟩ : ∃ b', b' = m87b0 := ⟨_, rfl⟩
        rw [RunL_eq, show Item.lp m87k0 m87b0 = Item.lp m87k0 b' by rw [hb']]
        simp (maxSteps := 99999999) (disch := first | decide | omega | exact ok_of (by kernel_rfl)) only [m87b0, V87, O87, R87, hle, i0, eq46, ne46, eq48, h3, hc, bad87, z0, z2, Nat.reduceAdd, Nat.reduceMul, Nat.reduceLeDiff, Nat.reduceEqDiff, Nat.reduceLT, reduceCtorEq, Int.reduceLE, Int.reduceLT, Int.reduceToNat, Int.reduceEq, Int.reduceNeg, Int.reduceMul, Int.reduceAdd, Int.reduceSub, bC.u, bB.u, bN.u, bL.u, bD.u]
      · obtain ⟨b', hb'⟩ : ∃ b', b' = m87b0 := ⟨_, rfl⟩
        rw [RunL_eq, show Item.lp m87k0 m87b0 = Item.lp m87k0 b' by rw [hb']]
        simp (maxSteps := 99999999) (disch := first | decide | omega | exact ok_of (by kernel_rfl)) only [m87b0, V87, O87, R87, hle, i0, eq46, ne46, eq48, h3, h4, h5, hc, bad87, z0, z2, Nat.reduceAdd, Nat.reduceMul, Nat.reduceLeDiff, Nat.reduceEqDiff, Nat.reduceLT, reduceCtorEq, Int.reduceLE, Int.reduceLT, Int.reduceToNat, Int.reduceEq, Int.reduceNeg, Int.reduceMul, Int.reduceAdd, Int.reduceSub, bC.u, bB.u, bN.u, bL.u, bD.u]
      · obtain ⟨b', hb'⟩ : ∃ b', b' = m87b0 := ⟨_, rfl⟩
        rw [RunL_eq, show Item.lp m87k0 m87b0 = Item.lp m87k0 b' by rw [hb']]
        simp (maxSteps := 99999999) (disch := first | decide | omega | exact ok_of (by kernel_rfl)) only [m87b0, V87, O87, R87, hle, i0, eq46, ne46, eq48, h3, hc, bad87, z0, z2, Nat.reduceAdd, Nat.reduceMul, Nat.reduceLeDiff, Nat.reduceEqDiff, Nat.reduceLT, reduceCtorEq, Int.reduceLE, Int.reduceLT, Int.reduceToNat, Int.reduceEq, Int.reduceNeg, Int.reduceMul, Int.reduceAdd, Int.reduceSub, bC.u, bB.u, bN.u, bL.u, bD.u]
      · obtain ⟨b', hb'⟩ : ∃ b', b' = m87b0 := ⟨_, rfl⟩
        rw [RunL_eq, show Item.lp m87k0 m87b0 = Item.lp m87k0 b' by rw [hb']]
        simp (maxSteps := 99999999) (disch := first | decide | omega | exact ok_of (by kernel_rfl)) only [m87b0, V87, O87, R87, hle, i0, eq46, ne46, eq48, h3, h4, h5, hc, bad87, z0, z2, Nat.reduceAdd, Nat.reduceMul, Nat.reduceLeDiff, Nat.reduceEqDiff, Nat.reduceLT, reduceCtorEq, Int.reduceLE, Int.reduceLT, Int.reduceToNat, Int.reduceEq, Int.reduceNeg, Int.reduceMul, Int.reduceAdd, Int.reduceSub, bC.u, bB.u, bN.u, bL.u, bD.u]
    have z2 : decide ((13 : Int) < (cur.length : Int)) = false := by simp at q2; simp; omega
    have z3 : decide ((1 : Int) < (cur.length : Int)) = decide (1 < cur.length) := by rw [Bool.eq_iff_iff]; simp; omega
    cases q4 : (decide (1 < cur.length) && cur.getD 0 0 == 48)
    case true =>
      simp only [Bool.and_eq_true] at q4
      have q5 := q4.1
      have q6 := q4.2
      rw [if_neg (by decide)]
      show _ = some bad87
      rcases ha with rfl | rfl <;> rcases dot with h3 | ⟨h3, h4, h5⟩
      · obtain ⟨b', hb'⟩ : ∃ b', b' = m87b0 := ⟨_, rfl⟩
        rw [RunL_eq, show Item.lp m87k0 m87b0 = Item.lp m87k0 b' by rw [hb']]
        simp (maxSteps := 99999999) (disch := first | decide | omega | exact ok_of (by kernel_rfl)) only [m87b0, V87, O87, R87, hle, i0, eq46, ne46, eq48, h3, hc, bad87, z0, z1, z2, z3, q5, q6, Nat.reduceAdd, Nat.reduceMul, Nat.reduceLeDiff, Nat.reduceEqDiff, Nat.reduceLT, reduceCtorEq, Int.reduceLE, Int.reduceLT, Int.reduceToNat, Int.reduceEq, Int.reduceNeg, Int.reduceMul, Int.reduceAdd, Int.reduceSub, bC.u, bB.u, bN.u, bL.u, bD.u]
      · obtain ⟨b', hb'⟩ : ∃ b', b' = m87b0 := ⟨_, rfl⟩
        rw [RunL_eq, show Item.lp m87k0 m87b0 = Item.lp m87k0 b' by rw [hb']]
        simp (maxSteps := 99999999) (disch := first | decide | omega | exact ok_of (by kernel_rfl)) only [m87b0, V87, O87, R87, hle, i0, eq46, ne46, eq48, h3, h4, h5, hc, bad87, z0, z1, z2, z3, q5, q6, Nat.reduceAdd, Nat.reduceMul, Nat.reduceLeDiff, Nat.reduceEqDiff, Nat.reduceLT, reduceCtorEq, Int.reduceLE, Int.reduceLT, Int.reduceToNat, Int.reduceEq, Int.reduceNeg, Int.reduceMul, Int.reduceAdd, Int.reduceSub, bC.u, bB.u, bN.u, bL.u, bD.u]
      · obtain ⟨b', hb'⟩ : ∃ b', b' = m87b0 := ⟨_, rfl⟩
        rw [RunL_eq, show Item.lp m87k0 m87b0 = Item.lp m87k0 b' by rw [hb']]
        simp (maxSteps := 99999999) (disch := first | decide | omega | exact ok_of (by kernel_rfl)) only [m87b0, V87, O87, R87, hle, i0, eq46, ne46, eq48, h3, hc, bad87, z0, z1, z2, z3, q5, q6, Nat.reduceAdd, Nat.reduceMul, Nat.reduceLeDiff, Nat.reduceEqDiff, Nat.reduceLT, reduceCtorEq, Int.reduceLE, Int.reduceLT, Int.reduceToNat, Int.reduceEq, Int.reduceNeg, Int.reduceMul, Int.reduceAdd, Int.reduceSub, bC.u, bB.u, bN.u, bL.u, bD.u]
      · obtain ⟨b', hb'⟩ : ∃ b', b' = m87b0 := ⟨_, rfl⟩
        rw [RunL_eq, show Item.lp m87k0 m87b0 = Item.lp m87k0 b' by rw [hb']]
        simp (maxSteps := 99999999) (disch := first | decide | omega | exact ok_of (by kernel_rfl)) only [m87b0, V87, O87, R87, hle, i0, eq46, ne46, eq48, h3, h4, h5, hc, bad87, z0, z1, z2, z3, q5, q6, Nat.reduceAdd, Nat.reduceMul, Nat.reduceLeDiff, Nat.reduceEqDiff, Nat.reduceLT, reduceCtorEq, Int.reduceLE, Int.reduceLT, Int.reduceToNat, Int.reduceEq, Int.reduceNeg, Int.reduceMul, Int.reduceAdd, Int.reduceSub, bC.u, bB.u, bN.u, bL.u, bD.u]
    case false =>
      rw [if_pos (by decide)]
      have hlen13 : cur.length ≤ 13 := by simpa using q2
      have q7 : decide (1 < cur.length) = false ∨ decide (1 < cur.length) = true ∧ (cur.getD 0 0 == 48) = false := by
        rcases Bool.and_eq_false_iff.1 q4 with h | h
        · exact .inl h
        · cases hx : decide (1 < cur.length)
          · exact .inl rfl
          · exact .inr ⟨rfl, h⟩
      have hv := c87_val s l (i : Int) cur hlen13
      have hpow : (0 + 1) * 10 ^ cur.length ≤ 10000000000000 := by
        have : 10 ^ cur.length ≤ 10 ^ 13 := Nat.pow_le_pow_right (by decide) hlen13
        rw [Nat.zero_add, Nat.one_mul]
        exact this
      obtain ⟨rhs, hr⟩ : ∃ z, z = (match (if val 0 cur < 1099511627776 then some (val 0 cur : Int) else none : Option Int) with
        | some n => fin R87 (RunL Q m87k0 m87b0 K87 ⟨V87 0 s (l ++ [n]) (i + 1 : Nat) (i + 1 : Nat), [], O87 0 (l ++ [n]), 2⟩)
        | none => some bad87) := ⟨_, rfl⟩
      refine Eq.trans ?_ hr
      rcases ha with rfl | rfl <;> rcases dot with h3 | ⟨h3, h4, h5⟩ <;> rcases q7 with q8 | ⟨q8, q9⟩
      · obtain ⟨b', hb'⟩ : ∃ b', b' = m87b0 := ⟨_, rfl⟩
        rw [RunL_eq, show Item.lp m87k0 m87b0 = Item.lp m87k0 b' by rw [hb']]
        simp (maxSteps := 99999999) (disch := first | decide | omega | exact ok_of (by kernel_rfl)) only [m87b0, V87, O87, R87, hle, i0, eq46, ne46, eq48, h3, Run_loop, hc, z0, z1, z2, z3, q8, Nat.reduceAdd, Nat.reduceMul, Nat.reduceLeDiff, Nat.reduceEqDiff, Nat.reduceLT, reduceCtorEq, Int.reduceLE, Int.reduceLT, Int.reduceToNat, Int.reduceEq, Int.reduceNeg, Int.reduceMul, Int.reduceAdd, Int.reduceSub, bC.u, bB.u, bN.u, bL.u, bD.u]
        refine (congrArg (fin _) (RunL_canon (canon_cong (V := W87 s l i cur (0 : Nat) (0 : Nat)) (O := O87 0 l) (nx := 2) (by kernel_rfl) (by kernel_rfl) (by kernel_rfl)))).trans ?_
        rw [hv _ cur 0 0 rfl (by omega) hcur hpow, hr]
        by_cases hv2 : val 0 cur < 1099511627776
        · have d1 : decide ((1099511627776 : Int) ≤ (val 0 cur : Int)) = false := by simp; omega
          rw [if_pos hv2]
          obtain ⟨rh2, hr2⟩ : ∃ z, z = fin R87 (RunL Q m87k0 m87b0 K87 ⟨V87 0 s (l ++ [(val 0 cur : Int)]) (i + 1 : Nat) (i + 1 : Nat), [], O87 0 (l ++ [(val 0 cur : Int)]), 2⟩) := ⟨_, rfl⟩
          show _ = fin R87 (RunL Q m87k0 m87b0 K87 ⟨V87 0 s (l ++ [(val 0 cur : Int)]) (i + 1 : Nat) (i + 1 : Nat), [], O87 0 (l ++ [(val 0 cur : Int)]), 2⟩)
          rw [← hr2]
          simp (maxSteps := 99999999) (disch := first | decide | omega | exact ok_of (by kernel_rfl)) only [W87, O87, R87, bad87, d1, hint, hcap, List.set, Nat.reduceAdd, Nat.reduceMul, Nat.reduceLeDiff, Nat.reduceEqDiff, Nat.reduceLT, reduceCtorEq, cut, Int.reduceLE, Int.reduceLT, Int.reduceToNat, Int.reduceEq, Int.reduceNeg, Int.reduceMul, Int.reduceAdd, Int.reduceSub, bC.u, bN.u, bL.u, bD.u]
          subst hb'
          refine ((congrArg (fin _) (Run_lp Q _ _ _ _)).trans ?_)
          rw [hr2]
          exact congrArg (fin R87) (RunL_canon (canon_cong (Eq.trans (by kernel_rfl) (show [(0, MV.str s), (4, .own 0 (l.length + 1)), (5, .int .i64 ((i : Int) + 1)), (6, .int .i64 ((i : Int) + 1))] = V87 0 s (l ++ [(val 0 cur : Int)]) (i + 1 : Nat) (i + 1 : Nat) from by rw [e]; exact Vapp87 _ _ _ _ _)) (Eq.trans (by kernel_rfl) (Oapp87 l _)) (by kernel_rfl)))
        · have d1 : decide ((1099511627776 : Int) ≤ (val 0 cur : Int)) = true := by simp; omega
          rw [if_neg hv2]
          show _ = some bad87
          simp (maxSteps := 99999999) (disch := first | decide | omega | exact ok_of (by kernel_rfl)) only [W87, O87, R87, bad87, d1, hint, hcap, List.set, Nat.reduceAdd, Nat.reduceMul, Nat.reduceLeDiff, Nat.reduceEqDiff, Nat.reduceLT, reduceCtorEq, cut, Int.reduceLE, Int.reduceLT, Int.reduceToNat, Int.reduceEq, Int.reduceNeg, Int.reduceMul, Int.reduceAdd, Int.reduceSub, bC.u, bN.u, bL.u, bD.u]
      · obtain ⟨b', hb'⟩ : ∃ b', b' = m87b0 := ⟨_, rfl⟩
        rw [RunL_eq, show Item.lp m87k0 m87b0 = Item.lp m87k0 b' by rw [hb']]
        simp (maxSteps := 99999999) (disch := first | decide | omega | exact ok_of (by kernel_rfl)) only [m87b0, V87, O87, R87, hle, i0, eq46, ne46, eq48, h3, q9, Run_loop, hc, z0, z1, z2, z3, q8, Nat.reduceAdd, Nat.reduceMul, Nat.reduceLeDiff, Nat.reduceEqDiff, Nat.reduceLT, reduceCtorEq, Int.reduceLE, Int.reduceLT, Int.reduceToNat, Int.reduceEq, Int.reduceNeg, Int.reduceMul, Int.reduceAdd, Int.reduceSub, bC.u, bB.u, bN.u, bL.u, bD.u]
        refine (congrArg (fin _) (RunL_canon (canon_cong (V := W87 s l i cur (0 : Nat) (0 : Nat)) (O := O87 0 l) (nx := 2) (by kernel_rfl) (by kernel_rfl) (by kernel_rfl)))).trans ?_
        rw [hv _ cur 0 0 rfl (by omega) hcur hpow, hr]
        by_cases hv2 : val 0 cur < 1099511627776
        · have d1 : decide ((1099511627776 : Int) ≤ (val 0 cur : Int)) = false := by simp; omega
          rw [if_pos hv2]
          obtain ⟨rh2, hr2⟩ : ∃ z, z = fin R87 (RunL Q m87k0 m87b0 K87 ⟨V87 0 s (l ++ [(val 0 cur : Int)]) (i + 1 : Nat) (i + 1 : Nat), [], O87 0 (l ++ [(val 0 cur : Int)]), 2⟩) := ⟨_, rfl⟩
          show _ = fin R87 (RunL Q m87k0 m87b0 K87 ⟨V87 0 s (l ++ [(val 0 cur : Int)]) (i + 1 : Nat) (i + 1 : Nat), [], O87 0 (l ++ [(val 0 cur : Int)]), 2⟩)
          rw [← hr2]
          simp (maxSteps := 99999999) (disch := first | decide | omega | exact ok_of (by kernel_rfl)) only [W87, O87, R87, bad87, d1, hint, hcap, List.set, Nat.reduceAdd, Nat.reduceMul, Nat.reduceLeDiff, Nat.reduceEqDiff, Nat.reduceLT, reduceCtorEq, cut, Int.reduceLE, Int.reduceLT, Int.reduceToNat, Int.reduceEq, Int.reduceNeg, Int.reduceMul, Int.reduceAdd, Int.reduceSub, bC.u, bN.u, bL.u, bD.u]
          subst hb'
          refine ((congrArg (fin _) (Run_lp Q _ _ _ _)).trans ?_)
          rw [hr2]
          exact congrArg (fin R87) (RunL_canon (canon_cong (Eq.trans (by kernel_rfl) (show [(0, MV.str s), (4, .own 0 (l.length + 1)), (5, .int .i64 ((i : Int) + 1)), (6, .int .i64 ((i : Int) + 1))] = V87 0 s (l ++ [(val 0 cur : Int)]) (i + 1 : Nat) (i + 1 : Nat) from by rw [e]; exact Vapp87 _ _ _ _ _)) (Eq.trans (by kernel_rfl) (Oapp87 l _)) (by kernel_rfl)))
        · have d1 : decide ((1099511627776 : Int) ≤ (val 0 cur : Int)) = true := by simp; omega
          rw [if_neg hv2]
          show _ = some bad87
          simp (maxSteps := 99999999) (disch := first | decide | omega | exact ok_of (by kernel_rfl)) only [W87, O87, R87, bad87, d1, hint, hcap, List.set, Nat.reduceAdd, Nat.reduceMul, Nat.reduceLeDiff, Nat.reduceEqDiff, Nat.reduceLT, reduceCtorEq, cut, Int.reduceLE, Int.reduceLT, Int.reduceToNat, Int.reduceEq, Int.reduceNeg, Int.reduceMul, Int.reduceAdd, Int.reduceSub, bC.u, bN.u, bL.u, bD.u]
      · obtain ⟨b', hb'⟩ : ∃ b', b' = m87b0 := ⟨_, rfl⟩
        rw [RunL_eq, show Item.lp m87k0 m87b0 = Item.lp m87k0 b' by rw [hb']]
        simp (maxSteps := 99999999) (disch := first | decide | omega | exact ok_of (by kernel_rfl)) only [m87b0, V87, O87, R87, hle, i0, eq46, ne46, eq48, h3, h4, h5, Run_loop, hc, z0, z1, z2, z3, q8, Nat.reduceAdd, Nat.reduceMul, Nat.reduceLeDiff, Nat.reduceEqDiff, Nat.reduceLT, reduceCtorEq, Int.reduceLE, Int.reduceLT, Int.reduceToNat, Int.reduceEq, Int.reduceNeg, Int.reduceMul, Int.reduceAdd, Int.reduceSub, bC.u, bB.u, bN.u, bL.u, bD.u]
        refine (congrArg (fin _) (RunL_canon (canon_cong (V := W87 s l i cur (0 : Nat) (0 : Nat)) (O := O87 0 l) (nx := 2) (by kernel_rfl) (by kernel_rfl) (by kernel_rfl)))).trans ?_
        rw [hv _ cur 0 0 rfl (by omega) hcur hpow, hr]
        by_cases hv2 : val 0 cur < 1099511627776
        · have d1 : decide ((1099511627776 : Int) ≤ (val 0 cur : Int)) = false := by simp; omega
          rw [if_pos hv2]
          obtain ⟨rh2, hr2⟩ : ∃ z, z = fin R87 (RunL Q m87k0 m87b0 K87 ⟨V87 0 s (l ++ [(val 0 cur : Int)]) (i + 1 : Nat) (i + 1 : Nat), [], O87 0 (l ++ [(val 0 cur : Int)]), 2⟩) := ⟨_, rfl⟩
          show _ = fin R87 (RunL Q m87k0 m87b0 K87 ⟨V87 0 s (l ++ [(val 0 cur : Int)]) (i + 1 : Nat) (i + 1 : Nat), [], O87 0 (l ++ [(val 0 cur : Int)]), 2⟩)
          rw [← hr2]
          simp (maxSteps := 99999999) (disch := first | decide | omega | exact ok_of (by kernel_rfl)) only [W87, O87, R87, bad87, d1, hint, hcap, List.set, Nat.reduceAdd, Nat.reduceMul, Nat.reduceLeDiff, Nat.reduceEqDiff, Nat.reduceLT, reduceCtorEq, cut, Int.reduceLE, Int.reduceLT, Int.reduceToNat, Int.reduceEq, Int.reduceNeg, Int.reduceMul, Int.reduceAdd, Int.reduceSub, bC.u, bN.u, bL.u, bD.u]
          subst hb'
          refine ((congrArg (fin _) (Run_lp Q _ _ _ _)).trans ?_)
          rw [hr2]
          exact congrArg (fin R87) (RunL_canon (canon_cong (Eq.trans (by kernel_rfl) (show [(0, MV.str s), (4, .own 0 (l.length + 1)), (5, .int .i64 ((i : Int) + 1)), (6, .int .i64 ((i : Int) + 1))] = V87 0 s (l ++ [(val 0 cur : Int)]) (i + 1 : Nat) (i + 1 : Nat) from by rw [e]; exact Vapp87 _ _ _ _ _)) (Eq.trans (by kernel_rfl) (Oapp87 l _)) (by kernel_rfl)))
        · have d1 : decide ((1099511627776 : Int) ≤ (val 0 cur : Int)) = true := by simp; omega
          rw [if_neg hv2]
          show _ = some bad87
          simp (maxSteps := 99999999) (disch := first | decide | omega | exact ok_of (by kernel_rfl)) only [W87, O87, R87, bad87, d1, hint, hcap, List.set, Nat.reduceAdd, Nat.reduceMul, Nat.reduceLeDiff, Nat.reduceEqDiff, Nat.reduceLT, reduceCtorEq, cut, Int.reduceLE, Int.reduceLT, Int.reduceToNat, Int.reduceEq, Int.reduceNeg, Int.reduceMul, Int.reduceAdd, Int.reduceSub, bC.u, bN.u, bL.u, bD.u]
      · obtain ⟨b', hb'⟩ : ∃ b', b' = m87b0 := ⟨_, rfl⟩
        rw [RunL_eq, show Item.lp m87k0 m87b0 = Item.lp m87k0 b' by rw [hb']]
        simp (maxSteps := 99999999) (disch := first | decide | omega | exact ok_of (by kernel_rfl)) only [m87b0, V87, O87, R87, hle, i0, eq46, ne46, eq48, h3, h4, h5, q9, Run_loop, hc, z0, z1, z2, z3, q8, Nat.reduceAdd, Nat.reduceMul, Nat.reduceLeDiff, Nat.reduceEqDiff, Nat.reduceLT, reduceCtorEq, Int.reduceLE, Int.reduceLT, Int.reduceToNat, Int.reduceEq, Int.reduceNeg, Int.reduceMul, Int.reduceAdd, Int.reduceSub, bC.u, bB.u, bN.u, bL.u, bD.u]
        refine (congrArg (fin _) (RunL_canon (canon_cong (V := W87 s l i cur (0 : Nat) (0 : Nat)) (O := O87 0 l) (nx := 2) (by kernel_rfl) (by kernel_rfl) (by kernel_rfl)))).trans ?_
        rw [hv _ cur 0 0 rfl (by omega) hcur hpow, hr]
        by_cases hv2 : val 0 cur < 1099511627776
        · have d1 : decide ((1099511627776 : Int) ≤ (val 0 cur : Int)) = false := by simp; omega
          rw [if_pos hv2]
          obtain ⟨rh2, hr2⟩ : ∃ z, z = fin R87 (RunL Q m87k0 m87b0 K87 ⟨V87 0 s (l ++ [(val 0 cur : Int)]) (i + 1 : Nat) (i + 1 : Nat), [], O87 0 (l ++ [(val 0 cur : Int)]), 2⟩) := ⟨_, rfl⟩
          show _ = fin R87 (RunL Q m87k0 m87b0 K87 ⟨V87 0 s (l ++ [(val 0 cur : Int)]) (i + 1 : Nat) (i + 1 : Nat), [], O87 0 (l ++ [(val 0 cur : Int)]), 2⟩)
          rw [← hr2]
          simp (maxSteps := 99999999) (disch := first | decide | omega | exact ok_of (by kernel_rfl)) only [W87, O87, R87, bad87, d1, hint, hcap, List.set, Nat.reduceAdd, Nat.reduceMul, Nat.reduceLeDiff, Nat.reduceEqDiff, Nat.reduceLT, reduceCtorEq, cut, Int.reduceLE, Int.reduceLT, Int.reduceToNat, Int.reduceEq, Int.reduceNeg, Int.reduceMul, Int.reduceAdd, Int.reduceSub, bC.u, bN.u, bL.u, bD.u]
          subst hb'
          refine ((congrArg (fin _) (Run_lp Q _ _ _ _)).trans ?_)
          rw [hr2]
          exact congrArg (fin R87) (RunL_canon (canon_cong (Eq.trans (by kernel_rfl) (show [(0, MV.str s), (4, .own 0 (l.length + 1)), (5, .int .i64 ((i : Int) + 1)), (6, .int .i64 ((i : Int) + 1))] = V87 0 s (l ++ [(val 0 cur : Int)]) (i + 1 : Nat) (i + 1 : Nat) from by rw [e]; exact Vapp87 _ _ _ _ _)) (Eq.trans (by kernel_rfl) (Oapp87 l _)) (by kernel_rfl)))
        · have d1 : decide ((1099511627776 : Int) ≤ (val 0 cur : Int)) = true := by simp; omega
          rw [if_neg hv2]
          show _ = some bad87
          simp (maxSteps := 99999999) (disch := first | decide | omega | exact ok_of (by kernel_rfl)) only [W87, O87, R87, bad87, d1, hint, hcap, List.set, Nat.reduceAdd, Nat.reduceMul, Nat.reduceLeDiff, Nat.reduceEqDiff, Nat.reduceLT, reduceCtorEq, cut, Int.reduceLE, Int.reduceLT, Int.reduceToNat, Int.reduceEq, Int.reduceNeg, Int.reduceMul, Int.reduceAdd, Int.reduceSub, bC.u, bN.u, bL.u, bD.u]
      · obtain ⟨b', hb'⟩ : ∃ b', b' = m87b0 := ⟨_, rfl⟩
        rw [RunL_eq, show Item.lp m87k0 m87b0 = Item.lp m87k0 b' by rw [hb']]
        simp (maxSteps := 99999999) (disch := first | decide | omega | exact ok_of (by kernel_rfl)) only [m87b0, V87, O87, R87, hle, i0, eq46, ne46, eq48, h3, Run_loop, hc, z0, z1, z2, z3, q8, Nat.reduceAdd, Nat.reduceMul, Nat.reduceLeDiff, Nat.reduceEqDiff, Nat.reduceLT, reduceCtorEq, Int.reduceLE, Int.reduceLT, Int.reduceToNat, Int.reduceEq, Int.reduceNeg, Int.reduceMul, Int.reduceAdd, Int.reduceSub, bC.u, bB.u, bN.u, bL.u, bD.u]
        refine (congrArg (fin _) (RunL_canon (canon_cong (V := W87 s l i cur (0 : Nat) (0 : Nat)) (O := O87 0 l) (nx := 2) (by kernel_rfl) (by kernel_rfl) (by kernel_rfl)))).trans ?_
        rw [hv _ cur 0 0 rfl (by omega) hcur hpow, hr]
        by_cases hv2 : val 0 cur < 1099511627776
        · have d1 : decide ((1099511627776 : Int) ≤ (val 0 cur : Int)) = false := by simp; omega
          rw [if_pos hv2]
          obtain ⟨rh2, hr2⟩ : ∃ z, z = fin R87 (RunL Q m87k0 m87b0 K87 ⟨V87 0 s (l ++ [(val 0 cur : Int)]) (i + 1 : Nat) (i + 1 : Nat), [], O87 0 (l ++ [(val 0 cur : Int)]), 2⟩) := ⟨_, rfl⟩
          show _ = fin R87 (RunL Q m87k0 m87b0 K87 ⟨V87 0 s (l ++ [(val 0 cur : Int)]) (i + 1 : Nat) (i + 1 : Nat), [], O87 0 (l ++ [(val 0 cur : Int)]), 2⟩)
          rw [← hr2]
          simp (maxSteps := 99999999) (disch := first | decide | omega | exact ok_of (by kernel_rfl)) only [W87, O87, R87, bad87, d1, hint, hcap, List.set, Nat.reduceAdd, Nat.reduceMul, Nat.reduceLeDiff, Nat.reduceEqDiff, Nat.reduceLT, reduceCtorEq, cut, Int.reduceLE, Int.reduceLT, Int.reduceToNat, Int.reduceEq, Int.reduceNeg, Int.reduceMul, Int.reduceAdd, Int.reduceSub, bC.u, bN.u, bL.u, bD.u]
          subst hb'
          refine ((congrArg (fin _) (Run_lp Q _ _ _ _)).trans ?_)
          rw [hr2]
          exact congrArg (fin R87) (RunL_canon (canon_cong (Eq.trans (by kernel_rfl) (show [(0, MV.str s), (4, .own 0 (l.length + 1)), (5, .int .i64 ((i : Int) + 1)), (6, .int .i64 ((i : Int) + 1))] = V87 0 s (l ++ [(val 0 cur : Int)]) (i + 1 : Nat) (i + 1 : Nat) from by rw [e]; exact Vapp87 _ _ _ _ _)) (Eq.trans (by kernel_rfl) (Oapp87 l _)) (by kernel_rfl)))
        · have d1 : decide ((1099511627776 : Int) ≤ (val 0 cur : Int)) = true := by simp; omega
          rw [if_neg hv2]
          show _ = some bad87
          simp (maxSteps := 99999999) (disch := first | decide | omega | exact ok_of (by kernel_rfl)) only [W87, O87, R87, bad87, d1, hint, hcap, List.set, Nat.reduceAdd, Nat.reduceMul, Nat.reduceLeDiff, Nat.reduceEqDiff, Nat.reduceLT, reduceCtorEq, cut, Int.reduceLE, Int.reduceLT, Int.reduceToNat, Int.reduceEq, Int.reduceNeg, Int.reduceMul, Int.reduceAdd, Int.reduceSub, bC.u, bN.u, bL.u, bD.u]
      · obtain ⟨b', hb'⟩ : ∃ b', b' = m87b0 := ⟨_, rfl⟩
        rw [RunL_eq, show Item.lp m87k0 m87b0 = Item.lp m87k0 b' by rw [hb']]
        simp (maxSteps := 99999999) (disch := first | decide | omega | exact ok_of (by kernel_rfl)) only [m87b0, V87, O87, R87, hle, i0, eq46, ne46, eq48, h3, q9, Run_loop, hc, z0, z1, z2, z3, q8, Nat.reduceAdd, Nat.reduceMul, Nat.reduceLeDiff, Nat.reduceEqDiff, Nat.reduceLT, reduceCtorEq, Int.reduceLE, Int.reduceLT, Int.reduceToNat, Int.reduceEq, Int.reduceNeg, Int.reduceMul, Int.reduceAdd, Int.reduceSub, bC.u, bB.u, bN.u, bL.u, bD.u]
        refine (congrArg (fin _) (RunL_canon (canon_cong (V := W87 s l i cur (0 : Nat) (0 : Nat)) (O := O87 0 l) (nx := 2) (by kernel_rfl) (by kernel_rfl) (by kernel_rfl)))).trans ?_
        rw [hv _ cur 0 0 rfl (by omega) hcur hpow, hr]
        by_cases hv2 : val 0 cur < 1099511627776
        · have d1 : decide ((1099511627776 : Int) ≤ (val 0 cur : Int)) = false := by simp; omega
          rw [if_pos hv2]
          obtain ⟨rh2, hr2⟩ : ∃ z, z = fin R87 (RunL Q m87k0 m87b0 K87 ⟨V87 0 s (l ++ [(val 0 cur : Int)]) (i + 1 : Nat) (i + 1 : Nat), [], O87 0 (l ++ [(val 0 cur : Int)]), 2⟩) := ⟨_, rfl⟩
          show _ = fin R87 (RunL Q m87k0 m87b0 K87 ⟨V87 0 s (l ++ [(val 0 cur : Int)]) (i + 1 : Nat) (i + 1 : Nat), [], O87 0 (l ++ [(val 0 cur : Int)]), 2⟩)
          rw [← hr2]
          simp (maxSteps := 99999999) (disch := first | decide | omega | exact ok_of (by kernel_rfl)) only [W87, O87, R87, bad87, d1, hint, hcap, List.set, Nat.reduceAdd, Nat.reduceMul, Nat.reduceLeDiff, Nat.reduceEqDiff, Nat.reduceLT, reduceCtorEq, cut, Int.reduceLE, Int.reduceLT, Int.reduceToNat, Int.reduceEq, Int.reduceNeg, Int.reduceMul, Int.reduceAdd, Int.reduceSub, bC.u, bN.u, bL.u, bD.u]
          subst hb'
          refine ((congrArg (fin _) (Run_lp Q _ _ _ _)).trans ?_)
          rw [hr2]
          exact congrArg (fin R87) (RunL_canon (canon_cong (Eq.trans (by kernel_rfl) (show [(0, MV.str s), (4, .own 0 (l.length + 1)), (5, .int .i64 ((i : Int) + 1)), (6, .int .i64 ((i : Int) + 1))] = V87 0 s (l ++ [(val 0 cur : Int)]) (i + 1 : Nat) (i + 1 : Nat) from by rw [e]; exact Vapp87 _ _ _ _ _)) (Eq.trans (by kernel_rfl) (Oapp87 l _)) (by kernel_rfl)))
        · have d1 : decide ((1099511627776 : Int) ≤ (val 0 cur : Int)) = true := by simp; omega
          rw [if_neg hv2]
          show _ = some bad87
          simp (maxSteps := 99999999) (disch := first | decide | omega | exact ok_of (by kernel_rfl)) only [W87, O87, R87, bad87, d1, hint, hcap, List.set, Nat.reduceAdd, Nat.reduceMul, Nat.reduceLeDiff, Nat.reduceEqDiff, Nat.reduceLT, reduceCtorEq, cut, Int.reduceLE, Int.reduceLT, Int.reduceToNat, Int.reduceEq, Int.reduceNeg, Int.reduceMul, Int.reduceAdd, Int.reduceSub, bC.u, bN.u, bL.u, bD.u]
      · obtain ⟨b', hb'⟩ : ∃ b', b' = m87b0 := ⟨_, rfl⟩
        rw [RunL_eq, show Item.lp m87k0 m87b0 = Item.lp m87k0 b' by rw [hb']]
        simp (maxSteps := 99999999) (disch := first | decide | omega | exact ok_of (by kernel_rfl)) only [m87b0, V87, O87, R87, hle, i0, eq46, ne46, eq48, h3, h4, h5, Run_loop, hc, z0, z1, z2, z3, q8, Nat.reduceAdd, Nat.reduceMul, Nat.reduceLeDiff, Nat.reduceEqDiff, Nat.reduceLT, reduceCtorEq, Int.reduceLE, Int.reduceLT, Int.reduceToNat, Int.reduceEq, Int.reduceNeg, Int.reduceMul, Int.reduceAdd, Int.reduceSub, bC.u, bB.u, bN.u, bL.u, bD.u]
        refine (congrArg (fin _) (RunL_canon (canon_cong (V := W87 s l i cur (0 : Nat) (0 : Nat)) (O := O87 0 l) (nx := 2) (by kernel_rfl) (by kernel_rfl) (by kernel_rfl)))).trans ?_
        rw [hv _ cur 0 0 rfl (by omega) hcur hpow, hr]
        by_cases hv2 : val 0 cur < 1099511627776
        · have d1 : decide ((1099511627776 : Int) ≤ (val 0 cur : Int)) = false := by simp; omega
          rw [if_pos hv2]
          obtain ⟨rh2, hr2⟩ : ∃ z, z = fin R87 (RunL Q m87k0 m87b0 K87 ⟨V87 0 s (l ++ [(val 0 cur : Int)]) (i + 1 : Nat) (i + 1 : Nat), [], O87 0 (l ++ [(val 0 cur : Int)]), 2⟩) := ⟨_, rfl⟩
          show _ = fin R87 (RunL Q m87k0 m87b0 K87 ⟨V87 0 s (l ++ [(val 0 cur : Int)]) (i + 1 : Nat) (i + 1 : Nat), [], O87 0 (l ++ [(val 0 cur : Int)]), 2⟩)
          rw [← hr2]
          simp (maxSteps := 99999999) (disch := first | decide | omega | exact ok_of (by kernel_rfl)) only [W87, O87, R87, bad87, d1, hint, hcap, List.set, Nat.reduceAdd, Nat.reduceMul, Nat.reduceLeDiff, Nat.reduceEqDiff, Nat.reduceLT, reduceCtorEq, cut, Int.reduceLE, Int.reduceLT, Int.reduceToNat, Int.reduceEq, Int.reduceNeg, Int.reduceMul, Int.reduceAdd, Int.reduceSub, bC.u, bN.u, bL.u, bD.u]
          subst hb'
          refine ((congrArg (fin _) (Run_lp Q _ _ _ _)).trans ?_)
          rw [hr2]
          exact congrArg (fin R87) (RunL_canon (canon_cong (Eq.trans (by kernel_rfl) (show [(0, MV.str s), (4, .own 0 (l.length + 1)), (5, .int .i64 ((i : Int) + 1)), (6, .int .i64 ((i : Int) + 1))] = V87 0 s (l ++ [(val 0 cur : Int)]) (i + 1 : Nat) (i + 1 : Nat) from by rw [e]; exact Vapp87 _ _ _ _ _)) (Eq.trans (by kernel_rfl) (Oapp87 l _)) (by kernel_rfl)))
        · have d1 : decide ((1099511627776 : Int) ≤ (val 0 cur : Int)) = true := by simp; omega
          rw [if_neg hv2]
          show _ = some bad87
          simp (maxSteps := 99999999) (disch := first | decide | omega | exact ok_of (by kernel_rfl)) only [W87, O87, R87, bad87, d1, hint, hcap, List.set, Nat.reduceAdd, Nat.reduceMul, Nat.reduceLeDiff, Nat.reduceEqDiff, Nat.reduceLT, reduceCtorEq, cut, Int.reduceLE, Int.reduceLT, Int.reduceToNat, Int.reduceEq, Int.reduceNeg, Int.reduceMul, Int.reduceAdd, Int.reduceSub, bC.u, bN.u, bL.u, bD.u]
      · obtain ⟨b', hb'⟩ : ∃ b', b' = m87b0 := ⟨_, rfl⟩
        rw [RunL_eq, show Item.lp m87k0 m87b0 = Item.lp m87k0 b' by rw [hb']]
        simp (maxSteps := 99999999) (disch := first | decide | omega | exact ok_of (by kernel_rfl)) only [m87b0, V87, O87, R87, hle, i0, eq46, ne46, eq48, h3, h4, h5, q9, Run_loop, hc, z0, z1, z2, z3, q8, Nat.reduceAdd, Nat.reduceMul, Nat.reduceLeDiff, Nat.reduceEqDiff, Nat.reduceLT, reduceCtorEq, Int.reduceLE, Int.reduceLT, Int.reduceToNat, Int.reduceEq, Int.reduceNeg, Int.reduceMul, Int.reduceAdd, Int.reduceSub, bC.u, bB.u, bN.u, bL.u, bD.u]
        refine (congrArg (fin _) (RunL_canon (canon_cong (V := W87 s l i cur (0 : Nat) (0 : Nat)) (O := O87 0 l) (nx := 2) (by kernel_rfl) (by kernel_rfl) (by kernel_rfl)))).trans ?_
        rw [hv _ cur 0 0 rfl (by omega) hcur hpow, hr]
        by_cases hv2 : val 0 cur < 1099511627776
        · have d1 : decide ((1099511627776 : Int) ≤ (val 0 cur : Int)) = false := by simp; omega
          rw [if_pos hv2]
          obtain ⟨rh2, hr2⟩ : ∃ z, z = fin R87 (RunL Q m87k0 m87b0 K87 ⟨V87 0 s (l ++ [(val 0 cur : Int)]) (i + 1 : Nat) (i + 1 : Nat), [], O87 0 (l ++ [(val 0 cur : Int)]), 2⟩) := ⟨_, rfl⟩
          show _ = fin R87 (RunL Q m87k0 m87b0 K87 ⟨V87 0 s (l ++ [(val 0 cur : Int)]) (i + 1 : Nat) (i + 1 : Nat), [], O87 0 (l ++ [(val 0 cur : Int)]), 2⟩)
          rw [← hr2]
          simp (maxSteps := 99999999) (disch := first | decide | omega | exact ok_of (by kernel_rfl)) only [W87, O87, R87, bad87, d1, hint, hcap, List.set, Nat.reduceAdd, Nat.reduceMul, Nat.reduceLeDiff, Nat.reduceEqDiff, Nat.reduceLT, reduceCtorEq, cut, Int.reduceLE, Int.reduceLT, Int.reduceToNat, Int.reduceEq, Int.reduceNeg, Int.reduceMul, Int.reduceAdd, Int.reduceSub, bC.u, bN.u, bL.u, bD.u]
          subst hb'
          refine ((congrArg (fin _) (Run_lp Q _ _ _ _)).trans ?_)
          rw [hr2]
          exact congrArg (fin R87) (RunL_canon (canon_cong (Eq.trans (by kernel_rfl) (show [(0, MV.str s), (4, .own 0 (l.length + 1)), (5, .int .i64 ((i : Int) + 1)), (6, .int .i64 ((i : Int) + 1))] = V87 0 s (l ++ [(val 0 cur : Int)]) (i + 1 : Nat) (i + 1 : Nat) from by rw [e]; exact Vapp87 _ _ _ _ _)) (Eq.trans (by kernel_rfl) (Oapp87 l _)) (by kernel_rfl)))
        · have d1 : decide ((1099511627776 : Int) ≤ (val 0 cur : Int)) = true := by simp; omega
          rw [if_neg hv2]
          show _ = some bad87
          simp (maxSteps := 99999999) (disch := first | decide | omega | exact ok_of (by kernel_rfl)) only [W87, O87, R87, bad87, d1, hint, hcap, List.set, Nat.reduceAdd, Nat.reduceMul, Nat.reduceLeDiff, Nat.reduceEqDiff, Nat.reduceLT, reduceCtorEq, cut, Int.reduceLE, Int.reduceLT, Int.reduceToNat, Int.reduceEq, Int.reduceNeg, Int.reduceMul, Int.reduceAdd, Int.reduceSub, bC.u, bN.u, bL.u, bD.u]
theorem c87_loop (s : List UInt8) (hs : s.length < 1000000) : ∀ (rest cur : List UInt8) (a : Nat) (l : List Int) (f i : Nat), (a = 0 ∨ a = 1) → s.drop f = cur ++ rest → i = f + cur.length → i + rest.length = s.length → l.length ≤ i → cur.all dig = true →
    fin R87 (RunL Q m87k0 m87b0 K87 ⟨V87 a s l f i, [], O87 a l, 2⟩) = some (match numsC cur rest with | none => bad87 | some l2 => good87 (l ++ l2))
  | [], cur, a, l, f, i, ha, hp, hi, hl, hli, hd => by
    have hl' : i = s.length := by simpa using hl
    rw [c87_dot a ha s hs l (by omega) cur [] f i hp hi (by omega) hd (.inl hl')]
    unfold numsC
    cases hn : numR cur with
    | none => rfl
    | some n =>
      have := c87_past 0 (.inl rfl) s hs (l ++ [n]) (s.length + 1 : Nat)
      rw [hl']
      exact this
  | c :: rest, cur, a, l, f, i, ha, hp, hi, hl, hli, hd => by
    simp only [List.length_cons] at hl
    have hg : s[i]? = some c := by
      have := congrArg (·[cur.length]?) hp
      simp only [List.getElem?_drop] at this
      rw [hi, this, List.getElem?_append_right (Nat.le_refl _), Nat.sub_self]
      rfl
    have hg' : s.getD i 0 = c := by rw [List.getD_eq_getElem?_getD, hg]; rfl
    unfold numsC
    by_cases hc : c = 46
    · subst hc
      rw [c87_dot a ha s hs l (by omega) cur _ f i hp hi (by omega) hd (.inr ⟨by omega, hg'⟩), if_pos rfl]
      cases hn : numR cur with
      | none => rfl
      | some n =>
        have hdr : s.drop (i + 1) = [] ++ rest := by
          have := congrArg (List.drop (cur.length + 1)) hp
          rw [List.drop_drop] at this
          rw [show i + 1 = f + (cur.length + 1) by omega, this]
          simp
        have ih := c87_loop s hs rest [] 0 (l ++ [n]) (i + 1) (i + 1) (.inl rfl) hdr rfl (by omega) (by simp; omega) rfl
        refine ih.trans ?_
        cases numsC [] rest with
        | none => rfl
        | some l2 => simp
    · rw [c87_char a ha s hs l f i c (by omega) hg' hc, if_neg hc]
      cases hk : dig c
      · rfl
      · rw [if_pos rfl, if_pos rfl]
        exact c87_loop s hs rest (cur ++ [c]) 0 l f (i + 1) (.inl rfl) (by rw [hp]; simp) (by simp; omega) (by omega) (by omega) (by simp [hd, hk])
def ans87 (s : List UInt8) : MV := match numsP (splits s) with | none => bad87 | some l => good87 l
theorem c87 (s : List UInt8) (hs : s.length < 1000000) : Call Q 87 [.str s] = some (ans87 s) := by
  have h := c87_loop s hs s [] 1 [] 0 0 (.inr rfl) rfl rfl (by omega) (by simp) rfl
  rw [numsC_nums] at h
  unfold ans87
  rw [Call_fn Q (m := m87) rfl rfl]
  refine Eq.trans ?_ h
  simp (maxSteps := 99999999) (disch := first | decide | omega | exact ok_of (by kernel_rfl)) only [m87, Run_loop, Nat.reduceAdd, Nat.reduceMul, Nat.reduceLeDiff, Nat.reduceEqDiff, Nat.reduceLT, reduceCtorEq, cut, Int.reduceLE, Int.reduceLT, Int.reduceToNat, Int.reduceEq, Int.reduceNeg, Int.reduceMul, Int.reduceAdd, Int.reduceSub, bC.u, bN.u, bD.u]
  exact congrArg (fin R87) (RunL_canon (canon_cong (by kernel_rfl) (by kernel_rfl) (by kernel_rfl)))
end Go.Mini
