/- Machines' names: the document's over Mini. -/
import Derived.Test.YtncpjcojnjbhlaaGreatDoorG0
namespace Go.Mini
open Go Go.Proofs.YtncpjcojnjbhlaaGreatDoor
set_option maxRecDepth 10000
set_option maxHeartbeats 40000000
set_option linter.unusedSimpArgs false


/-! ### The plain law -/
def okC (c : UInt8) : Bool := (decide (97 ≤ (smallB c).toNat) && decide ((smallB c).toNat ≤ 122)) || (decide (48 ≤ (smallB c).toNat) && decide ((smallB c).toNat ≤ 57)) || smallB c == 45
def labelE (l : List UInt8) : Bool := decide (1 ≤ l.length) && decide (l.length ≤ 63) && !(l.getD 0 0 == 45) && !(l.getD (l.length - 1) 0 == 45)
def labelB (l : List UInt8) : Bool := labelE l && l.all okC
def splits : List UInt8 → List (List UInt8)
  | [] => [[]]
  | c :: r => if c = 46 then [] :: splits r else match splits r with
    | p :: ps => (c :: p) :: ps
    | [] => [[c]]
def machB (s : List UInt8) : Bool := (splits s).all labelB
def machR : List UInt8 → List UInt8 → Bool
  | cur, [] => labelE cur
  | cur, c :: r => if c = 46 then labelE cur && machR [] r else okC c && machR (cur ++ [c]) r

theorem splits_ne : ∀ s, splits s ≠ []
  | [] => by simp [splits]
  | c :: r => by
    unfold splits
    split
    · simp
    · split <;> simp
theorem machR_eq : ∀ (r cur : List UInt8), cur.all okC = true → machR cur r = match splits r with | p :: ps => labelB (cur ++ p) && ps.all labelB | [] => false
  | [], cur, h => by simp [machR, splits, labelB, h]
  | c :: r, cur, h => by
    unfold machR splits
    by_cases hc : c = 46
    · rw [if_pos hc, if_pos hc]
      have ih := machR_eq r [] rfl
      rw [ih]
      have hn := splits_ne r
      cases hs : splits r with
      | nil => exact (hn hs).elim
      | cons p ps => simp [labelB, h]
    · rw [if_neg hc, if_neg hc]
      have hn := splits_ne r
      cases hk : okC c
      · cases hs : splits r with
        | nil => exact (hn hs).elim
        | cons p ps => simp [labelB, hk]
      · have ih := machR_eq r (cur ++ [c]) (by simp [h, hk])
        rw [ih]
        cases hs : splits r with
        | nil => exact (hn hs).elim
        | cons p ps => simp
theorem machR_mach (s : List UInt8) : machR [] s = machB s := by
  rw [machR_eq s [] rfl]
  unfold machB
  have hn := splits_ne s
  cases hs : splits s with
  | nil => exact (hn hs).elim
  | cons p ps => simp
theorem split_eq : ∀ s : List UInt8, Lib.splitK [46] 0 (Lib.count s [46]) s = splits s
  | [] => rfl
  | c :: r => by
    have ih := split_eq r
    unfold splits
    by_cases hc : c = 46
    · subst hc
      rw [if_pos rfl, Lib.count_cons_eq, Nat.add_comm, ← ih]
      rfl
    · rw [if_neg hc, Lib.count_cons_ne c 46 r hc]
      have hp : ([46] : List UInt8).isPrefixOf (c :: r) = false := by simp [List.isPrefixOf, Ne.symm hc]
      have hix : Lib.index (c :: r) [46] = if Lib.index r [46] == -1 then -1 else Lib.index r [46] + 1 := by rw [Lib.index, hp]; simp
      rw [← ih]
      cases hk : Lib.count r [46] with
      | zero => rfl
      | succ k =>
        have hm : Lib.index r [46] ≠ -1 := fun h => by rw [Lib.count_miss h] at hk; cases hk
        have hge := Lib.index_ge r [46]
        obtain ⟨j, hj⟩ : ∃ j : Nat, Lib.index r [46] = j := ⟨(Lib.index r [46]).toNat, by omega⟩
        have e1 : (Lib.index r [46] == -1) = false := by rw [beq_eq_false_iff_ne]; exact hm
        have e2 : Lib.index (c :: r) [46] = ((j + 1 : Nat) : Int) := by rw [hix, e1, hj]; simp
        have e3 : (Lib.index (c :: r) [46] == -1) = false := by rw [e2, beq_eq_false_iff_ne]; omega
        unfold Lib.splitK
        rw [e1, e3, e2, hj]
        simp

theorem getD_cur {s cur rest : List UInt8} {p j : Nat} (h : s.drop p = cur ++ rest) (hj : j < cur.length) : s.getD (p + j) 0 = cur.getD j 0 := by
  rw [List.getD_eq_getElem?_getD, List.getD_eq_getElem?_getD, ← List.getElem?_drop, h, List.getElem?_append_left hj]

/-! ### The walk -/
def R37 : List (Nat × Option (Bool × Nat) × PK) := [(2, none, .other)]
def V37 (s : List UInt8) (n i : Int) : List (Nat × MV) := [(0, .str s), (3, .int .i64 n), (4, .int .i64 i)]
def K37 : List Item := [.blk 0, .code (.seq (.rg [⟨some (.v 2), .mv (.c (.bool true)), none⟩]) .ret)]
theorem c37_past (s : List UInt8) (hs : s.length < 1000000) (n : Int) : fin R37 (RunL Q m37k0 m37b0 K37 ⟨V37 s n (s.length + 1 : Nat), [], [], 1⟩) = some (.bool true) := by
    have hle : decide (((s.length + 1 : Nat) : Int) ≤ (s.length : Int)) = false := by simp; omega
    obtain ⟨b', hb'⟩ : ∃ b', b' = m37b0 := ⟨_, rfl⟩
    rw [RunL_eq, show Item.lp m37k0 m37b0 = Item.lp m37k0 b' by rw [hb']]
    simp (maxSteps := 99999999) (disch := first | decide | omega | exact ok_of (by kernel_rfl)) only [m37b0, V37, R37, K37, hle, Nat.reduceAdd, Nat.reduceMul, Nat.reduceLeDiff, Nat.reduceEqDiff, Nat.reduceLT, reduceCtorEq, cut, Int.reduceLE, Int.reduceLT, Int.reduceToNat, Int.reduceEq, Int.reduceNeg, Int.reduceMul, Int.reduceAdd, Int.reduceSub, bC.u, bD.u]

theorem eq45 (x : UInt8) : ((x.toNat : Int) == 45) = (x == 45) := eq8 x 45
theorem eq46 (x : UInt8) : ((x.toNat : Int) == 46) = (x == 46) := eq8 x 46
/-- Where a label ends: at a dot, or at the end. -/
theorem c37_label (s : List UInt8) (hs : s.length < 1000000) (cur rest : List UInt8) (p i : Nat) (hp : s.drop p = cur ++ rest) (hi : i = p + cur.length) (hil : i ≤ s.length) (hend : i = s.length ∨ i < s.length ∧ s.getD i 0 = 46) :
    fin R37 (RunL Q m37k0 m37b0 K37 ⟨V37 s (cur.length : Int) i, [], [], 1⟩) = if labelE cur = true then fin R37 (RunL Q m37k0 m37b0 K37 ⟨V37 s 0 (i + 1 : Nat), [], [], 1⟩) else some (.bool false) := by
    have hle : decide ((i : Int) ≤ (s.length : Int)) = true := by simp; omega
    have i0 : (0 : Int) ≤ (i : Int) := by omega
    have e : ((i : Int) + 1) = ((i + 1 : Nat) : Int) := by omega
    have en : (0 : Int) = ((0 : Nat) : Int) := rfl
    have dot : ((i : Int) == (s.length : Int)) = true ∨ ((i : Int) == (s.length : Int)) = false ∧ (i : Int) < (s.length : Int) ∧ (s.getD i 0 == 46) = true := by
      rcases hend with h | ⟨h, h2⟩
      · exact .inl (by rw [h]; exact beq_self_eq_true _)
      · exact .inr ⟨by rw [beq_eq_false_iff_ne]; omega, by omega, by rw [h2]; rfl⟩
    obtain ⟨rhs, hr⟩ : ∃ z, z = fin R37 (RunL Q m37k0 m37b0 K37 ⟨V37 s 0 (i + 1 : Nat), [], [], 1⟩) := ⟨_, rfl⟩
    rw [← hr]
    unfold labelE
    by_cases h1 : 1 ≤ cur.length
    · have q1 : decide ((cur.length : Int) < 1) = false := by simp; omega
      have d1 : decide (1 ≤ cur.length) = true := by simp; omega
      by_cases h2 : cur.length ≤ 63
      · have q2 : decide (63 < (cur.length : Int)) = false := by simp; omega
        have d2 : decide (cur.length ≤ 63) = true := by simp; omega
        have j1 : (i : Int) - 1 = ((p + (cur.length - 1) : Nat) : Int) := by omega
        have j2 : (i : Int) - (cur.length : Int) = (p : Int) := by omega
        have b1 : (0 : Int) ≤ ((p + (cur.length - 1) : Nat) : Int) := by omega
        have b2 : ((p + (cur.length - 1) : Nat) : Int) < (s.length : Int) := by omega
        have b3 : (0 : Int) ≤ (p : Int) := by omega
        have b4 : (p : Int) < (s.length : Int) := by omega
        have g1 := getD_cur hp (show cur.length - 1 < cur.length by omega)
        have g2 : s.getD p 0 = cur.getD 0 0 := getD_cur hp (show 0 < cur.length by omega)
        have w1 : -9223372036854775808 ≤ (i : Int) - (cur.length : Int) := by omega
        have w2 : (i : Int) - (cur.length : Int) ≤ 9223372036854775807 := by omega
        rw [d1, d2]
        cases x1 : (cur.getD (cur.length - 1) 0 == 45)
        · cases x2 : (cur.getD 0 0 == 45)
          · rw [if_pos (by decide)]
            obtain ⟨b', hb'⟩ : ∃ b', b' = m37b0 := ⟨_, rfl⟩
            rw [RunL_eq, show Item.lp m37k0 m37b0 = Item.lp m37k0 b' by rw [hb']]
            rcases dot with h3 | ⟨h3, h4, h5⟩
            · simp (maxSteps := 99999999) (disch := first | decide | omega | exact ok_of (by kernel_rfl)) only [m37b0, V37, R37, K37, hle, i0, eq45, eq46, h3, q1, q2, j1, j2, b1, b2, b3, b4, g1, g2, w1, w2, x1, x2, Nat.reduceAdd, Nat.reduceMul, Nat.reduceLeDiff, Nat.reduceEqDiff, Nat.reduceLT, reduceCtorEq, cut, Int.reduceLE, Int.reduceLT, Int.reduceToNat, Int.reduceEq, Int.reduceNeg, Int.reduceMul, Int.reduceAdd, Int.reduceSub, bC.u, bN.u, bL.u, bD.u]
              subst hb'
              refine ((congrArg (fin _) (Run_lp Q _ _ _ _)).trans ?_)
              rw [hr]
              exact congrArg (fin R37) (RunL_canon (canon_cong (Eq.trans (by kernel_rfl) (show [(0, MV.str s), (3, .int .i64 0), (4, .int .i64 ((i : Int) + 1))] = V37 s 0 (i + 1 : Nat) from by rw [e]; rfl)) (by kernel_rfl) (by kernel_rfl)))

            · simp (maxSteps := 99999999) (disch := first | decide | omega | exact ok_of (by kernel_rfl)) only [m37b0, V37, R37, K37, hle, i0, eq45, eq46, h3, h4, h5, q1, q2, j1, j2, b1, b2, b3, b4, g1, g2, w1, w2, x1, x2, Nat.reduceAdd, Nat.reduceMul, Nat.reduceLeDiff, Nat.reduceEqDiff, Nat.reduceLT, reduceCtorEq, cut, Int.reduceLE, Int.reduceLT, Int.reduceToNat, Int.reduceEq, Int.reduceNeg, Int.reduceMul, Int.reduceAdd, Int.reduceSub, bC.u, bN.u, bL.u, bD.u]
              subst hb'
              refine ((congrArg (fin _) (Run_lp Q _ _ _ _)).trans ?_)
              rw [hr]
              exact congrArg (fin R37) (RunL_canon (canon_cong (Eq.trans (by kernel_rfl) (show [(0, MV.str s), (3, .int .i64 0), (4, .int .i64 ((i : Int) + 1))] = V37 s 0 (i + 1 : Nat) from by rw [e]; rfl)) (by kernel_rfl) (by kernel_rfl)))

          · rw [if_neg (by decide)]
            obtain ⟨b', hb'⟩ : ∃ b', b' = m37b0 := ⟨_, rfl⟩
            rw [RunL_eq, show Item.lp m37k0 m37b0 = Item.lp m37k0 b' by rw [hb']]
            rcases dot with h3 | ⟨h3, h4, h5⟩
            · simp (maxSteps := 99999999) (disch := first | decide | omega | exact ok_of (by kernel_rfl)) only [m37b0, V37, R37, K37, hle, i0, eq45, eq46, h3, q1, q2, j1, j2, b1, b2, b3, b4, g1, g2, w1, w2, x1, x2, Nat.reduceAdd, Nat.reduceMul, Nat.reduceLeDiff, Nat.reduceEqDiff, Nat.reduceLT, reduceCtorEq, cut, Int.reduceLE, Int.reduceLT, Int.reduceToNat, Int.reduceEq, Int.reduceNeg, Int.reduceMul, Int.reduceAdd, Int.reduceSub, bC.u, bN.u, bL.u, bD.u]
            · simp (maxSteps := 99999999) (disch := first | decide | omega | exact ok_of (by kernel_rfl)) only [m37b0, V37, R37, K37, hle, i0, eq45, eq46, h3, h4, h5, q1, q2, j1, j2, b1, b2, b3, b4, g1, g2, w1, w2, x1, x2, Nat.reduceAdd, Nat.reduceMul, Nat.reduceLeDiff, Nat.reduceEqDiff, Nat.reduceLT, reduceCtorEq, cut, Int.reduceLE, Int.reduceLT, Int.reduceToNat, Int.reduceEq, Int.reduceNeg, Int.reduceMul, Int.reduceAdd, Int.reduceSub, bC.u, bN.u, bL.u, bD.u]
        · rw [Bool.not_true, Bool.and_false, if_neg (by decide)]
          obtain ⟨b', hb'⟩ : ∃ b', b' = m37b0 := ⟨_, rfl⟩
          rw [RunL_eq, show Item.lp m37k0 m37b0 = Item.lp m37k0 b' by rw [hb']]
          rcases dot with h3 | ⟨h3, h4, h5⟩
          · simp (maxSteps := 99999999) (disch := first | decide | omega | exact ok_of (by kernel_rfl)) only [m37b0, V37, R37, K37, hle, i0, eq45, eq46, h3, q1, q2, j1, j2, b1, b2, b3, b4, g1, g2, w1, w2, x1, Nat.reduceAdd, Nat.reduceMul, Nat.reduceLeDiff, Nat.reduceEqDiff, Nat.reduceLT, reduceCtorEq, cut, Int.reduceLE, Int.reduceLT, Int.reduceToNat, Int.reduceEq, Int.reduceNeg, Int.reduceMul, Int.reduceAdd, Int.reduceSub, bC.u, bN.u, bL.u, bD.u]
          · simp (maxSteps := 99999999) (disch := first | decide | omega | exact ok_of (by kernel_rfl)) only [m37b0, V37, R37, K37, hle, i0, eq45, eq46, h3, h4, h5, q1, q2, j1, j2, b1, b2, b3, b4, g1, g2, w1, w2, x1, Nat.reduceAdd, Nat.reduceMul, Nat.reduceLeDiff, Nat.reduceEqDiff, Nat.reduceLT, reduceCtorEq, cut, Int.reduceLE, Int.reduceLT, Int.reduceToNat, Int.reduceEq, Int.reduceNeg, Int.reduceMul, Int.reduceAdd, Int.reduceSub, bC.u, bN.u, bL.u, bD.u]
      · have q2 : decide (63 < (cur.length : Int)) = true := by simp; omega
        have d2 : decide (cur.length ≤ 63) = false := by simp; omega
        rw [d2, Bool.and_false, Bool.false_and, Bool.false_and, if_neg (by decide)]
        obtain ⟨b', hb'⟩ : ∃ b', b' = m37b0 := ⟨_, rfl⟩
        rw [RunL_eq, show Item.lp m37k0 m37b0 = Item.lp m37k0 b' by rw [hb']]
        rcases dot with h3 | ⟨h3, h4, h5⟩
        · simp (maxSteps := 99999999) (disch := first | decide | omega | exact ok_of (by kernel_rfl)) only [m37b0, V37, R37, K37, hle, i0, eq45, eq46, h3, q1, q2, Nat.reduceAdd, Nat.reduceMul, Nat.reduceLeDiff, Nat.reduceEqDiff, Nat.reduceLT, reduceCtorEq, cut, Int.reduceLE, Int.reduceLT, Int.reduceToNat, Int.reduceEq, Int.reduceNeg, Int.reduceMul, Int.reduceAdd, Int.reduceSub, bC.u, bN.u, bL.u, bD.u]
        · simp (maxSteps := 99999999) (disch := first | decide | omega | exact ok_of (by kernel_rfl)) only [m37b0, V37, R37, K37, hle, i0, eq45, eq46, h3, h4, h5, q1, q2, Nat.reduceAdd, Nat.reduceMul, Nat.reduceLeDiff, Nat.reduceEqDiff, Nat.reduceLT, reduceCtorEq, cut, Int.reduceLE, Int.reduceLT, Int.reduceToNat, Int.reduceEq, Int.reduceNeg, Int.reduceMul, Int.reduceAdd, Int.reduceSub, bC.u, bN.u, bL.u, bD.u]
    · have q1 : decide ((cur.length : Int) < 1) = true := decide_eq_true (by omega)
      have d1 : decide (1 ≤ cur.length) = false := decide_eq_false (by omega)
      rw [d1, Bool.false_and, Bool.false_and, Bool.false_and, if_neg (by decide)]
      obtain ⟨b', hb'⟩ : ∃ b', b' = m37b0 := ⟨_, rfl⟩
      rw [RunL_eq, show Item.lp m37k0 m37b0 = Item.lp m37k0 b' by rw [hb']]
      rcases dot with h3 | ⟨h3, h4, h5⟩
      · simp (maxSteps := 99999999) (disch := first | decide | omega | exact ok_of (by kernel_rfl)) only [m37b0, V37, R37, K37, hle, i0, eq45, eq46, h3, q1, Nat.reduceAdd, Nat.reduceMul, Nat.reduceLeDiff, Nat.reduceEqDiff, Nat.reduceLT, reduceCtorEq, cut, Int.reduceLE, Int.reduceLT, Int.reduceToNat, Int.reduceEq, Int.reduceNeg, Int.reduceMul, Int.reduceAdd, Int.reduceSub, bC.u, bN.u, bL.u, bD.u]
      · simp (maxSteps := 99999999) (disch := first | decide | omega | exact ok_of (by kernel_rfl)) only [m37b0, V37, R37, K37, hle, i0, eq45, eq46, h3, h4, h5, q1, Nat.reduceAdd, Nat.reduceMul, Nat.reduceLeDiff, Nat.reduceEqDiff, Nat.reduceLT, reduceCtorEq, cut, Int.reduceLE, Int.reduceLT, Int.reduceToNat, Int.reduceEq, Int.reduceNeg, Int.reduceMul, Int.reduceAdd, Int.reduceSub, bC.u, bN.u, bL.u, bD.u]

theorem c37_char (s : List UInt8) (hs : s.length < 1000000) (n i : Nat) (hn : n ≤ i) (c : UInt8) (hil : i < s.length) (hg : s.getD i 0 = c) (hc : c ≠ 46) :
    fin R37 (RunL Q m37k0 m37b0 K37 ⟨V37 s (n : Int) i, [], [], 1⟩) = if okC c = true then fin R37 (RunL Q m37k0 m37b0 K37 ⟨V37 s (n + 1 : Nat) (i + 1 : Nat), [], [], 1⟩) else some (.bool false) := by
    have hle : decide ((i : Int) ≤ (s.length : Int)) = true := by simp; omega
    have i0 : (0 : Int) ≤ (i : Int) := by omega
    have i1 : (i : Int) < (s.length : Int) := by omega
    have e : ((i : Int) + 1) = ((i + 1 : Nat) : Int) := by omega
    have e2 : ((n : Int) + 1) = ((n + 1 : Nat) : Int) := by omega
    have h3 : ((i : Int) == (s.length : Int)) = false := by rw [beq_eq_false_iff_ne]; omega
    have h5 : (c == 46) = false := by rw [beq_eq_false_iff_ne]; exact hc
    have hsm := c76 c
    obtain ⟨rhs, hr⟩ : ∃ z, z = fin R37 (RunL Q m37k0 m37b0 K37 ⟨V37 s (n + 1 : Nat) (i + 1 : Nat), [], [], 1⟩) := ⟨_, rfl⟩
    rw [← hr]
    obtain ⟨b', hb'⟩ : ∃ b', b' = m37b0 := ⟨_, rfl⟩
    rw [RunL_eq, show Item.lp m37k0 m37b0 = Item.lp m37k0 b' by rw [hb']]
    have n45 : (((smallB c).toNat : Int) != 45) = !(smallB c == 45) := by rw [bne, eq45]
    have k1 : decide (((smallB c).toNat : Int) < 97) = !decide (97 ≤ (smallB c).toNat) := by rw [Bool.eq_iff_iff]; simp; omega
    have k2 : decide (122 < ((smallB c).toNat : Int)) = !decide ((smallB c).toNat ≤ 122) := by rw [Bool.eq_iff_iff]; simp; omega
    have k3 : decide (((smallB c).toNat : Int) < 48) = !decide (48 ≤ (smallB c).toNat) := by rw [Bool.eq_iff_iff]; simp; omega
    have k4 : decide (57 < ((smallB c).toNat : Int)) = !decide ((smallB c).toNat ≤ 57) := by rw [Bool.eq_iff_iff]; simp; omega
    unfold okC
    cases y1 : decide (97 ≤ (smallB c).toNat) <;> cases y2 : decide ((smallB c).toNat ≤ 122) <;> cases y3 : decide (48 ≤ (smallB c).toNat) <;> cases y4 : decide ((smallB c).toNat ≤ 57) <;> cases y5 : (smallB c == 45)
    all_goals first
      | (exfalso; simp at y1 y2 y3 y4 y5; omega)
      | (rw [if_neg (by decide)]
         simp (maxSteps := 99999999) (disch := first | decide | omega | exact ok_of (by kernel_rfl)) only [m37b0, V37, R37, K37, hle, i0, eq45, eq46, i1, h3, h5, hg, hsm, n45, k1, k2, k3, k4, y1, y2, y3, y4, y5, Nat.reduceAdd, Nat.reduceMul, Nat.reduceLeDiff, Nat.reduceEqDiff, Nat.reduceLT, reduceCtorEq, cut, Int.reduceLE, Int.reduceLT, Int.reduceToNat, Int.reduceEq, Int.reduceNeg, Int.reduceMul, Int.reduceAdd, Int.reduceSub, bC.u, bB.u, bN.u, bL.u, bD.u]
         done)
      | (rw [if_pos (by decide)]
         simp (maxSteps := 99999999) (disch := first | decide | omega | exact ok_of (by kernel_rfl)) only [m37b0, V37, R37, K37, hle, i0, eq45, eq46, i1, h3, h5, hg, hsm, n45, k1, k2, k3, k4, y1, y2, y3, y4, y5, Nat.reduceAdd, Nat.reduceMul, Nat.reduceLeDiff, Nat.reduceEqDiff, Nat.reduceLT, reduceCtorEq, cut, Int.reduceLE, Int.reduceLT, Int.reduceToNat, Int.reduceEq, Int.reduceNeg, Int.reduceMul, Int.reduceAdd, Int.reduceSub, bC.u, bB.u, bN.u, bL.u, bD.u]
         subst hb'
         refine ((congrArg (fin _) (Run_lp Q _ _ _ _)).trans ?_)
         rw [hr]
         exact congrArg (fin R37) (RunL_canon (canon_cong (Eq.trans (by kernel_rfl) (show [(0, MV.str s), (3, .int .i64 ((n : Int) + 1)), (4, .int .i64 ((i : Int) + 1))] = V37 s (n + 1 : Nat) (i + 1 : Nat) from by rw [e, e2]; rfl)) (by kernel_rfl) (by kernel_rfl))))

theorem c37_loop (s : List UInt8) (hs : s.length < 1000000) : ∀ (rest cur : List UInt8) (p i : Nat), s.drop p = cur ++ rest → i = p + cur.length → i + rest.length = s.length →
    fin R37 (RunL Q m37k0 m37b0 K37 ⟨V37 s (cur.length : Int) i, [], [], 1⟩) = some (.bool (machR cur rest))
  | [], cur, p, i, hp, hi, hl => by
    have hl' : i = s.length := by simpa using hl
    rw [c37_label s hs cur [] p i hp hi (by omega) (.inl hl')]
    have := c37_past s hs 0
    unfold machR
    cases hc : labelE cur
    · rfl
    · rw [if_pos rfl, hl']
      exact this
  | c :: rest, cur, p, i, hp, hi, hl => by
    simp only [List.length_cons] at hl
    have hg : s[i]? = some c := by
      have := congrArg (·[cur.length]?) hp
      simp only [List.getElem?_drop] at this
      rw [hi, this, List.getElem?_append_right (Nat.le_refl _), Nat.sub_self]
      rfl
    have hg' : s.getD i 0 = c := by rw [List.getD_eq_getElem?_getD, hg]; rfl
    unfold machR
    by_cases hc : c = 46
    · subst hc
      rw [c37_label s hs cur _ p i hp hi (by omega) (.inr ⟨by omega, hg'⟩), if_pos rfl]
      cases hc : labelE cur
      · rfl
      · rw [if_pos rfl, Bool.true_and]
        have hd : s.drop (i + 1) = [] ++ rest := by
          have := congrArg (List.drop (cur.length + 1)) hp
          rw [List.drop_drop] at this
          rw [show i + 1 = p + (cur.length + 1) by omega, this]
          simp
        exact c37_loop s hs rest [] (i + 1) (i + 1) hd rfl (by omega)
    · rw [c37_char s hs cur.length i (by omega) c (by omega) hg' hc, if_neg hc]
      cases hk : okC c
      · rfl
      · rw [if_pos rfl, Bool.true_and]
        have ih := c37_loop s hs rest (cur ++ [c]) p (i + 1) (by rw [hp]; simp) (by simp; omega) (by omega)
        rw [List.length_append] at ih
        exact ih
theorem c37 (s : List UInt8) (hs : s.length < 1000000) : Call Q 37 [.str s] = some (.bool (machB s)) := by
  rw [Call_fn Q (m := m37) rfl rfl, ← machR_mach, ← c37_loop s hs s [] 0 0 rfl rfl (by omega)]
  simp (maxSteps := 99999999) (disch := first | decide | omega | exact ok_of (by kernel_rfl)) only [m37, Run_loop, Nat.reduceAdd, Nat.reduceMul, Nat.reduceLeDiff, Nat.reduceEqDiff, Nat.reduceLT, reduceCtorEq, cut, Int.reduceLE, Int.reduceLT, Int.reduceToNat, Int.reduceEq, Int.reduceNeg, Int.reduceMul, Int.reduceAdd, Int.reduceSub, bC.u, bN.u, bL.u, bD.u]
  exact congrArg (fin R37) (RunL_canon (canon_cong (by kernel_rfl) (by kernel_rfl) (by kernel_rfl)))
end Go.Mini
