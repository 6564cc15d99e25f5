/- Machines' names, under limits: the program's over Mini. -/
import Derived.Test.YtncpjcojnjbhlaaGreatDoorG16
namespace Go.Mini
open Go Go.Proofs.YtncpjcojnjbhlaaGreatDoor
set_option maxRecDepth 10000
set_option maxHeartbeats 40000000
set_option linter.unusedSimpArgs false


def texts (l : List (List UInt8)) : List MV := l.map .str
theorem texts_length (l : List (List UInt8)) : (texts l).length = l.length := by simp [texts]
theorem texts_get {l : List (List UInt8)} {i : Nat} {s : List UInt8} (h : l[i]? = some s) : (texts l)[i]? = some (.str s) := by simp [texts, h]

/-! ### The plain law -/
theorem splits_all (q : UInt8 → Bool) : ∀ s : List UInt8, s.any q = false → ∀ p ∈ splits s, p.any q = false
  | [], _, p, hp => by simp [splits] at hp; subst hp; rfl
  | c :: r, h, p, hp => by
    rw [List.any_cons, Bool.or_eq_false_iff] at h
    have ih := splits_all q r h.2
    unfold splits at hp
    split at hp
    · rcases List.mem_cons.1 hp with rfl | hp
      · rfl
      · exact ih p hp
    · have hn := splits_ne r
      cases hs : splits r with
      | nil => exact (hn hs).elim
      | cons a ps =>
        rw [hs] at hp ih
        simp only at hp
        rcases List.mem_cons.1 hp with rfl | hp
        · rw [List.any_cons, h.1, Bool.false_or]; exact ih a (by simp)
        · exact ih p (by simp [hp])
theorem index_at (x : UInt8) : ∀ (s : List UInt8) (i : Nat), atB s x i = if Lib.index s [x] = -1 then -1 else Lib.index s [x] + i
  | [], i => rfl
  | c :: r, i => by
    have ih := index_at x r (i + 1)
    unfold atB
    by_cases h : c = x
    · subst h
      have : Lib.index (c :: r) [c] = 0 := by rw [Lib.index]; simp [List.isPrefixOf]
      rw [if_pos rfl, this, if_neg (by decide)]
      omega
    · have hp : ([x] : List UInt8).isPrefixOf (c :: r) = false := by simp [List.isPrefixOf, Ne.symm h]
      have hix : Lib.index (c :: r) [x] = if Lib.index r [x] == -1 then -1 else Lib.index r [x] + 1 := by rw [Lib.index, hp]; simp
      have hge := Lib.index_ge r [x]
      rw [if_neg h, ih, hix]
      by_cases hm : Lib.index r [x] = -1
      · rw [if_pos hm, if_pos (beq_iff_eq.2 hm), if_pos rfl]
      · rw [if_neg hm, if_neg (fun e => hm (beq_iff_eq.1 e)), if_neg (by omega)]
        omega
theorem cut_at (s : List UInt8) (x : UInt8) : Lib.cut s [x] = match atB s x 0 with
    | .ofNat k => (s.take k, s.drop (k + 1), true)
    | _ => (s, [], false) := by
  have h := index_at x s 0
  have hge := Lib.index_ge s [x]
  unfold Lib.cut
  by_cases hm : Lib.index s [x] = -1
  · rw [h, if_pos hm, if_neg (by omega)]
    rfl
  · obtain ⟨j, hj⟩ : ∃ j : Nat, Lib.index s [x] = j := ⟨(Lib.index s [x]).toNat, by omega⟩
    rw [h, if_neg hm, if_pos (by omega), hj]
    show _ = (s.take (j + 0), s.drop (j + 0 + 1), true)
    simp
theorem indexAny_till : ∀ (r : List UInt8), Lib.indexAny r [47, 58, 63, 35] = if till r = r.length then -1 else (till r : Int)
  | [] => rfl
  | c :: r => by
    have ih := indexAny_till r
    have hle := till_le r
    have hc : ([47, 58, 63, 35] : List UInt8).contains c = stopB c := by
      unfold stopB
      simp only [List.contains_cons, List.contains_nil, Bool.or_false, Bool.or_assoc]
    unfold Lib.indexAny till
    rw [hc]
    cases hs : stopB c
    · simp only [Bool.false_eq_true, if_false]
      by_cases hm : till r = r.length
      · have e1 : Lib.indexAny r [47, 58, 63, 35] = -1 := by rw [ih, if_pos hm]
        rw [e1, if_pos (by rfl), if_pos (by simp [hm])]
      · have e1 : Lib.indexAny r [47, 58, 63, 35] = (till r : Int) := by rw [ih, if_neg hm]
        rw [e1, if_neg (by rw [beq_iff_eq]; omega), if_neg (by simp; omega)]
        omega
    · simp only [if_true]
      rw [if_neg (by simp)]
      rfl

/-! ### Machines' names -/
def R28 : List (Nat × Option (Bool × Nat) × PK) := [(2, none, .other)]
def V28 (L : List (List UInt8)) (i : Int) : List (Nat × MV) := [(7, .sl 1 (texts L)), (8, .int .i64 (L.length : Int)), (9, .int .i64 i)]
def K28 : List Item := [.blk 0, .code (.seq (.rg [⟨some (.v 2), .mv (.c (.bool true)), none⟩]) .ret)]
theorem any_bad (p : List UInt8) : p.any badC = !p.all okC := by
  unfold badC
  induction p with
  | nil => rfl
  | cons c r ih => rw [List.any_cons, List.all_cons, ih]; cases okC c <;> rfl
theorem c28_loop (L : List (List UInt8)) (hL : L.length < 1000000) (hp : ∀ p ∈ L, p.length < 1000000 ∧ p.any high = false) : ∀ (r : List (List UInt8)) (i : Nat), L.drop i = r → i + r.length = L.length →
    fin R28 (RunL Q m28k0 m28b0 K28 ⟨V28 L i, [], [], 1⟩) = some (.bool (r.all labelB))
  | [], i, hd, hi => by
    have hi' : i = L.length := by simpa using hi
    subst hi'
    have hlt : decide ((L.length : Int) < (L.length : Int)) = false := by simp
    obtain ⟨b', hb'⟩ : ∃ b', b' = m28b0 := ⟨_, rfl⟩
    rw [RunL_eq, show Item.lp m28k0 m28b0 = Item.lp m28k0 b' by rw [hb']]
    simp (maxSteps := 99999999) (disch := first | decide | omega | exact ok_of (by kernel_rfl)) only [m28b0, V28, R28, K28, hlt, Nat.reduceAdd, Nat.reduceMul, Nat.reduceLeDiff, Nat.reduceEqDiff, Nat.reduceLT, reduceCtorEq, cut, Int.reduceLE, Int.reduceLT, Int.reduceToNat, Int.reduceEq, Int.reduceNeg, Int.reduceMul, Int.reduceAdd, Int.reduceSub, bC.u, bN.u, bD.u]
  | l :: r, i, hd, hi => by
    simp only [List.length_cons] at hi
    have hlt : decide ((i : Int) < (L.length : Int)) = true := by simp; omega
    have i0 : (0 : Int) ≤ (i : Int) := by omega
    have i1 : (i : Int) < (L.length : Int) := by omega
    have hg : L[i]? = some l := by
      have := congrArg (·[0]?) hd
      simpa [List.getElem?_drop] using this
    have hd' : L.drop (i + 1) = r := by
      have := congrArg (List.drop 1) hd
      simpa [List.drop_drop] using this
    have lL := texts_length L
    have gL := texts_get hg
    have hpl := hp l (List.mem_of_getElem? hg)
    have h65 := c65 66 badC l hpl.1 (fits_bad l hpl.2)
    rw [any_bad] at h65
    have e : ((i : Int) + 1) = ((i + 1 : Nat) : Int) := by omega
    have ih := c28_loop L hL hp r (i + 1) hd' (by omega)
    rw [List.all_cons]
    generalize r.all labelB = rest at ih ⊢
    unfold labelB labelE
    by_cases h1 : 1 ≤ l.length
    · have q1 : decide ((l.length : Int) < 1) = false := by simp; omega
      have z0 : (0 : Int) < (l.length : Int) := by omega
      have j1 : (l.length : Int) - 1 = ((l.length - 1 : Nat) : Int) := by omega
      have b1 : (0 : Int) ≤ ((l.length - 1 : Nat) : Int) := by omega
      have b2 : ((l.length - 1 : Nat) : Int) < (l.length : Int) := by omega
      rw [decide_eq_true h1]
      by_cases h2 : l.length ≤ 63
      · have q2 : decide (63 < (l.length : Int)) = false := by simp; omega
        rw [decide_eq_true h2]
        cases x1 : (l.getD 0 0 == 45)
        · cases x2 : (l.getD (l.length - 1) 0 == 45)
          · cases x3 : l.all okC
            · rw [x3] at h65
              simp only [Bool.and_false, Bool.false_and]
              obtain ⟨b', hb'⟩ : ∃ b', b' = m28b0 := ⟨_, rfl⟩
              rw [RunL_eq, show Item.lp m28k0 m28b0 = Item.lp m28k0 b' by rw [hb']]
              simp (maxSteps := 99999999) (disch := first | decide | omega | exact ok_of (by kernel_rfl)) only [m28b0, V28, R28, K28, hlt, i0, i1, lL, gL, eq45, q1, q2, z0, j1, b1, b2, x1, x2, h65, Nat.reduceAdd, Nat.reduceMul, Nat.reduceLeDiff, Nat.reduceEqDiff, Nat.reduceLT, reduceCtorEq, cut, Int.reduceLE, Int.reduceLT, Int.reduceToNat, Int.reduceEq, Int.reduceNeg, Int.reduceMul, Int.reduceAdd, Int.reduceSub, bC.u, bB.u, bN.u, bL.u, bD.u]
            · rw [x3] at h65
              simp only [Bool.not_false, Bool.and_true, Bool.true_and]
              rw [← ih]
              obtain ⟨rhs, hr⟩ : ∃ z, z = fin R28 (RunL Q m28k0 m28b0 K28 ⟨V28 L (i + 1 : Nat), [], [], 1⟩) := ⟨_, rfl⟩
              rw [← hr]
              obtain ⟨b', hb'⟩ : ∃ b', b' = m28b0 := ⟨_, rfl⟩
              rw [RunL_eq, show Item.lp m28k0 m28b0 = Item.lp m28k0 b' by rw [hb']]
              simp (maxSteps := 99999999) (disch := first | decide | omega | exact ok_of (by kernel_rfl)) only [m28b0, V28, R28, K28, hlt, i0, i1, lL, gL, eq45, q1, q2, z0, j1, b1, b2, x1, x2, h65, Nat.reduceAdd, Nat.reduceMul, Nat.reduceLeDiff, Nat.reduceEqDiff, Nat.reduceLT, reduceCtorEq, cut, Int.reduceLE, Int.reduceLT, Int.reduceToNat, Int.reduceEq, Int.reduceNeg, Int.reduceMul, Int.reduceAdd, Int.reduceSub, bC.u, bB.u, bN.u, bL.u, bD.u]
              subst hb'
              refine ((congrArg (fin _) (Run_lp Q _ _ _ _)).trans ?_)
              rw [hr]
              exact congrArg (fin R28) (RunL_canon (canon_cong (Eq.trans (by kernel_rfl) (show [(7, MV.sl 1 (texts L)), (8, .int .i64 (L.length : Int)), (9, .int .i64 ((i : Int) + 1))] = V28 L (i + 1 : Nat) from by rw [e]; rfl)) (by kernel_rfl) (by kernel_rfl)))
          · simp only [Bool.not_true, Bool.and_false, Bool.false_and]
            obtain ⟨b', hb'⟩ : ∃ b', b' = m28b0 := ⟨_, rfl⟩
            rw [RunL_eq, show Item.lp m28k0 m28b0 = Item.lp m28k0 b' by rw [hb']]
            simp (maxSteps := 99999999) (disch := first | decide | omega | exact ok_of (by kernel_rfl)) only [m28b0, V28, R28, K28, hlt, i0, i1, lL, gL, eq45, q1, q2, z0, j1, b1, b2, x1, x2, Nat.reduceAdd, Nat.reduceMul, Nat.reduceLeDiff, Nat.reduceEqDiff, Nat.reduceLT, reduceCtorEq, cut, Int.reduceLE, Int.reduceLT, Int.reduceToNat, Int.reduceEq, Int.reduceNeg, Int.reduceMul, Int.reduceAdd, Int.reduceSub, bC.u, bB.u, bN.u, bL.u, bD.u]
        · simp only [Bool.not_true, Bool.and_false, Bool.false_and]
          obtain ⟨b', hb'⟩ : ∃ b', b' = m28b0 := ⟨_, rfl⟩
          rw [RunL_eq, show Item.lp m28k0 m28b0 = Item.lp m28k0 b' by rw [hb']]
          simp (maxSteps := 99999999) (disch := first | decide | omega | exact ok_of (by kernel_rfl)) only [m28b0, V28, R28, K28, hlt, i0, i1, lL, gL, eq45, q1, q2, z0, x1, Nat.reduceAdd, Nat.reduceMul, Nat.reduceLeDiff, Nat.reduceEqDiff, Nat.reduceLT, reduceCtorEq, cut, Int.reduceLE, Int.reduceLT, Int.reduceToNat, Int.reduceEq, Int.reduceNeg, Int.reduceMul, Int.reduceAdd, Int.reduceSub, bC.u, bB.u, bN.u, bL.u, bD.u]
      · have q2 : decide (63 < (l.length : Int)) = true := by simp; omega
        rw [decide_eq_false h2]
        simp only [Bool.and_false, Bool.false_and]
        obtain ⟨b', hb'⟩ : ∃ b', b' = m28b0 := ⟨_, rfl⟩
        rw [RunL_eq, show Item.lp m28k0 m28b0 = Item.lp m28k0 b' by rw [hb']]
        simp (maxSteps := 99999999) (disch := first | decide | omega | exact ok_of (by kernel_rfl)) only [m28b0, V28, R28, K28, hlt, i0, i1, lL, gL, eq45, q1, q2, Nat.reduceAdd, Nat.reduceMul, Nat.reduceLeDiff, Nat.reduceEqDiff, Nat.reduceLT, reduceCtorEq, cut, Int.reduceLE, Int.reduceLT, Int.reduceToNat, Int.reduceEq, Int.reduceNeg, Int.reduceMul, Int.reduceAdd, Int.reduceSub, bC.u, bB.u, bN.u, bL.u, bD.u]
    · have q1 : decide ((l.length : Int) < 1) = true := decide_eq_true (by omega)
      rw [decide_eq_false h1]
      simp only [Bool.false_and]
      obtain ⟨b', hb'⟩ : ∃ b', b' = m28b0 := ⟨_, rfl⟩
      rw [RunL_eq, show Item.lp m28k0 m28b0 = Item.lp m28k0 b' by rw [hb']]
      simp (maxSteps := 99999999) (disch := first | decide | omega | exact ok_of (by kernel_rfl)) only [m28b0, V28, R28, K28, hlt, i0, i1, lL, gL, eq45, q1, Nat.reduceAdd, Nat.reduceMul, Nat.reduceLeDiff, Nat.reduceEqDiff, Nat.reduceLT, reduceCtorEq, cut, Int.reduceLE, Int.reduceLT, Int.reduceToNat, Int.reduceEq, Int.reduceNeg, Int.reduceMul, Int.reduceAdd, Int.reduceSub, bC.u, bB.u, bN.u, bL.u, bD.u]
theorem splits_len (s : List UInt8) : (splits s).length ≤ s.length + 1 ∧ ∀ p ∈ splits s, p.length ≤ s.length := by
  refine ⟨?_, fun p hp => ?_⟩
  · induction s with
    | nil => simp [splits]
    | cons c r ih =>
      unfold splits
      split
      · simp; omega
      · have hn := splits_ne r
        cases hs : splits r with
        | nil => exact (hn hs).elim
        | cons a ps => rw [hs] at ih; simp at ih ⊢; omega
  · rw [← split_eq] at hp
    exact split_length s p hp
theorem c28 (s : List UInt8) (hs : s.length < 100000) (ha : s.any high = false) : Call Q 28 [.str s] = some (.bool (machB s)) := by
  have hsp : Call Q 64 [.str s, .str [46]] = some (.sl 1 (texts (splits s))) := by
    rw [Call_prim Q (g := pSplit) rfl]
    simp only [pSplit]
    rw [if_pos ⟨by decide, by omega⟩, split_eq]
    rfl
  have hl := splits_len s
  have lL := texts_length (splits s)
  unfold machB
  rw [Call_fn Q (m := m28) rfl rfl, ← c28_loop (splits s) (by omega) (fun p hp => ⟨by have := hl.2 p hp; omega, splits_all high s ha p hp⟩) (splits s) 0 rfl (by omega)]
  simp (maxSteps := 99999999) (disch := first | decide | omega | exact ok_of (by kernel_rfl)) only [m28, Run_loop, hsp, lL, Nat.reduceAdd, Nat.reduceMul, Nat.reduceLeDiff, Nat.reduceEqDiff, Nat.reduceLT, reduceCtorEq, cut, Int.reduceLE, Int.reduceLT, Int.reduceToNat, Int.reduceEq, Int.reduceNeg, Int.reduceMul, Int.reduceAdd, Int.reduceSub, bC.u, bN.u, bL.u, bD.u]
  exact congrArg (fin R28) (RunL_canon (canon_cong (by kernel_rfl) (by kernel_rfl) (by kernel_rfl)))
theorem c32 (h l : List UInt8) (hh : h.length < 100000) (hl2 : l.length < 100000) (ha : h.any high = false) : Call Q 32 [.str h, .str l] = some (.bool (underB h l)) := by
  have h28 := c28 h hh ha
  have h30 := c30 h l (by omega) (by omega)
  have h29 := c29 h (by omega)
  have h29' := c29 l (by omega)
  unfold underB
  rw [Call_fn Q (m := m32) rfl rfl]
  cases hm : machB h
  · rw [hm] at h28
    simp (maxSteps := 99999999) (disch := first | decide | omega | exact ok_of (by kernel_rfl)) only [m32, h28, Nat.reduceAdd, Nat.reduceMul, Nat.reduceLeDiff, Nat.reduceEqDiff, Nat.reduceLT, reduceCtorEq, cut, Int.reduceLE, Int.reduceLT, Int.reduceToNat, Int.reduceEq, Int.reduceNeg, Int.reduceMul, Int.reduceAdd, Int.reduceSub, bC.u, bB.u, bN.u, bL.u, bD.u]
  · rw [hm] at h28
    by_cases hl : l = []
    · subst hl
      rw [if_pos rfl]
      simp (maxSteps := 99999999) (disch := first | decide | omega | exact ok_of (by kernel_rfl)) only [m32, h28, Nat.reduceAdd, Nat.reduceMul, Nat.reduceLeDiff, Nat.reduceEqDiff, Nat.reduceLT, reduceCtorEq, cut, Int.reduceLE, Int.reduceLT, Int.reduceToNat, Int.reduceEq, Int.reduceNeg, Int.reduceMul, Int.reduceAdd, Int.reduceSub, bC.u, bB.u, bN.u, bL.u, bD.u]
    · have q : (l == []) = false := by rw [eqStr]; simp [hl]
      have q0 : (0 : Int) < (l.length : Int) := by have := List.length_pos_iff.2 hl; omega
      rw [if_neg hl]
      by_cases hd : l.getD 0 0 = 46
      · have q1 : (l.getD 0 0 == 46) = true := by rw [hd]; rfl
        rw [if_pos hd]
        simp (maxSteps := 99999999) (disch := first | decide | omega | exact ok_of (by kernel_rfl)) only [m32, h28, h30, q, q0, q1, eq46, Nat.reduceAdd, Nat.reduceMul, Nat.reduceLeDiff, Nat.reduceEqDiff, Nat.reduceLT, reduceCtorEq, cut, Int.reduceLE, Int.reduceLT, Int.reduceToNat, Int.reduceEq, Int.reduceNeg, Int.reduceMul, Int.reduceAdd, Int.reduceSub, bC.u, bB.u, bN.u, bL.u, bD.u]
      · have q1 : (l.getD 0 0 == 46) = false := by rw [beq_eq_false_iff_ne]; exact hd
        rw [if_neg hd]
        unfold alikeB
        rw [← eqStr]
        simp (maxSteps := 99999999) (disch := first | decide | omega | exact ok_of (by kernel_rfl)) only [m32, h28, h29, h29', q, q0, q1, eq46, Nat.reduceAdd, Nat.reduceMul, Nat.reduceLeDiff, Nat.reduceEqDiff, Nat.reduceLT, reduceCtorEq, cut, Int.reduceLE, Int.reduceLT, Int.reduceToNat, Int.reduceEq, Int.reduceNeg, Int.reduceMul, Int.reduceAdd, Int.reduceSub, bC.u, bB.u, bN.u, bL.u, bD.u]
end Go.Mini
