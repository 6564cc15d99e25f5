/- DNs: the document's over Mini: whole. -/
import Derived.Test.YtncpjcojnjbhlaaGreatDoorG10
namespace Go.Mini
open Go Go.Proofs.YtncpjcojnjbhlaaGreatDoor
set_option maxRecDepth 10000
set_option maxHeartbeats 40000000
set_option linter.unusedSimpArgs false

theorem c20_end (d : Dn) (ks : List MV) (f : Int) (K : List Item) : RunL Q m20k0 m20b0 (.blk 0 :: K) ⟨V20 d f d.length, [], O19 ks, nx19 ks⟩ = Run Q K ⟨(19, .bool false) :: V20 d f d.length, [], O19 ks, nx19 ks + 16⟩ := by
  have hlt : decide ((d.length : Int) < (d.length : Int)) = false := by simp
  have hal := attrs_length d
  obtain ⟨b', hb'⟩ : ∃ b', b' = m20b0 := ⟨_, rfl⟩
  rw [RunL_eq, show Item.lp m20k0 m20b0 = Item.lp m20k0 b' by rw [hb']]
  simp (maxSteps := 99999999) (disch := first | decide | omega | exact ok_of (by kernel_rfl)) only [m20b0, V20, hlt, hal, Nat.reduceAdd, Nat.reduceMul, Nat.reduceLeDiff, Nat.reduceEqDiff, Nat.reduceLT, reduceCtorEq, cut, Nat.reducePow, Int.reduceDiv, Int.reduceMod, Int.reduceBNe, Int.reduceBEq, Int.reduceLE, Int.reduceLT, Int.reduceToNat, Int.reduceEq, Int.reduceNeg, Int.reduceMul, Int.reduceAdd, Int.reduceSub, bC.u, bD.u]

def flagR (f : Int) (r : Dn) : Int := if (r.any fun a => !textB a.2) = true then 31 else f
theorem flag_cons (f : Int) (a : List UInt8 × List UInt8) (r : Dn) : flagR (if textB a.2 = true then f else 31) r = flagR f (a :: r) := by
  unfold flagR
  rw [List.any_cons]
  cases textB a.2 <;> cases (r.any fun a => !textB a.2) <;> rfl
theorem c20_loop (d : Dn) (hd : d.length ≤ 16) (hl : okLens d) (K : List Item) : ∀ (r : Dn) (ks : List MV) (f : Int) (i : Nat), d.drop i = r → i + r.length = d.length → ks.length = i →
    fin R20 (RunL Q m20k0 m20b0 (.blk 0 :: K) ⟨V20 d f i, [], O19 ks, nx19 ks⟩) = match kidsV r with
      | some l => fin R20 (Run Q K ⟨(19, .bool false) :: V20 d (flagR f r) d.length, [], O19 (ks ++ l), nx19 (ks ++ l) + 16⟩)
      | none => some (err5 30)
  | [], ks, f, i, hdr, hi, hk => by
    have hi' : i = d.length := by simpa using hi
    subst hi'
    rw [c20_end d ks f K]
    show _ = fin R20 (Run Q K ⟨(19, .bool false) :: V20 d f d.length, [], O19 (ks ++ []), nx19 (ks ++ []) + 16⟩)
    rw [List.append_nil]
  | a :: r, ks, f, i, hdr, hi, hk => by
    simp only [List.length_cons] at hi
    have hg : d[i]? = some a := by
      have := congrArg (·[0]?) hdr
      simpa [List.getElem?_drop] using this
    have hd' : d.drop (i + 1) = r := by
      have := congrArg (List.drop 1) hdr
      simpa [List.drop_drop] using this
    rw [c20_step d hd hl ks (by omega) f i a hg K, kidsV_cons]
    cases ho : oidS a.1 with
    | none => rfl
    | some out =>
      have ih := c20_loop d hd hl K r (ks ++ [kidV out a.2]) (if textB a.2 = true then f else 31) (i + 1) hd' (by omega) (by simp [hk])
      simp only
      rw [ih, flag_cons]
      cases kidsV r with
      | none => rfl
      | some l => simp only [List.append_assoc, List.cons_append, List.nil_append]
theorem c20 (d : Dn) (hl : okLens d) : Call Q 20 [.sl 2 (attrs d)] = some (.tup [dnVal d, .int .i64 (dnE d)]) := by
  have hal := attrs_length d
  have hlen := hl.1
  unfold dnVal
  rw [Call_fn Q (m := m20) rfl rfl]
  by_cases h1 : 16 < d.length
  · have d1 : decide (16 < (d.length : Int)) = true := by simp; omega
    have e : dnE d = 30 := by unfold dnE; rw [if_pos h1]
    rw [e, if_neg (by decide)]
    simp (maxSteps := 99999999) (disch := first | decide | omega | exact ok_of (by kernel_rfl)) only [m20, d1, hal, zero5, Nat.reduceAdd, Nat.reduceMul, Nat.reduceLeDiff, Nat.reduceEqDiff, Nat.reduceLT, reduceCtorEq, cut, Nat.reducePow, Int.reduceDiv, Int.reduceMod, Int.reduceBNe, Int.reduceBEq, Int.reduceLE, Int.reduceLT, Int.reduceToNat, Int.reduceEq, Int.reduceNeg, Int.reduceMul, Int.reduceAdd, Int.reduceSub, bC.u, bN.u, bL.u, bR.u, bD.u]
  have d1 : decide (16 < (d.length : Int)) = false := by simp; omega
  obtain ⟨rhs, hr⟩ : ∃ x, x = some (MV.tup [if dnE d = 0 then .agg [.int .i64 0, .int .i64 16, .bool true, .nilsl, kidsM ((kidsV d).getD [])] else .agg zero5, .int .i64 (dnE d)]) := ⟨_, rfl⟩
  rw [← hr]
  simp (maxSteps := 99999999) (disch := first | decide | omega | exact ok_of (by kernel_rfl)) only [m20, d1, hal, Run_loop, Nat.reduceAdd, Nat.reduceMul, Nat.reduceLeDiff, Nat.reduceEqDiff, Nat.reduceLT, reduceCtorEq, cut, Nat.reducePow, Int.reduceDiv, Int.reduceMod, Int.reduceBNe, Int.reduceBEq, Int.reduceLE, Int.reduceLT, Int.reduceToNat, Int.reduceEq, Int.reduceNeg, Int.reduceMul, Int.reduceAdd, Int.reduceSub, bC.u, bN.u, bL.u, bR.u, bD.u]
  refine (congrArg (fin _) (RunL_canon (canon_cong (V := V20 d 0 (0 : Nat)) (O := O19 []) (nx := nx19 []) (by kernel_rfl) (by kernel_rfl) (by kernel_rfl)))).trans ?_
  refine (c20_loop d (by omega) hl _ d [] 0 0 rfl (by simp) rfl).trans ?_
  rw [hr]
  cases hk : kidsV d with
  | none =>
    have e : dnE d = 30 := by unfold dnE; rw [if_neg h1, hk]
    rw [e, if_neg (by decide)]
    rfl
  | some l =>
    simp only [List.nil_append]
    cases ha : d.any fun a => !textB a.2
    · have e : dnE d = 0 := by unfold dnE; rw [if_neg h1, hk]; simp only [ha]; rfl
      have ef : flagR 0 d = 0 := by unfold flagR; rw [ha]; rfl
      rw [e, ef, if_pos rfl]
      cases l with
      | nil =>
        simp (maxSteps := 99999999) (disch := first | decide | omega | exact ok_of (by kernel_rfl)) only [V20, O19, nx19, R20, hal, zero5, kidsM, Nat.reduceAdd, Nat.reduceMul, Nat.reduceLeDiff, Nat.reduceEqDiff, Nat.reduceLT, reduceCtorEq, cut, Nat.reducePow, Int.reduceDiv, Int.reduceMod, Int.reduceBNe, Int.reduceBEq, Int.reduceLE, Int.reduceLT, Int.reduceToNat, Int.reduceEq, Int.reduceNeg, Int.reduceMul, Int.reduceAdd, Int.reduceSub, bC.u, bN.u, bL.u, bR.u, bD.u]
      | cons k ks =>
        simp (maxSteps := 99999999) (disch := first | decide | omega | exact ok_of (by kernel_rfl)) only [V20, O19, nx19, R20, hal, zero5, kidsM, Nat.reduceAdd, Nat.reduceMul, Nat.reduceLeDiff, Nat.reduceEqDiff, Nat.reduceLT, reduceCtorEq, cut, Nat.reducePow, Int.reduceDiv, Int.reduceMod, Int.reduceBNe, Int.reduceBEq, Int.reduceLE, Int.reduceLT, Int.reduceToNat, Int.reduceEq, Int.reduceNeg, Int.reduceMul, Int.reduceAdd, Int.reduceSub, bC.u, bN.u, bL.u, bR.u, bD.u]
    · have e : dnE d = 31 := by unfold dnE; rw [if_neg h1, hk]; simp only [ha]; rfl
      have ef : flagR 0 d = 31 := by unfold flagR; rw [ha]; rfl
      rw [e, ef, if_neg (by decide)]
      cases l with
      | nil =>
        simp (maxSteps := 99999999) (disch := first | decide | omega | exact ok_of (by kernel_rfl)) only [V20, O19, nx19, R20, hal, zero5, kidsM, Nat.reduceAdd, Nat.reduceMul, Nat.reduceLeDiff, Nat.reduceEqDiff, Nat.reduceLT, reduceCtorEq, cut, Nat.reducePow, Int.reduceDiv, Int.reduceMod, Int.reduceBNe, Int.reduceBEq, Int.reduceLE, Int.reduceLT, Int.reduceToNat, Int.reduceEq, Int.reduceNeg, Int.reduceMul, Int.reduceAdd, Int.reduceSub, bC.u, bN.u, bL.u, bR.u, bD.u]
      | cons k ks =>
        simp (maxSteps := 99999999) (disch := first | decide | omega | exact ok_of (by kernel_rfl)) only [V20, O19, nx19, R20, hal, zero5, kidsM, Nat.reduceAdd, Nat.reduceMul, Nat.reduceLeDiff, Nat.reduceEqDiff, Nat.reduceLT, reduceCtorEq, cut, Nat.reducePow, Int.reduceDiv, Int.reduceMod, Int.reduceBNe, Int.reduceBEq, Int.reduceLE, Int.reduceLT, Int.reduceToNat, Int.reduceEq, Int.reduceNeg, Int.reduceMul, Int.reduceAdd, Int.reduceSub, bC.u, bN.u, bL.u, bR.u, bD.u]

/-! ### Are two DNs alike? -/
def R22 : List (Nat × Option (Bool × Nat) × PK) := [(4, none, .other)]
def V22 (a b : Dn) (i : Int) : List (Nat × MV) := [(0, .sl 2 (attrs a)), (1, .sl 2 (attrs b)), (5, .int .i64 i)]
def K22 : List Item := [.blk 0, .code (.seq (.rg [⟨some (.v 4), .mv (.c (.bool true)), none⟩]) .ret)]
theorem c22_loop (a b : Dn) (hl : a.length < 1000000) (hb : b.length = a.length) : ∀ (r q : Dn) (i : Nat), a.drop i = r → b.drop i = q → i + r.length = a.length →
    fin R22 (RunL Q m22k0 m22b0 K22 ⟨V22 a b i, [], [], 1⟩) = some (.bool (decide (r = q)))
  | [], q, i, hd, hq, hi => by
    have hi' : i = a.length := by simpa using hi
    subst hi'
    have hq' : q = [] := by rw [← hq, List.drop_eq_nil_of_le (by omega)]
    subst hq'
    have la := attrs_length a
    have hlt : decide ((a.length : Int) < (a.length : Int)) = false := by simp
    obtain ⟨b', hb'⟩ : ∃ b', b' = m22b0 := ⟨_, rfl⟩
    rw [RunL_eq, show Item.lp m22k0 m22b0 = Item.lp m22k0 b' by rw [hb']]
    simp (maxSteps := 99999999) (disch := first | decide | omega | exact ok_of (by kernel_rfl)) only [m22b0, V22, R22, K22, hlt, la, Nat.reduceAdd, Nat.reduceMul, Nat.reduceLeDiff, Nat.reduceEqDiff, Nat.reduceLT, reduceCtorEq, cut, Nat.reducePow, Int.reduceDiv, Int.reduceMod, Int.reduceBNe, Int.reduceBEq, Int.reduceLE, Int.reduceLT, Int.reduceToNat, Int.reduceEq, Int.reduceNeg, Int.reduceMul, Int.reduceAdd, Int.reduceSub, bC.u, bD.u]
  | x :: r, [], i, hd, hq, hi => by
    simp only [List.length_cons] at hi
    have := List.drop_eq_nil_iff.1 hq
    omega
  | x :: r, y :: q, i, hd, hq, hi => by
    simp only [List.length_cons] at hi
    have hlt : decide ((i : Int) < (a.length : Int)) = true := by simp; omega
    have i0 : (0 : Int) ≤ (i : Int) := by omega
    have i1 : (i : Int) < (a.length : Int) := by omega
    have hg : a[i]? = some x := by
      have := congrArg (·[0]?) hd
      simpa [List.getElem?_drop] using this
    have hg2 : b[i]? = some y := by
      have := congrArg (·[0]?) hq
      simpa [List.getElem?_drop] using this
    have ga := attrs_get hg
    have gb := attrs_get hg2
    have la := attrs_length a
    have lb := (attrs_length b).trans hb
    have hd' : a.drop (i + 1) = r := by
      have := congrArg (List.drop 1) hd
      simpa [List.drop_drop] using this
    have hq' : b.drop (i + 1) = q := by
      have := congrArg (List.drop 1) hq
      simpa [List.drop_drop] using this
    have ih := c22_loop a b hl hb r q (i + 1) hd' hq' (by omega)
    have e : ((i : Int) + 1) = ((i + 1 : Nat) : Int) := by omega
    obtain ⟨x1, x2⟩ := x
    obtain ⟨y1, y2⟩ := y
    obtain ⟨b', hb'⟩ : ∃ b', b' = m22b0 := ⟨_, rfl⟩
    rw [RunL_eq, show Item.lp m22k0 m22b0 = Item.lp m22k0 b' by rw [hb']]
    cases h1 : (x1 == y1)
    · have hne : decide ((x1, x2) :: r = (y1, y2) :: q) = false := by
        have : x1 ≠ y1 := by simpa using h1
        simp [this]
      rw [hne]
      simp (maxSteps := 99999999) (disch := first | decide | omega | exact ok_of (by kernel_rfl)) only [m22b0, V22, R22, K22, hlt, i0, i1, la, lb, ga, gb, h1, eqCells, Nat.reduceAdd, Nat.reduceMul, Nat.reduceLeDiff, Nat.reduceEqDiff, Nat.reduceLT, reduceCtorEq, cut, Nat.reducePow, Int.reduceDiv, Int.reduceMod, Int.reduceBNe, Int.reduceBEq, Int.reduceLE, Int.reduceLT, Int.reduceToNat, Int.reduceEq, Int.reduceNeg, Int.reduceMul, Int.reduceAdd, Int.reduceSub, bC.u, bB.u, bN.u, bR.u, bD.u]
    · cases h2 : (x2 == y2)
      · have hne : decide ((x1, x2) :: r = (y1, y2) :: q) = false := by
          have : x2 ≠ y2 := by simpa using h2
          simp [this]
        rw [hne]
        simp (maxSteps := 99999999) (disch := first | decide | omega | exact ok_of (by kernel_rfl)) only [m22b0, V22, R22, K22, hlt, i0, i1, la, lb, ga, gb, h1, eqCells, h2, Nat.reduceAdd, Nat.reduceMul, Nat.reduceLeDiff, Nat.reduceEqDiff, Nat.reduceLT, reduceCtorEq, cut, Nat.reducePow, Int.reduceDiv, Int.reduceMod, Int.reduceBNe, Int.reduceBEq, Int.reduceLE, Int.reduceLT, Int.reduceToNat, Int.reduceEq, Int.reduceNeg, Int.reduceMul, Int.reduceAdd, Int.reduceSub, bC.u, bB.u, bN.u, bR.u, bD.u]
      · have he : decide ((x1, x2) :: r = (y1, y2) :: q) = decide (r = q) := by
          have e1 : x1 = y1 := by simpa using h1
          have e2 : x2 = y2 := by simpa using h2
          simp [e1, e2]
        rw [he]
        obtain ⟨rhs, hr⟩ : ∃ x, x = decide (r = q) := ⟨_, rfl⟩
        rw [← hr]
        simp (maxSteps := 99999999) (disch := first | decide | omega | exact ok_of (by kernel_rfl)) only [m22b0, V22, R22, K22, hlt, i0, i1, la, lb, ga, gb, h1, eqCells, h2, Nat.reduceAdd, Nat.reduceMul, Nat.reduceLeDiff, Nat.reduceEqDiff, Nat.reduceLT, reduceCtorEq, cut, Nat.reducePow, Int.reduceDiv, Int.reduceMod, Int.reduceBNe, Int.reduceBEq, Int.reduceLE, Int.reduceLT, Int.reduceToNat, Int.reduceEq, Int.reduceNeg, Int.reduceMul, Int.reduceAdd, Int.reduceSub, bC.u, bB.u, bN.u, bR.u, bD.u]
        subst hb'
        refine ((congrArg (fin _) (Run_lp Q _ _ _ _)).trans ?_)
        rw [hr, ← ih]
        exact congrArg (fin R22) (RunL_canon (canon_cong (Eq.trans (by kernel_rfl) (show [(0, MV.sl 2 (attrs a)), (1, .sl 2 (attrs b)), (5, .int .i64 ((i : Int) + 1))] = V22 a b (i + 1 : Nat) from by rw [e]; rfl)) (by kernel_rfl) (by kernel_rfl)))
theorem c22 (a b : Dn) (hl : a.length < 1000000) : Call Q 22 [.sl 2 (attrs a), .sl 2 (attrs b)] = some (.bool (decide (a = b))) := by
  have la := attrs_length a
  have lb := attrs_length b
  rw [Call_fn Q (m := m22) rfl rfl]
  by_cases hb : b.length = a.length
  · have hn : ((a.length : Int) != (b.length : Int)) = false := by rw [hb]; exact bne_self_eq_false _
    rw [← c22_loop a b hl hb a b 0 rfl rfl (by omega)]
    simp (maxSteps := 99999999) (disch := first | decide | omega | exact ok_of (by kernel_rfl)) only [m22, la, lb, hn, Run_loop, Nat.reduceAdd, Nat.reduceMul, Nat.reduceLeDiff, Nat.reduceEqDiff, Nat.reduceLT, reduceCtorEq, cut, Nat.reducePow, Int.reduceDiv, Int.reduceMod, Int.reduceBNe, Int.reduceBEq, Int.reduceLE, Int.reduceLT, Int.reduceToNat, Int.reduceEq, Int.reduceNeg, Int.reduceMul, Int.reduceAdd, Int.reduceSub, bC.u, bN.u, bD.u]
    exact congrArg (fin R22) (RunL_canon (canon_cong (by kernel_rfl) (by kernel_rfl) (by kernel_rfl)))
  · have hne : decide (a = b) = false := by
      have : a ≠ b := fun h => hb (by rw [h])
      simp [this]
    have hn : ((a.length : Int) != (b.length : Int)) = true := by rw [bne_iff_ne]; omega
    rw [hne]
    simp (maxSteps := 99999999) (disch := first | decide | omega | exact ok_of (by kernel_rfl)) only [m22, la, lb, hn, Run_loop, Nat.reduceAdd, Nat.reduceMul, Nat.reduceLeDiff, Nat.reduceEqDiff, Nat.reduceLT, reduceCtorEq, cut, Nat.reducePow, Int.reduceDiv, Int.reduceMod, Int.reduceBNe, Int.reduceBEq, Int.reduceLE, Int.reduceLT, Int.reduceToNat, Int.reduceEq, Int.reduceNeg, Int.reduceMul, Int.reduceAdd, Int.reduceSub, bC.u, bN.u, bD.u]
end Go.Mini
