/- DNs: the document's over Mini. -/
import Derived.Test.YtncpjcojnjbhlaaGreatDoorG9
namespace Go.Mini
open Go Go.Proofs.YtncpjcojnjbhlaaGreatDoor
set_option maxRecDepth 10000
set_option maxHeartbeats 40000000
set_option linter.unusedSimpArgs false


def R20 : List (Nat × Option (Bool × Nat) × PK) := [(2, some (true, 5), .other), (3, none, .other)]
def V20 (d : Dn) (f i : Int) : List (Nat × MV) := [(0, .sl 2 (attrs d)), (2, .ptr 0 0), (4, .ptr 1 0), (5, .int .i64 f), (6, .int .i64 i)]
theorem c20_step (d : Dn) (hd : d.length ≤ 16) (hl : okLens d) (ks : List MV) (hk : ks.length ≤ 16) (f : Int) (i : Nat) (a : List UInt8 × List UInt8) (hg : d[i]? = some a) (K : List Item) :
    fin R20 (RunL Q m20k0 m20b0 (.blk 0 :: K) ⟨V20 d f i, [], O19 ks, nx19 ks⟩) = match oidS a.1 with
      | some out => fin R20 (RunL Q m20k0 m20b0 (.blk 0 :: K) ⟨V20 d (if textB a.2 = true then f else 31) (i + 1 : Nat), [], O19 (ks ++ [kidV out a.2]), nx19 (ks ++ [kidV out a.2])⟩)
      | none => some (err5 30) := by
  have hi : i < d.length := (List.getElem?_eq_some_iff.1 hg).1
  have hlt : decide ((i : Int) < (d.length : Int)) = true := by simp; omega
  have i0 : (0 : Int) ≤ (i : Int) := by omega
  have i1 : (i : Int) < (d.length : Int) := by omega
  have hal := attrs_length d
  have hg' := attrs_get hg
  have lens := hl.2 a (List.mem_of_getElem? hg)
  have ho := c56 a.1 lens.1
  have ht := c52 a.2 lens.2
  have hx2 := c51 a.2 lens.2
  have e : ((i : Int) + 1) = ((i + 1 : Nat) : Int) := by omega
  obtain ⟨b', hb'⟩ : ∃ b', b' = m20b0 := ⟨_, rfl⟩
  cases hx : oidS a.1 with
  | none =>
    rw [hx] at ho
    rw [RunL_eq, show Item.lp m20k0 m20b0 = Item.lp m20k0 b' by rw [hb']]
    cases ks with
    | nil =>
      simp (maxSteps := 99999999) (disch := first | decide | omega | exact ok_of (by kernel_rfl)) only [m20b0, V20, O19, nx19, R20, zero5, err5, hlt, i0, i1, hal, hg', ho, ht, hx2, ans53, bad53, Nat.reduceAdd, Nat.reduceMul, Nat.reduceLeDiff, Nat.reduceEqDiff, Nat.reduceLT, reduceCtorEq, cut, Nat.reducePow, Int.reduceDiv, Int.reduceMod, Int.reduceBNe, Int.reduceBEq, Int.reduceLE, Int.reduceLT, Int.reduceToNat, Int.reduceEq, Int.reduceNeg, Int.reduceMul, Int.reduceAdd, Int.reduceSub, bC.u, bN.u, bL.u, bR.u, bD.u]
    | cons k ks =>
      simp (maxSteps := 99999999) (disch := first | decide | omega | exact ok_of (by kernel_rfl)) only [m20b0, V20, O19, nx19, R20, zero5, err5, hlt, i0, i1, hal, hg', ho, ht, hx2, ans53, bad53, Nat.reduceAdd, Nat.reduceMul, Nat.reduceLeDiff, Nat.reduceEqDiff, Nat.reduceLT, reduceCtorEq, cut, Nat.reducePow, Int.reduceDiv, Int.reduceMod, Int.reduceBNe, Int.reduceBEq, Int.reduceLE, Int.reduceLT, Int.reduceToNat, Int.reduceEq, Int.reduceNeg, Int.reduceMul, Int.reduceAdd, Int.reduceSub, bC.u, bN.u, bL.u, bR.u, bD.u]
  | some out =>
    rw [hx] at ho
    show _ = fin R20 (RunL Q m20k0 m20b0 (.blk 0 :: K) ⟨V20 d (if textB a.2 = true then f else 31) (i + 1 : Nat), [], O19 (ks ++ [kidV out a.2]), nx19 (ks ++ [kidV out a.2])⟩)
    cases hxt : textB a.2
    · rw [if_neg (by decide)]
      rw [hxt] at hx2
      obtain ⟨rhs, hr⟩ : ∃ x, x = fin R20 (RunL Q m20k0 m20b0 (.blk 0 :: K) ⟨V20 d 31 (i + 1 : Nat), [], O19 (ks ++ [kidV out a.2]), nx19 (ks ++ [kidV out a.2])⟩) := ⟨_, rfl⟩
      rw [← hr, RunL_eq, show Item.lp m20k0 m20b0 = Item.lp m20k0 b' by rw [hb']]
      cases ks with
      | nil =>
        simp (maxSteps := 99999999) (disch := first | decide | omega | exact ok_of (by kernel_rfl)) only [m20b0, V20, O19, nx19, R20, zero5, err5, hlt, i0, i1, hal, hg', ho, ht, hx2, ans53, good53, List.set, Nat.reduceAdd, Nat.reduceMul, Nat.reduceLeDiff, Nat.reduceEqDiff, Nat.reduceLT, reduceCtorEq, cut, Nat.reducePow, Int.reduceDiv, Int.reduceMod, Int.reduceBNe, Int.reduceBEq, Int.reduceLE, Int.reduceLT, Int.reduceToNat, Int.reduceEq, Int.reduceNeg, Int.reduceMul, Int.reduceAdd, Int.reduceSub, bC.u, bN.u, bL.u, bR.u, bD.u]
        subst hb'
        refine ((congrArg (fin _) (Run_lp Q _ _ _ _)).trans ?_)
        rw [hr]
        exact congrArg (fin R20) (RunL_canon (canon_cong (Eq.trans (by kernel_rfl) (show [(0, MV.sl 2 (attrs d)), (2, .ptr 0 0), (4, .ptr 1 0), (5, .int .i64 31), (6, .int .i64 ((i : Int) + 1))] = V20 d 31 (i + 1 : Nat) from by rw [e]; rfl)) (by kernel_rfl) (by kernel_rfl)))
      | cons k ks =>
        have hcap : (ks.length + 1 + 1) * 72 ≤ 2 ^ 47 := by simp only [List.length_cons] at hk; omega
        simp (maxSteps := 99999999) (disch := first | decide | omega | exact ok_of (by kernel_rfl)) only [m20b0, V20, O19, nx19, R20, zero5, err5, hlt, i0, i1, hal, hg', ho, ht, hx2, ans53, good53, hcap, List.set, Nat.reduceAdd, Nat.reduceMul, Nat.reduceLeDiff, Nat.reduceEqDiff, Nat.reduceLT, reduceCtorEq, cut, Nat.reducePow, Int.reduceDiv, Int.reduceMod, Int.reduceBNe, Int.reduceBEq, Int.reduceLE, Int.reduceLT, Int.reduceToNat, Int.reduceEq, Int.reduceNeg, Int.reduceMul, Int.reduceAdd, Int.reduceSub, bC.u, bN.u, bL.u, bR.u, bD.u]
        subst hb'
        refine ((congrArg (fin _) (Run_lp Q _ _ _ _)).trans ?_)
        rw [hr]
        exact congrArg (fin R20) (RunL_canon (canon_cong (Eq.trans (by kernel_rfl) (show [(0, MV.sl 2 (attrs d)), (2, .ptr 0 0), (4, .ptr 1 0), (5, .int .i64 31), (6, .int .i64 ((i : Int) + 1))] = V20 d 31 (i + 1 : Nat) from by rw [e]; rfl))
          (Eq.trans (by kernel_rfl) (show [(0, Obj.cells zero5), (1, .cells [.int .i64 0, .int .i64 16, .bool true, .nilsl, .own 2 (ks.length + 1 + 1)]), (2, .el 5 (k :: (ks ++ [kidV out a.2])) false)] = O19 (k :: ks ++ [kidV out a.2]) from by simp [O19])) (by kernel_rfl)))
    · rw [if_pos rfl]
      rw [hxt] at hx2
      obtain ⟨rhs, hr⟩ : ∃ x, x = fin R20 (RunL Q m20k0 m20b0 (.blk 0 :: K) ⟨V20 d f (i + 1 : Nat), [], O19 (ks ++ [kidV out a.2]), nx19 (ks ++ [kidV out a.2])⟩) := ⟨_, rfl⟩
      rw [← hr, RunL_eq, show Item.lp m20k0 m20b0 = Item.lp m20k0 b' by rw [hb']]
      cases ks with
      | nil =>
        simp (maxSteps := 99999999) (disch := first | decide | omega | exact ok_of (by kernel_rfl)) only [m20b0, V20, O19, nx19, R20, zero5, err5, hlt, i0, i1, hal, hg', ho, ht, hx2, ans53, good53, List.set, Nat.reduceAdd, Nat.reduceMul, Nat.reduceLeDiff, Nat.reduceEqDiff, Nat.reduceLT, reduceCtorEq, cut, Nat.reducePow, Int.reduceDiv, Int.reduceMod, Int.reduceBNe, Int.reduceBEq, Int.reduceLE, Int.reduceLT, Int.reduceToNat, Int.reduceEq, Int.reduceNeg, Int.reduceMul, Int.reduceAdd, Int.reduceSub, bC.u, bN.u, bL.u, bR.u, bD.u]
        subst hb'
        refine ((congrArg (fin _) (Run_lp Q _ _ _ _)).trans ?_)
        rw [hr]
        exact congrArg (fin R20) (RunL_canon (canon_cong (Eq.trans (by kernel_rfl) (show [(0, MV.sl 2 (attrs d)), (2, .ptr 0 0), (4, .ptr 1 0), (5, .int .i64 f), (6, .int .i64 ((i : Int) + 1))] = V20 d f (i + 1 : Nat) from by rw [e]; rfl)) (by kernel_rfl) (by kernel_rfl)))
      | cons k ks =>
        have hcap : (ks.length + 1 + 1) * 72 ≤ 2 ^ 47 := by simp only [List.length_cons] at hk; omega
        simp (maxSteps := 99999999) (disch := first | decide | omega | exact ok_of (by kernel_rfl)) only [m20b0, V20, O19, nx19, R20, zero5, err5, hlt, i0, i1, hal, hg', ho, ht, hx2, ans53, good53, hcap, List.set, Nat.reduceAdd, Nat.reduceMul, Nat.reduceLeDiff, Nat.reduceEqDiff, Nat.reduceLT, reduceCtorEq, cut, Nat.reducePow, Int.reduceDiv, Int.reduceMod, Int.reduceBNe, Int.reduceBEq, Int.reduceLE, Int.reduceLT, Int.reduceToNat, Int.reduceEq, Int.reduceNeg, Int.reduceMul, Int.reduceAdd, Int.reduceSub, bC.u, bN.u, bL.u, bR.u, bD.u]
        subst hb'
        refine ((congrArg (fin _) (Run_lp Q _ _ _ _)).trans ?_)
        rw [hr]
        exact congrArg (fin R20) (RunL_canon (canon_cong (Eq.trans (by kernel_rfl) (show [(0, MV.sl 2 (attrs d)), (2, .ptr 0 0), (4, .ptr 1 0), (5, .int .i64 f), (6, .int .i64 ((i : Int) + 1))] = V20 d f (i + 1 : Nat) from by rw [e]; rfl))
          (Eq.trans (by kernel_rfl) (show [(0, Obj.cells zero5), (1, .cells [.int .i64 0, .int .i64 16, .bool true, .nilsl, .own 2 (ks.length + 1 + 1)]), (2, .el 5 (k :: (ks ++ [kidV out a.2])) false)] = O19 (k :: ks ++ [kidV out a.2]) from by simp [O19])) (by kernel_rfl)))
end Go.Mini
