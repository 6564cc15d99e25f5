/- DNs over Mini: as values. -/
import Derived.Test.YtncpjcojnjbhlaaGreatDoorE0
namespace Go.Mini
open Go Go.Proofs.YtncpjcojnjbhlaaGreatDoor
set_option maxRecDepth 10000
set_option maxHeartbeats 40000000
set_option linter.unusedSimpArgs false

/-- A value: class, tag, whether made, bytes, kids. -/
def tagOf (s : List UInt8) : Int := if s.all printB then 19 else 12
def oidV (out : List UInt8) : MV := .agg [.int .i64 0, .int .i64 6, .bool false, .bs out, .nilsl]
def textV (s : List UInt8) : MV := .agg [.int .i64 0, .int .i64 (tagOf s), .bool false, .bs s, .nilsl]
def pairV (out s : List UInt8) : MV := .agg [.int .i64 0, .int .i64 16, .bool true, .nilsl, .sl 5 [oidV out, textV s]]
def kidV (out s : List UInt8) : MV := .agg [.int .i64 0, .int .i64 17, .bool true, .nilsl, .sl 5 [pairV out s]]
def kidsV : Dn → Option (List MV)
  | [] => some []
  | a :: r => match oidS a.1, kidsV r with
    | some out, some l => some (kidV out a.2 :: l)
    | _, _ => none
def R19 : List (Nat × Option (Bool × Nat) × PK) := [(2, some (true, 5), .other), (3, none, .other)]
def err5 (e : Int) : MV := .tup [.agg zero5, .int .i64 e]
def V19 (d : Dn) (i : Int) : List (Nat × MV) := [(0, .sl 2 (attrs d)), (2, .ptr 0 0), (4, .ptr 1 0), (15, .sl 2 (attrs d)), (16, .int .i64 (d.length : Int)), (17, .int .i64 i)]
def O19 : List MV → List (Nat × Obj)
  | [] => [(0, .cells zero5), (1, .cells [.int .i64 0, .int .i64 16, .bool true, .nilsl, .nilsl])]
  | k :: ks => [(0, .cells zero5), (1, .cells [.int .i64 0, .int .i64 16, .bool true, .nilsl, .own 2 (ks.length + 1)]), (2, .el 5 (k :: ks) false)]
def nx19 : List MV → Nat
  | [] => 3
  | _ => 4

theorem c19_step (d : Dn) (hd : d.length ≤ 16) (hl : okLens d) (ks : List MV) (hk : ks.length ≤ 16) (i : Nat) (a : List UInt8 × List UInt8) (hg : d[i]? = some a) (K : List Item) :
    fin R19 (RunL Q m19k0 m19b0 (.blk 0 :: K) ⟨V19 d i, [], O19 ks, nx19 ks⟩) = match oidS a.1 with
      | some out => fin R19 (RunL Q m19k0 m19b0 (.blk 0 :: K) ⟨V19 d (i + 1 : Nat), [], O19 (ks ++ [kidV out a.2]), nx19 (ks ++ [kidV out a.2])⟩)
      | none => some (err5 30) := by
  have hi : i < d.length := (List.getElem?_eq_some_iff.1 hg).1
  have hlt : decide ((i : Int) < (d.length : Int)) = true := by simp; omega
  have i0 : (0 : Int) ≤ (i : Int) := by omega
  have i1 : (i : Int) < (d.length : Int) := by omega
  have hal := attrs_length d
  have hg' := attrs_get hg
  have lens := hl.2 a (List.mem_of_getElem? hg)
  have ho := c53 a.1 lens.1
  have ht := c47 a.2 lens.2
  have htag : (if a.2.all printB = true then (19 : Int) else 12) = tagOf a.2 := rfl
  rw [htag] at ht
  have e : ((i : Int) + 1) = ((i + 1 : Nat) : Int) := by omega
  obtain ⟨b', hb'⟩ : ∃ b', b' = m19b0 := ⟨_, rfl⟩
  cases hx : oidS a.1 with
  | none =>
    rw [hx] at ho
    rw [RunL_eq, show Item.lp m19k0 m19b0 = Item.lp m19k0 b' by rw [hb']]
    cases ks with
    | nil =>
      simp (maxSteps := 99999999) (disch := first | decide | omega | exact ok_of (by kernel_rfl)) only [m19b0, V19, O19, nx19, R19, zero5, err5, hlt, i0, i1, hal, hg', ho, ht, ans53, bad53, Nat.reduceAdd, Nat.reduceMul, Nat.reduceLeDiff, Nat.reduceEqDiff, Nat.reduceLT, reduceCtorEq, cut, Nat.reducePow, Int.reduceDiv, Int.reduceMod, Int.reduceBNe, Int.reduceBEq, Int.reduceLE, Int.reduceLT, Int.reduceToNat, Int.reduceEq, Int.reduceNeg, Int.reduceMul, Int.reduceAdd, Int.reduceSub, bC.u, bN.u, bL.u, bR.u, bD.u]
    | cons k ks =>
      simp (maxSteps := 99999999) (disch := first | decide | omega | exact ok_of (by kernel_rfl)) only [m19b0, V19, O19, nx19, R19, zero5, err5, hlt, i0, i1, hal, hg', ho, ht, ans53, bad53, Nat.reduceAdd, Nat.reduceMul, Nat.reduceLeDiff, Nat.reduceEqDiff, Nat.reduceLT, reduceCtorEq, cut, Nat.reducePow, Int.reduceDiv, Int.reduceMod, Int.reduceBNe, Int.reduceBEq, Int.reduceLE, Int.reduceLT, Int.reduceToNat, Int.reduceEq, Int.reduceNeg, Int.reduceMul, Int.reduceAdd, Int.reduceSub, bC.u, bN.u, bL.u, bR.u, bD.u]
  | some out =>
    rw [hx] at ho
    obtain ⟨rhs, hr⟩ : ∃ x, x = fin R19 (RunL Q m19k0 m19b0 (.blk 0 :: K) ⟨V19 d (i + 1 : Nat), [], O19 (ks ++ [kidV out a.2]), nx19 (ks ++ [kidV out a.2])⟩) := ⟨_, rfl⟩
    show _ = fin R19 (RunL Q m19k0 m19b0 (.blk 0 :: K) ⟨V19 d (i + 1 : Nat), [], O19 (ks ++ [kidV out a.2]), nx19 (ks ++ [kidV out a.2])⟩)
    rw [← hr, RunL_eq, show Item.lp m19k0 m19b0 = Item.lp m19k0 b' by rw [hb']]
    cases ks with
    | nil =>
      simp (maxSteps := 99999999) (disch := first | decide | omega | exact ok_of (by kernel_rfl)) only [m19b0, V19, O19, nx19, R19, zero5, err5, hlt, i0, i1, hal, hg', ho, ht, ans53, good53, List.set, Nat.reduceAdd, Nat.reduceMul, Nat.reduceLeDiff, Nat.reduceEqDiff, Nat.reduceLT, reduceCtorEq, cut, Nat.reducePow, Int.reduceDiv, Int.reduceMod, Int.reduceBNe, Int.reduceBEq, Int.reduceLE, Int.reduceLT, Int.reduceToNat, Int.reduceEq, Int.reduceNeg, Int.reduceMul, Int.reduceAdd, Int.reduceSub, bC.u, bN.u, bL.u, bR.u, bD.u]
      subst hb'
      refine ((congrArg (fin _) (Run_lp Q _ _ _ _)).trans ?_)
      rw [hr]
      exact congrArg (fin R19) (RunL_canon (canon_cong (Eq.trans (by kernel_rfl) (show [(0, MV.sl 2 (attrs d)), (2, .ptr 0 0), (4, .ptr 1 0), (15, .sl 2 (attrs d)), (16, .int .i64 (d.length : Int)), (17, .int .i64 ((i : Int) + 1))] = V19 d (i + 1 : Nat) from by rw [e]; rfl)) (by kernel_rfl) (by kernel_rfl)))
    | cons k ks =>
      have hcap : (ks.length + 1 + 1) * 72 ≤ 2 ^ 47 := by simp only [List.length_cons] at hk; omega
      simp (maxSteps := 99999999) (disch := first | decide | omega | exact ok_of (by kernel_rfl)) only [m19b0, V19, O19, nx19, R19, zero5, err5, hlt, i0, i1, hal, hg', ho, ht, ans53, good53, hcap, List.set, Nat.reduceAdd, Nat.reduceMul, Nat.reduceLeDiff, Nat.reduceEqDiff, Nat.reduceLT, reduceCtorEq, cut, Nat.reducePow, Int.reduceDiv, Int.reduceMod, Int.reduceBNe, Int.reduceBEq, Int.reduceLE, Int.reduceLT, Int.reduceToNat, Int.reduceEq, Int.reduceNeg, Int.reduceMul, Int.reduceAdd, Int.reduceSub, bC.u, bN.u, bL.u, bR.u, bD.u]
      subst hb'
      refine ((congrArg (fin _) (Run_lp Q _ _ _ _)).trans ?_)
      rw [hr]
      exact congrArg (fin R19) (RunL_canon (canon_cong (Eq.trans (by kernel_rfl) (show [(0, MV.sl 2 (attrs d)), (2, .ptr 0 0), (4, .ptr 1 0), (15, .sl 2 (attrs d)), (16, .int .i64 (d.length : Int)), (17, .int .i64 ((i : Int) + 1))] = V19 d (i + 1 : Nat) from by rw [e]; rfl))
        (Eq.trans (by kernel_rfl) (show [(0, Obj.cells zero5), (1, .cells [.int .i64 0, .int .i64 16, .bool true, .nilsl, .own 2 (ks.length + 1 + 1)]), (2, .el 5 (k :: (ks ++ [kidV out a.2])) false)] = O19 (k :: ks ++ [kidV out a.2]) from by simp [O19])) (by kernel_rfl)))
end Go.Mini
