/- DNs over Mini: as values, whole; within one another. -/
import Derived.Test.YtncpjcojnjbhlaaGreatDoorE1
namespace Go.Mini
open Go Go.Proofs.YtncpjcojnjbhlaaGreatDoor
set_option maxRecDepth 10000
set_option maxHeartbeats 40000000
set_option linter.unusedSimpArgs false

theorem kidsV_cons (a : List UInt8 × List UInt8) (r : Dn) : kidsV (a :: r) = match oidS a.1, kidsV r with
    | some out, some l => some (kidV out a.2 :: l)
    | _, _ => none := rfl

theorem c19_end (d : Dn) (ks : List MV) (K : List Item) : RunL Q m19k0 m19b0 (.blk 0 :: K) ⟨V19 d d.length, [], O19 ks, nx19 ks⟩ = Run Q K ⟨(18, .bool false) :: V19 d d.length, [], O19 ks, nx19 ks + 4⟩ := by
  have hlt : decide ((d.length : Int) < (d.length : Int)) = false := by simp
  obtain ⟨b', hb'⟩ : ∃ b', b' = m19b0 := ⟨_, rfl⟩
  rw [RunL_eq, show Item.lp m19k0 m19b0 = Item.lp m19k0 b' by rw [hb']]
  simp (maxSteps := 99999999) (disch := first | decide | omega | exact ok_of (by kernel_rfl)) only [m19b0, V19, hlt, Nat.reduceAdd, Nat.reduceMul, Nat.reduceLeDiff, Nat.reduceEqDiff, Nat.reduceLT, reduceCtorEq, cut, Int.reduceLE, Int.reduceLT, Int.reduceToNat, Int.reduceEq, Int.reduceNeg, Int.reduceMul, Int.reduceAdd, Int.reduceSub, bC.u, bD.u]

theorem c19_loop (d : Dn) (hd : d.length ≤ 16) (hl : okLens d) (K : List Item) : ∀ (r : Dn) (ks : List MV) (i : Nat), d.drop i = r → i + r.length = d.length → ks.length = i →
    fin R19 (RunL Q m19k0 m19b0 (.blk 0 :: K) ⟨V19 d i, [], O19 ks, nx19 ks⟩) = match kidsV r with
      | some l => fin R19 (Run Q K ⟨(18, .bool false) :: V19 d d.length, [], O19 (ks ++ l), nx19 (ks ++ l) + 4⟩)
      | none => some (err5 30)
  | [], ks, i, hdr, hi, hk => by
    have hi' : i = d.length := by simpa using hi
    subst hi'
    rw [c19_end d ks K]
    show _ = fin R19 (Run Q K ⟨(18, .bool false) :: V19 d d.length, [], O19 (ks ++ []), nx19 (ks ++ []) + 4⟩)
    rw [List.append_nil]
  | a :: r, ks, i, hdr, hi, hk => by
    simp only [List.length_cons] at hi
    have hg : d[i]? = some a := by
      have := congrArg (·[0]?) hdr
      simpa [List.getElem?_drop] using this
    have hd' : d.drop (i + 1) = r := by
      have := congrArg (List.drop 1) hdr
      simpa [List.drop_drop] using this
    rw [c19_step d hd hl ks (by omega) i a hg K, kidsV_cons]
    cases ho : oidS a.1 with
    | none => rfl
    | some out =>
      have ih := c19_loop d hd hl K r (ks ++ [kidV out a.2]) (i + 1) hd' (by omega) (by simp [hk])
      simp only
      rw [ih]
      cases kidsV r with
      | none => rfl
      | some l => simp only [List.append_assoc, List.cons_append, List.nil_append]

def kidsM : List MV → MV
  | [] => .nilsl
  | k :: ks => .sl 5 (k :: ks)
def dnE (d : Dn) : Int := if 16 < d.length then 30 else match kidsV d with
  | none => 30
  | some _ => if (d.any fun a => !textB a.2) = true then 31 else 0
def dnVal (d : Dn) : MV := if dnE d = 0 then .agg [.int .i64 0, .int .i64 16, .bool true, .nilsl, kidsM ((kidsV d).getD [])] else .agg zero5

theorem c19 (d : Dn) (hl : okLens d) : Call Q 19 [.sl 2 (attrs d)] = some (.tup [dnVal d, .int .i64 (dnE d)]) := by
  have hal := attrs_length d
  have hlen := hl.1
  have h54 := c54 d hl
  unfold dnVal
  rw [Call_fn Q (m := m19) rfl rfl]
  by_cases h1 : 16 < d.length
  · have d1 : decide (16 < (d.length : Int)) = true := by simp; omega
    have e : dnE d = 30 := by unfold dnE; rw [if_pos h1]
    rw [e, if_neg (by decide)]
    simp (maxSteps := 99999999) (disch := first | decide | omega | exact ok_of (by kernel_rfl)) only [m19, d1, hal, zero5, Nat.reduceAdd, Nat.reduceMul, Nat.reduceLeDiff, Nat.reduceEqDiff, Nat.reduceLT, reduceCtorEq, cut, Int.reduceLE, Int.reduceLT, Int.reduceToNat, Int.reduceEq, Int.reduceNeg, Int.reduceMul, Int.reduceAdd, Int.reduceSub, bC.u, bN.u, bL.u, bR.u, bD.u]
  have d1 : decide (16 < (d.length : Int)) = false := by simp; omega
  obtain ⟨rhs, hr⟩ : ∃ x, x = some (MV.tup [if dnE d = 0 then .agg [.int .i64 0, .int .i64 16, .bool true, .nilsl, kidsM ((kidsV d).getD [])] else .agg zero5, .int .i64 (dnE d)]) := ⟨_, rfl⟩
  rw [← hr]
  simp (maxSteps := 99999999) (disch := first | decide | omega | exact ok_of (by kernel_rfl)) only [m19, d1, hal, Run_loop, Nat.reduceAdd, Nat.reduceMul, Nat.reduceLeDiff, Nat.reduceEqDiff, Nat.reduceLT, reduceCtorEq, cut, Int.reduceLE, Int.reduceLT, Int.reduceToNat, Int.reduceEq, Int.reduceNeg, Int.reduceMul, Int.reduceAdd, Int.reduceSub, bC.u, bN.u, bL.u, bR.u, bD.u]
  refine (congrArg (fin _) (RunL_canon (canon_cong (V := V19 d (0 : Nat)) (O := O19 []) (nx := nx19 []) (by kernel_rfl) (by kernel_rfl) (by kernel_rfl)))).trans ?_
  refine (c19_loop d (by omega) hl _ d [] 0 rfl (by simp) rfl).trans ?_
  rw [hr]
  cases hk : kidsV d with
  | none =>
    have e : dnE d = 30 := by unfold dnE; rw [if_neg h1, hk]
    rw [e, if_neg (by decide)]
    rfl
  | some l =>
    simp only [List.nil_append]
    cases ha : d.any fun a => !textB a.2
    · rw [ha] at h54
      have e : dnE d = 0 := by unfold dnE; rw [if_neg h1, hk]; simp only [ha]; rfl
      rw [e, if_pos rfl]
      cases l with
      | nil =>
        simp (maxSteps := 99999999) (disch := first | decide | omega | exact ok_of (by kernel_rfl)) only [V19, O19, nx19, R19, h54, hal, zero5, kidsM, Nat.reduceAdd, Nat.reduceMul, Nat.reduceLeDiff, Nat.reduceEqDiff, Nat.reduceLT, reduceCtorEq, cut, Int.reduceLE, Int.reduceLT, Int.reduceToNat, Int.reduceEq, Int.reduceNeg, Int.reduceMul, Int.reduceAdd, Int.reduceSub, bC.u, bN.u, bL.u, bR.u, bD.u]
      | cons k ks =>
        simp (maxSteps := 99999999) (disch := first | decide | omega | exact ok_of (by kernel_rfl)) only [V19, O19, nx19, R19, h54, hal, zero5, kidsM, Nat.reduceAdd, Nat.reduceMul, Nat.reduceLeDiff, Nat.reduceEqDiff, Nat.reduceLT, reduceCtorEq, cut, Int.reduceLE, Int.reduceLT, Int.reduceToNat, Int.reduceEq, Int.reduceNeg, Int.reduceMul, Int.reduceAdd, Int.reduceSub, bC.u, bN.u, bL.u, bR.u, bD.u]
    · rw [ha] at h54
      have e : dnE d = 31 := by unfold dnE; rw [if_neg h1, hk]; simp only [ha]; rfl
      rw [e, if_neg (by decide)]
      cases l with
      | nil =>
        simp (maxSteps := 99999999) (disch := first | decide | omega | exact ok_of (by kernel_rfl)) only [V19, O19, nx19, R19, h54, hal, zero5, kidsM, Nat.reduceAdd, Nat.reduceMul, Nat.reduceLeDiff, Nat.reduceEqDiff, Nat.reduceLT, reduceCtorEq, cut, Int.reduceLE, Int.reduceLT, Int.reduceToNat, Int.reduceEq, Int.reduceNeg, Int.reduceMul, Int.reduceAdd, Int.reduceSub, bC.u, bN.u, bL.u, bR.u, bD.u]
      | cons k ks =>
        simp (maxSteps := 99999999) (disch := first | decide | omega | exact ok_of (by kernel_rfl)) only [V19, O19, nx19, R19, h54, hal, zero5, kidsM, Nat.reduceAdd, Nat.reduceMul, Nat.reduceLeDiff, Nat.reduceEqDiff, Nat.reduceLT, reduceCtorEq, cut, Int.reduceLE, Int.reduceLT, Int.reduceToNat, Int.reduceEq, Int.reduceNeg, Int.reduceMul, Int.reduceAdd, Int.reduceSub, bC.u, bN.u, bL.u, bR.u, bD.u]
end Go.Mini
