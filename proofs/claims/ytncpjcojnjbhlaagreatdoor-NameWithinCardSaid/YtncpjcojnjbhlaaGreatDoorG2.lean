/- Hosts, mail addresses within limits: the document's over Mini. -/
import Derived.Test.YtncpjcojnjbhlaaGreatDoorG1
namespace Go.Mini
open Go Go.Proofs.YtncpjcojnjbhlaaGreatDoor
set_option maxRecDepth 10000
set_option maxHeartbeats 40000000
set_option linter.unusedSimpArgs false


def underB (h l : List UInt8) : Bool := machB h && (if l = [] then true else if l.getD 0 0 = 46 then endsB h l else alikeB h l)
theorem eqStr (a b : List UInt8) : (a == b) = decide (a = b) := by
  rw [Bool.eq_iff_iff]; simp
theorem c41 (h l : List UInt8) (hh : h.length < 1000000) : Call Q 41 [.str h, .str l] = some (.bool (underB h l)) := by
  have h37 := c37 h hh
  have h38 := c38 h l hh
  have h39 := c39 h l hh
  unfold underB
  rw [Call_fn Q (m := m41) rfl rfl]
  cases hm : machB h
  · rw [hm] at h37
    simp (maxSteps := 99999999) (disch := first | decide | omega | exact ok_of (by kernel_rfl)) only [m41, h37, Nat.reduceAdd, Nat.reduceMul, Nat.reduceLeDiff, Nat.reduceEqDiff, Nat.reduceLT, reduceCtorEq, cut, Int.reduceLE, Int.reduceLT, Int.reduceToNat, Int.reduceEq, Int.reduceNeg, Int.reduceMul, Int.reduceAdd, Int.reduceSub, bC.u, bB.u, bN.u, bL.u, bD.u]
  · rw [hm] at h37
    by_cases hl : l = []
    · subst hl
      rw [if_pos rfl]
      simp (maxSteps := 99999999) (disch := first | decide | omega | exact ok_of (by kernel_rfl)) only [m41, h37, Nat.reduceAdd, Nat.reduceMul, Nat.reduceLeDiff, Nat.reduceEqDiff, Nat.reduceLT, reduceCtorEq, cut, Int.reduceLE, Int.reduceLT, Int.reduceToNat, Int.reduceEq, Int.reduceNeg, Int.reduceMul, Int.reduceAdd, Int.reduceSub, bC.u, bB.u, bN.u, bL.u, bD.u]
    · have q : (l == []) = false := by rw [eqStr]; simp [hl]
      have q0 : (0 : Int) < (l.length : Int) := by have := List.length_pos_iff.2 hl; omega
      rw [if_neg hl]
      by_cases hd : l.getD 0 0 = 46
      · have q1 : (l.getD 0 0 == 46) = true := by rw [hd]; rfl
        rw [if_pos hd]
        simp (maxSteps := 99999999) (disch := first | decide | omega | exact ok_of (by kernel_rfl)) only [m41, h37, h39, q, q0, q1, eq46, Nat.reduceAdd, Nat.reduceMul, Nat.reduceLeDiff, Nat.reduceEqDiff, Nat.reduceLT, reduceCtorEq, cut, Int.reduceLE, Int.reduceLT, Int.reduceToNat, Int.reduceEq, Int.reduceNeg, Int.reduceMul, Int.reduceAdd, Int.reduceSub, bC.u, bB.u, bN.u, bL.u, bD.u]
      · have q1 : (l.getD 0 0 == 46) = false := by rw [beq_eq_false_iff_ne]; exact hd
        rw [if_neg hd]
        simp (maxSteps := 99999999) (disch := first | decide | omega | exact ok_of (by kernel_rfl)) only [m41, h37, h38, q, q0, q1, eq46, Nat.reduceAdd, Nat.reduceMul, Nat.reduceLeDiff, Nat.reduceEqDiff, Nat.reduceLT, reduceCtorEq, cut, Int.reduceLE, Int.reduceLT, Int.reduceToNat, Int.reduceEq, Int.reduceNeg, Int.reduceMul, Int.reduceAdd, Int.reduceSub, bC.u, bB.u, bN.u, bL.u, bD.u]

theorem atB_range : ∀ (r : List UInt8) (x : UInt8) (i : Nat), atB r x i = -1 ∨ ∃ j : Nat, atB r x i = ((i + j : Nat) : Int) ∧ j < r.length ∧ r[j]? = some x
  | [], x, i => .inl rfl
  | c :: r, x, i => by
    unfold atB
    by_cases h : c = x
    · rw [if_pos h]; exact .inr ⟨0, rfl, by simp, by rw [h]; rfl⟩
    · rw [if_neg h]
      rcases atB_range r x (i + 1) with h1 | ⟨j, h1, h2, h3⟩
      · exact .inl h1
      · exact .inr ⟨j + 1, by rw [h1]; omega, by simp; omega, by simpa using h3⟩
/-- Within a limit: a mail address that has its '@' at i. -/
def mailB (s l : List UInt8) : Bool := match atB s 64 0 with
  | .ofNat (i + 1) => machB (s.drop (i + 2)) && (match atB l 64 0 with
    | .ofNat k => decide (l.take k = s.take (i + 1)) && alikeB (l.drop (k + 1)) (s.drop (i + 2))
    | _ => underB (s.drop (i + 2)) l)
  | _ => false
theorem cut_from {s : List UInt8} {i : Int} {k : Nat} (h : i = (k : Int)) (hk : k ≤ s.length) : cut s (some (.int .i64 i)) none = some (s.drop k) := by
  subst h
  simp only [cut]
  rw [if_pos ⟨by omega, by omega, by omega⟩, Int.toNat_natCast, List.take_of_length_le (by simp)]
  simp
theorem cut_to {s : List UInt8} {i : Int} {k : Nat} (h : i = (k : Int)) (hk : k ≤ s.length) : cut s none (some (.int .i64 i)) = some (s.take k) := by
  subst h
  simp only [cut]
  rw [if_pos ⟨by omega, by omega, by omega⟩]
  simp
theorem c36 (s l : List UInt8) (hs : s.length < 1000000) (hll : l.length < 1000000) : Call Q 36 [.str s, .str l] = some (.bool (mailB s l)) := by
  have h1 := c75 s hs 64
  have h2 := c75 l hll 64
  rw [show ((64 : UInt8).toNat : Int) = 64 from rfl] at h1 h2
  unfold mailB
  rw [Call_fn Q (m := m36) rfl rfl]
  rcases atB_range s 64 0 with e1 | ⟨i, e1, i1, _⟩
  · rw [e1] at h1 ⊢
    show _ = some (MV.bool false)
    simp (maxSteps := 99999999) (disch := first | decide | omega | exact ok_of (by kernel_rfl)) only [m36, h1, Nat.reduceAdd, Nat.reduceMul, Nat.reduceLeDiff, Nat.reduceEqDiff, Nat.reduceLT, reduceCtorEq, cut, Int.reduceLE, Int.reduceLT, Int.reduceToNat, Int.reduceEq, Int.reduceNeg, Int.reduceMul, Int.reduceAdd, Int.reduceSub, bC.u, bB.u, bN.u, bL.u, bD.u]
  · rw [Nat.zero_add] at e1
    rw [e1] at h1 ⊢
    cases i with
    | zero =>
      show _ = some (MV.bool false)
      simp (maxSteps := 99999999) (disch := first | decide | omega | exact ok_of (by kernel_rfl)) only [m36, h1, Nat.reduceAdd, Nat.reduceMul, Nat.reduceLeDiff, Nat.reduceEqDiff, Nat.reduceLT, reduceCtorEq, cut, Int.reduceLE, Int.reduceLT, Int.reduceToNat, Int.reduceEq, Int.reduceNeg, Int.reduceMul, Int.reduceAdd, Int.reduceSub, bC.u, bB.u, bN.u, bL.u, bD.u]
    | succ i =>
      have d1 : decide (((i + 1 : Nat) : Int) < 1) = false := by simp; omega
      have hc := cut_from (s := s) (i := ((i + 1 : Nat) : Int) + 1) (k := i + 2) (by omega) (by omega)
      have hlen : (s.drop (i + 2)).length < 1000000 := by rw [List.length_drop]; omega
      have h37 := c37 (s.drop (i + 2)) hlen
      have h41 := c41 (s.drop (i + 2)) l hlen
      show _ = some (MV.bool (machB (s.drop (i + 2)) && _))
      cases hm : machB (s.drop (i + 2))
      · rw [hm] at h37
        rw [Bool.false_and]
        simp (maxSteps := 99999999) (disch := first | decide | omega | exact ok_of (by kernel_rfl)) only [m36, h1, d1, hc, h37, Nat.reduceAdd, Nat.reduceMul, Nat.reduceLeDiff, Nat.reduceEqDiff, Nat.reduceLT, reduceCtorEq, Int.reduceLE, Int.reduceLT, Int.reduceToNat, Int.reduceEq, Int.reduceNeg, Int.reduceMul, Int.reduceAdd, Int.reduceSub, bC.u, bB.u, bN.u, bL.u, bD.u]
      · rw [hm] at h37
        rw [Bool.true_and]
        rcases atB_range l 64 0 with e2 | ⟨k, e2, k1, _⟩
        · rw [e2] at h2 ⊢
          show _ = some (MV.bool (underB (s.drop (i + 2)) l))
          simp (maxSteps := 99999999) (disch := first | decide | omega | exact ok_of (by kernel_rfl)) only [m36, h1, h2, d1, hc, h37, h41, Nat.reduceAdd, Nat.reduceMul, Nat.reduceLeDiff, Nat.reduceEqDiff, Nat.reduceLT, reduceCtorEq, Int.reduceLE, Int.reduceLT, Int.reduceToNat, Int.reduceEq, Int.reduceNeg, Int.reduceMul, Int.reduceAdd, Int.reduceSub, bC.u, bB.u, bN.u, bL.u, bD.u]
        · rw [Nat.zero_add] at e2
          rw [e2] at h2 ⊢
          show _ = some (MV.bool (decide (l.take k = s.take (i + 1)) && alikeB (l.drop (k + 1)) (s.drop (i + 2))))
          have d2 : decide ((0 : Int) ≤ (k : Int)) = true := by simp
          have hc2 := cut_to (s := l) (i := (k : Int)) (k := k) rfl (by omega)
          have hc3 := cut_to (s := s) (i := ((i + 1 : Nat) : Int)) (k := i + 1) rfl (by omega)
          have hc4 := cut_from (s := l) (i := (k : Int) + 1) (k := k + 1) (by omega) (by omega)
          have h38 := c38 (l.drop (k + 1)) (s.drop (i + 2)) (by rw [List.length_drop]; omega)
          cases hq : decide (l.take k = s.take (i + 1))
          · rw [← eqStr] at hq
            rw [Bool.false_and]
            simp (maxSteps := 99999999) (disch := first | decide | omega | exact ok_of (by kernel_rfl)) only [m36, h1, h2, d1, d2, hc, hc2, hc3, hc4, h37, h38, hq, Nat.reduceAdd, Nat.reduceMul, Nat.reduceLeDiff, Nat.reduceEqDiff, Nat.reduceLT, reduceCtorEq, Int.reduceLE, Int.reduceLT, Int.reduceToNat, Int.reduceEq, Int.reduceNeg, Int.reduceMul, Int.reduceAdd, Int.reduceSub, bC.u, bB.u, bN.u, bL.u, bR.u, bD.u]
          · rw [← eqStr] at hq
            rw [Bool.true_and]
            simp (maxSteps := 99999999) (disch := first | decide | omega | exact ok_of (by kernel_rfl)) only [m36, h1, h2, d1, d2, hc, hc2, hc3, hc4, h37, h38, hq, Nat.reduceAdd, Nat.reduceMul, Nat.reduceLeDiff, Nat.reduceEqDiff, Nat.reduceLT, reduceCtorEq, Int.reduceLE, Int.reduceLT, Int.reduceToNat, Int.reduceEq, Int.reduceNeg, Int.reduceMul, Int.reduceAdd, Int.reduceSub, bC.u, bB.u, bN.u, bL.u, bR.u, bD.u]
end Go.Mini
