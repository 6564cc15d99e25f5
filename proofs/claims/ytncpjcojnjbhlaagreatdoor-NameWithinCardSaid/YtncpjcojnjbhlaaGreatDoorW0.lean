/- Names as the document has them; names that are short. -/
import Derived.Test.YtncpjcojnjbhlaaGreatDoorG17
namespace Go.Mini
open Go Go.Proofs.YtncpjcojnjbhlaaGreatDoor
set_option maxRecDepth 10000
set_option maxHeartbeats 40000000
set_option linter.unusedSimpArgs false


def big : Nat := 281474976710656
def bigN (t : List UInt8) (d : Dn) : Prop := t.length < big ∧ d.length < big ∧ ∀ a ∈ d, a.1.length < big ∧ a.2.length < big
def R9 : List (Nat × Option (Bool × Nat) × PK) := [(2, none, .other)]
def V9 (dv : MV) (n m i : Int) : List (Nat × MV) := [(3, .int .i64 n), (14, dv), (15, .int .i64 m), (16, .int .i64 i)]
def K9 : List Item := [.blk 0, .code (.seq (.rg [⟨some (.t 32), .mv (.v 3), none⟩, ⟨some (.t 33), .bin .leq (.t 32) (.c (.int .i64 3000)), none⟩, ⟨some (.v 2), .mv (.t 33), none⟩]) .ret)]
def g9 (n : Int) (a : List UInt8 × List UInt8) : Int ⊕ Unit := if 3000 < n + ((a.1.length : Int) + (a.2.length : Int)) then .inr () else .inl (n + ((a.1.length : Int) + (a.2.length : Int)))
def shortB (t : List UInt8) (d : Dn) : Bool := match foldE g9 ((t.length : Int) + (d.length : Int)) d with
  | .inl n => decide (n ≤ 3000)
  | .inr _ => false
theorem c9_end (dv : MV) (n m : Int) : fin R9 (RunL Q m9k0 m9b0 K9 ⟨V9 dv n m m, [], [], 1⟩) = some (.bool (decide (n ≤ 3000))) := by
  have hlt : decide (m < m) = false := by simp
  obtain ⟨b', hb'⟩ : ∃ b', b' = m9b0 := ⟨_, rfl⟩
  rw [RunL_eq, show Item.lp m9k0 m9b0 = Item.lp m9k0 b' by rw [hb']]
  apply hide; intro rhs hrhs
  simp (maxSteps := 99999999) (disch := first | decide | omega | exact ok_of (by kernel_rfl)) only [m9b0, V9, K9, R9, hlt, if_pos, if_neg, Nat.reduceAdd, Nat.reduceMul, Nat.reduceLeDiff, Nat.reduceEqDiff, Nat.reduceLT, reduceCtorEq, cut, Int.reduceLE, Int.reduceLT, Int.reduceToNat, Int.reduceEq, Int.reduceNeg, Int.reduceMul, Int.reduceAdd, Int.reduceSub, bne, bC.u, bB.u, bN.u, bL.u, bR.u, bI.u, bD.u]
  repeat' ((first | refine finB ?_ ?_ | refine finG ?_ ?_ | refine finD ?_ ?_ | refine runB ?_ ?_ | refine runG ?_ ?_ | refine runD ?_ ?_) <;> intro hx <;> (try simp only [beq_iff_eq, beq_eq_false_iff_ne, ne_eq, beqt, beqf, decide_eq_true_eq, decide_eq_false_iff_not, Bool.not_eq_true', Bool.not_eq_false', Bool.not_not, Bool.not_eq_true, Bool.and_eq_true, Bool.or_eq_true, decide_true, decide_false, Bool.false_eq_true, reduceCtorEq] at hx) <;> (try simp (maxSteps := 99999999) (disch := first | decide | omega | exact ok_of (by kernel_rfl)) only [hx, m9b0, V9, K9, R9, hlt, if_pos, if_neg, Nat.reduceAdd, Nat.reduceMul, Nat.reduceLeDiff, Nat.reduceEqDiff, Nat.reduceLT, reduceCtorEq, cut, Int.reduceLE, Int.reduceLT, Int.reduceToNat, Int.reduceEq, Int.reduceNeg, Int.reduceMul, Int.reduceAdd, Int.reduceSub, bne, bC.u, bB.u, bN.u, bL.u, bR.u, bI.u, bD.u]))
  all_goals first | (exfalso; omega) | (subst hrhs; rfl)

noncomputable def S9 (d : Dn) (n : Int) (i : Nat) : Option MV := fin R9 (RunL Q m9k0 m9b0 K9 ⟨V9 (.sl 2 (attrs d)) n d.length i, [], [], 1⟩)
theorem c9_step (d : Dn) (hb : bigN [] d) (n : Int) (i : Nat) (a : List UInt8 × List UInt8) (hI : 0 ≤ n ∧ n < 1125899906842624) (hg : d[i]? = some a) :
    After (fun n _ => 0 ≤ n ∧ n < 1125899906842624) (S9 d) (fun _ => some (.bool false)) (S9 d n i) (i + 1) (g9 n a) := by
  have hi := (List.getElem?_eq_some_iff.1 hg).1
  have hg' := attrs_get hg
  have hal := attrs_length d
  obtain ⟨_, b1, b2⟩ := hb
  have b3 := b2 a (List.mem_of_getElem? hg)
  simp only [big] at b1 b3
  unfold g9
  split
  · simp only [After]
    unfold S9
    obtain ⟨b', hb'⟩ : ∃ b', b' = m9b0 := ⟨_, rfl⟩
    rw [RunL_eq, show Item.lp m9k0 m9b0 = Item.lp m9k0 b' by rw [hb']]
    apply hide; intro rhs hrhs
    simp (maxSteps := 99999999) (disch := first | decide | omega | exact ok_of (by kernel_rfl)) only [m9b0, V9, K9, R9, hg', hal, if_pos, if_neg, Nat.reduceAdd, Nat.reduceMul, Nat.reduceLeDiff, Nat.reduceEqDiff, Nat.reduceLT, reduceCtorEq, cut, Int.reduceLE, Int.reduceLT, Int.reduceToNat, Int.reduceEq, Int.reduceNeg, Int.reduceMul, Int.reduceAdd, Int.reduceSub, bne, bC.u, bB.u, bN.u, bL.u, bR.u, bI.u, bD.u]
    repeat' ((first | refine finB ?_ ?_ | refine finG ?_ ?_ | refine finD ?_ ?_ | refine runB ?_ ?_ | refine runG ?_ ?_ | refine runD ?_ ?_) <;> intro hx <;> (try simp only [beq_iff_eq, beq_eq_false_iff_ne, ne_eq, beqt, beqf, decide_eq_true_eq, decide_eq_false_iff_not, Bool.not_eq_true', Bool.not_eq_false', Bool.not_not, Bool.not_eq_true, Bool.and_eq_true, Bool.or_eq_true, decide_true, decide_false, Bool.false_eq_true, reduceCtorEq] at hx) <;> (try simp (maxSteps := 99999999) (disch := first | decide | omega | exact ok_of (by kernel_rfl)) only [hx, m9b0, V9, K9, R9, hg', hal, if_pos, if_neg, Nat.reduceAdd, Nat.reduceMul, Nat.reduceLeDiff, Nat.reduceEqDiff, Nat.reduceLT, reduceCtorEq, cut, Int.reduceLE, Int.reduceLT, Int.reduceToNat, Int.reduceEq, Int.reduceNeg, Int.reduceMul, Int.reduceAdd, Int.reduceSub, bne, bC.u, bB.u, bN.u, bL.u, bR.u, bI.u, bD.u]))
    all_goals first | (exfalso; omega) | (subst hrhs; rfl)

  · refine ⟨⟨by omega, by omega⟩, ?_⟩
    unfold S9
    obtain ⟨b', hb'⟩ : ∃ b', b' = m9b0 := ⟨_, rfl⟩
    rw [RunL_eq, show Item.lp m9k0 m9b0 = Item.lp m9k0 b' by rw [hb']]
    apply hide; intro rhs hrhs
    simp (maxSteps := 99999999) (disch := first | decide | omega | exact ok_of (by kernel_rfl)) only [m9b0, V9, K9, R9, hg', hal, if_pos, if_neg, Nat.reduceAdd, Nat.reduceMul, Nat.reduceLeDiff, Nat.reduceEqDiff, Nat.reduceLT, reduceCtorEq, cut, Int.reduceLE, Int.reduceLT, Int.reduceToNat, Int.reduceEq, Int.reduceNeg, Int.reduceMul, Int.reduceAdd, Int.reduceSub, bne, bC.u, bB.u, bN.u, bL.u, bR.u, bI.u, bD.u]
    repeat' ((first | refine finB ?_ ?_ | refine finG ?_ ?_ | refine finD ?_ ?_ | refine runB ?_ ?_ | refine runG ?_ ?_ | refine runD ?_ ?_) <;> intro hx <;> (try simp only [beq_iff_eq, beq_eq_false_iff_ne, ne_eq, beqt, beqf, decide_eq_true_eq, decide_eq_false_iff_not, Bool.not_eq_true', Bool.not_eq_false', Bool.not_not, Bool.not_eq_true, Bool.and_eq_true, Bool.or_eq_true, decide_true, decide_false, Bool.false_eq_true, reduceCtorEq] at hx) <;> (try simp (maxSteps := 99999999) (disch := first | decide | omega | exact ok_of (by kernel_rfl)) only [hx, m9b0, V9, K9, R9, hg', hal, if_pos, if_neg, Nat.reduceAdd, Nat.reduceMul, Nat.reduceLeDiff, Nat.reduceEqDiff, Nat.reduceLT, reduceCtorEq, cut, Int.reduceLE, Int.reduceLT, Int.reduceToNat, Int.reduceEq, Int.reduceNeg, Int.reduceMul, Int.reduceAdd, Int.reduceSub, bne, bC.u, bB.u, bN.u, bL.u, bR.u, bI.u, bD.u]))
    all_goals first | (exfalso; omega) | (subst hrhs; (subst hb'; refine (congrArg (fin _) (Run_lp Q _ _ _ _)).trans ?_; exact congrArg (fin R9) (RunL_canon (canon_cong (by kernel_rfl) (by kernel_rfl) (by kernel_rfl)))))

theorem c9 (k : Int) (t : List UInt8) (dv : MV) (d : Dn) (hdv : isDir dv d) (hb : bigN t d) : Call Q 9 [gM k t dv] = some (.bool (shortB t d)) := by
  have hal := attrs_length d
  obtain ⟨h0, h1, h2⟩ := hb
  simp only [big] at h0 h1
  rw [Call_fn Q (m := m9) rfl rfl]
  rcases hdv with rfl | ⟨rfl, rfl⟩
  · have key := loopI (β := Int) d g9 (fun n i => fin R9 (RunL Q m9k0 m9b0 K9 ⟨V9 (.sl 2 (attrs d)) n d.length i, [], [], 1⟩)) (fun _ => some (.bool false)) (fun n _ => 0 ≤ n ∧ n < 1125899906842624)
      (fun n i a hI hg => c9_step d ⟨by simp [big], h1, h2⟩ n i a hI hg) ((t.length : Int) + (d.length : Int)) ⟨by omega, by omega⟩
    have fact : fin R9 (RunL Q m9k0 m9b0 K9 ⟨V9 (.sl 2 (attrs d)) ((t.length : Int) + (d.length : Int)) d.length (0 : Nat), [], [], 1⟩) = some (.bool (shortB t d)) := by
      unfold shortB
      cases hn : foldE g9 ((t.length : Int) + (d.length : Int)) d with
      | inl n => rw [hn] at key; exact key.2.trans (c9_end _ _ _)
      | inr c => rw [hn] at key; exact key
    rw [← fact]
    apply hide; intro rhs hrhs
    simp (maxSteps := 99999999) (disch := first | decide | omega | exact ok_of (by kernel_rfl)) only [m9, gM, Run_loop, hal, Nat.reduceAdd, Nat.reduceMul, Nat.reduceLeDiff, Nat.reduceEqDiff, Nat.reduceLT, reduceCtorEq, cut, Int.reduceLE, Int.reduceLT, Int.reduceToNat, Int.reduceEq, Int.reduceNeg, Int.reduceMul, Int.reduceAdd, Int.reduceSub, bne, bC.u, bB.u, bN.u, bL.u, bR.u, bI.u, bD.u]
    repeat' ((first | refine finB ?_ ?_ | refine finG ?_ ?_ | refine finD ?_ ?_ | refine runB ?_ ?_ | refine runG ?_ ?_ | refine runD ?_ ?_) <;> intro hx <;> (try simp only [beq_iff_eq, beq_eq_false_iff_ne, ne_eq, beqt, beqf, decide_eq_true_eq, decide_eq_false_iff_not, Bool.not_eq_true', Bool.not_eq_false', Bool.not_not, Bool.not_eq_true, Bool.and_eq_true, Bool.or_eq_true, decide_true, decide_false, Bool.false_eq_true, reduceCtorEq] at hx) <;> (try simp (maxSteps := 99999999) (disch := first | decide | omega | exact ok_of (by kernel_rfl)) only [hx, m9, gM, Run_loop, hal, Nat.reduceAdd, Nat.reduceMul, Nat.reduceLeDiff, Nat.reduceEqDiff, Nat.reduceLT, reduceCtorEq, cut, Int.reduceLE, Int.reduceLT, Int.reduceToNat, Int.reduceEq, Int.reduceNeg, Int.reduceMul, Int.reduceAdd, Int.reduceSub, bne, bC.u, bB.u, bN.u, bL.u, bR.u, bI.u, bD.u]))
    all_goals first | (exfalso; omega) | (subst hrhs; exact congrArg (fin R9) (RunL_canon (canon_cong (by kernel_rfl) (by kernel_rfl) (by kernel_rfl))))

  · have fact := c9_end .nilsl (t.length : Int) 0
    have e : shortB t [] = decide ((t.length : Int) ≤ 3000) := by simp [shortB, foldE]
    rw [e, ← fact]
    apply hide; intro rhs hrhs
    simp (maxSteps := 99999999) (disch := first | decide | omega | exact ok_of (by kernel_rfl)) only [m9, gM, Run_loop, if_pos, if_neg, Nat.reduceAdd, Nat.reduceMul, Nat.reduceLeDiff, Nat.reduceEqDiff, Nat.reduceLT, reduceCtorEq, cut, Int.reduceLE, Int.reduceLT, Int.reduceToNat, Int.reduceEq, Int.reduceNeg, Int.reduceMul, Int.reduceAdd, Int.reduceSub, bne, bC.u, bB.u, bN.u, bL.u, bR.u, bI.u, bD.u]
    repeat' ((first | refine finB ?_ ?_ | refine finG ?_ ?_ | refine finD ?_ ?_ | refine runB ?_ ?_ | refine runG ?_ ?_ | refine runD ?_ ?_) <;> intro hx <;> (try simp only [beq_iff_eq, beq_eq_false_iff_ne, ne_eq, beqt, beqf, decide_eq_true_eq, decide_eq_false_iff_not, Bool.not_eq_true', Bool.not_eq_false', Bool.not_not, Bool.not_eq_true, Bool.and_eq_true, Bool.or_eq_true, decide_true, decide_false, Bool.false_eq_true, reduceCtorEq] at hx) <;> (try simp (maxSteps := 99999999) (disch := first | decide | omega | exact ok_of (by kernel_rfl)) only [hx, m9, gM, Run_loop, if_pos, if_neg, Nat.reduceAdd, Nat.reduceMul, Nat.reduceLeDiff, Nat.reduceEqDiff, Nat.reduceLT, reduceCtorEq, cut, Int.reduceLE, Int.reduceLT, Int.reduceToNat, Int.reduceEq, Int.reduceNeg, Int.reduceMul, Int.reduceAdd, Int.reduceSub, bne, bC.u, bB.u, bN.u, bL.u, bR.u, bI.u, bD.u]))
    all_goals first | (exfalso; omega) | (subst hrhs; exact congrArg (fin R9) (RunL_canon (canon_cong (by kernel_rfl) (by kernel_rfl) (by kernel_rfl))))


/-! ### DNs -/
def R21 : List (Nat × Option (Bool × Nat) × PK) := [(2, none, .el 2)]
def V21 (d : Dn) (a i : Nat) : List (Nat × MV) := [(3, .own a i), (6, .sl 2 (attrs d)), (7, .int .i64 (d.length : Int)), (8, .int .i64 (i : Int))]
def O21 (l : List MV) (a : Nat) : List (Nat × Obj) := [(a, .el 2 l false)]
def K21 : List Item := [.blk 0, .code (.seq (.rg [⟨some (.t 21), .mv (.v 3), none⟩, ⟨some (.v 2), .mv (.t 21), none⟩]) .ret)]
noncomputable def S21 (d : Dn) (l : List MV) (i : Nat) : Option MV := fin R21 (RunL Q m21k0 m21b0 K21 ⟨V21 d (if i = 0 then 1 else 0) i, [], O21 l (if i = 0 then 1 else 0), 2⟩)
theorem S21_step (d : Dn) (hb : d.length < 1000000) (l : List MV) (i : Nat) (x : List UInt8 × List UInt8) (hl : l.length = i) (hg : d[i]? = some x) : S21 d l i = S21 d (l ++ [.agg [.str x.1, .str x.2]]) (i + 1) := by
  have hi := (List.getElem?_eq_some_iff.1 hg).1
  have hg' := attrs_get hg
  have hal := attrs_length d
  subst hl
  unfold S21
  rw [if_neg (show ¬ l.length + 1 = 0 by omega)]
  split
  · rename_i h0
    rw [h0] at hi hg' ⊢
    have : l = [] := List.length_eq_zero_iff.1 h0
    subst this
    obtain ⟨b', hb'⟩ : ∃ b', b' = m21b0 := ⟨_, rfl⟩
    rw [RunL_eq, show Item.lp m21k0 m21b0 = Item.lp m21k0 b' by rw [hb']]
    apply hide; intro rhs hrhs
    simp (maxSteps := 99999999) (disch := first | decide | omega | exact ok_of (by kernel_rfl)) only [m21b0, V21, K21, R21, O21, hg', hal, if_pos, if_neg, Nat.reduceAdd, Nat.reduceMul, Nat.reduceLeDiff, Nat.reduceEqDiff, Nat.reduceLT, reduceCtorEq, cut, Int.reduceLE, Int.reduceLT, Int.reduceToNat, Int.reduceEq, Int.reduceNeg, Int.reduceMul, Int.reduceAdd, Int.reduceSub, bne, bC.u, bB.u, bN.u, bL.u, bR.u, bI.u, bD.u]
    repeat' ((first | refine finB ?_ ?_ | refine finG ?_ ?_ | refine finD ?_ ?_ | refine runB ?_ ?_ | refine runG ?_ ?_ | refine runD ?_ ?_) <;> intro hx <;> (try simp only [beq_iff_eq, beq_eq_false_iff_ne, ne_eq, beqt, beqf, decide_eq_true_eq, decide_eq_false_iff_not, Bool.not_eq_true', Bool.not_eq_false', Bool.not_not, Bool.not_eq_true, Bool.and_eq_true, Bool.or_eq_true, decide_true, decide_false, Bool.false_eq_true, reduceCtorEq] at hx) <;> (try simp (maxSteps := 99999999) (disch := first | decide | omega | exact ok_of (by kernel_rfl)) only [hx, m21b0, V21, K21, R21, O21, hg', hal, if_pos, if_neg, Nat.reduceAdd, Nat.reduceMul, Nat.reduceLeDiff, Nat.reduceEqDiff, Nat.reduceLT, reduceCtorEq, cut, Int.reduceLE, Int.reduceLT, Int.reduceToNat, Int.reduceEq, Int.reduceNeg, Int.reduceMul, Int.reduceAdd, Int.reduceSub, bne, bC.u, bB.u, bN.u, bL.u, bR.u, bI.u, bD.u]))
    all_goals first | (exfalso; omega) | (subst hrhs; (subst hb'; refine (congrArg (fin _) (Run_lp Q _ _ _ _)).trans ?_; exact congrArg (fin R21) (RunL_canon (canon_cong (by kernel_rfl) (by kernel_rfl) (by kernel_rfl)))))

  · rename_i h0
    obtain ⟨b', hb'⟩ : ∃ b', b' = m21b0 := ⟨_, rfl⟩
    rw [RunL_eq, show Item.lp m21k0 m21b0 = Item.lp m21k0 b' by rw [hb']]
    apply hide; intro rhs hrhs
    simp (maxSteps := 99999999) (disch := first | decide | omega | exact ok_of (by kernel_rfl)) only [m21b0, V21, K21, R21, O21, hg', hal, if_pos, if_neg, Nat.reduceAdd, Nat.reduceMul, Nat.reduceLeDiff, Nat.reduceEqDiff, Nat.reduceLT, reduceCtorEq, cut, Int.reduceLE, Int.reduceLT, Int.reduceToNat, Int.reduceEq, Int.reduceNeg, Int.reduceMul, Int.reduceAdd, Int.reduceSub, bne, bC.u, bB.u, bN.u, bL.u, bR.u, bI.u, bD.u]
    repeat' ((first | refine finB ?_ ?_ | refine finG ?_ ?_ | refine finD ?_ ?_ | refine runB ?_ ?_ | refine runG ?_ ?_ | refine runD ?_ ?_) <;> intro hx <;> (try simp only [beq_iff_eq, beq_eq_false_iff_ne, ne_eq, beqt, beqf, decide_eq_true_eq, decide_eq_false_iff_not, Bool.not_eq_true', Bool.not_eq_false', Bool.not_not, Bool.not_eq_true, Bool.and_eq_true, Bool.or_eq_true, decide_true, decide_false, Bool.false_eq_true, reduceCtorEq] at hx) <;> (try simp (maxSteps := 99999999) (disch := first | decide | omega | exact ok_of (by kernel_rfl)) only [hx, m21b0, V21, K21, R21, O21, hg', hal, if_pos, if_neg, Nat.reduceAdd, Nat.reduceMul, Nat.reduceLeDiff, Nat.reduceEqDiff, Nat.reduceLT, reduceCtorEq, cut, Int.reduceLE, Int.reduceLT, Int.reduceToNat, Int.reduceEq, Int.reduceNeg, Int.reduceMul, Int.reduceAdd, Int.reduceSub, bne, bC.u, bB.u, bN.u, bL.u, bR.u, bI.u, bD.u]))
    all_goals first | (exfalso; omega) | (subst hrhs; (subst hb'; refine (congrArg (fin _) (Run_lp Q _ _ _ _)).trans ?_; exact congrArg (fin R21) (RunL_canon (canon_cong (by kernel_rfl) (by kernel_rfl) (by kernel_rfl)))))

theorem S21_end (d : Dn) (l : List MV) (hl : l.length = d.length) : S21 d l d.length = some (.sl 2 l) := by
  have hlt : decide ((d.length : Int) < (d.length : Int)) = false := by simp
  unfold S21
  split
  · rename_i h0
    rw [h0] at hl ⊢
    obtain ⟨b', hb'⟩ : ∃ b', b' = m21b0 := ⟨_, rfl⟩
    rw [RunL_eq, show Item.lp m21k0 m21b0 = Item.lp m21k0 b' by rw [hb']]
    apply hide; intro rhs hrhs
    simp (maxSteps := 99999999) (disch := first | decide | omega | exact ok_of (by kernel_rfl)) only [m21b0, V21, K21, R21, O21, hl, if_pos, if_neg, Nat.reduceAdd, Nat.reduceMul, Nat.reduceLeDiff, Nat.reduceEqDiff, Nat.reduceLT, reduceCtorEq, cut, Int.reduceLE, Int.reduceLT, Int.reduceToNat, Int.reduceEq, Int.reduceNeg, Int.reduceMul, Int.reduceAdd, Int.reduceSub, bne, bC.u, bB.u, bN.u, bL.u, bR.u, bI.u, bD.u]
    repeat' ((first | refine finB ?_ ?_ | refine finG ?_ ?_ | refine finD ?_ ?_ | refine runB ?_ ?_ | refine runG ?_ ?_ | refine runD ?_ ?_) <;> intro hx <;> (try simp only [beq_iff_eq, beq_eq_false_iff_ne, ne_eq, beqt, beqf, decide_eq_true_eq, decide_eq_false_iff_not, Bool.not_eq_true', Bool.not_eq_false', Bool.not_not, Bool.not_eq_true, Bool.and_eq_true, Bool.or_eq_true, decide_true, decide_false, Bool.false_eq_true, reduceCtorEq] at hx) <;> (try simp (maxSteps := 99999999) (disch := first | decide | omega | exact ok_of (by kernel_rfl)) only [hx, m21b0, V21, K21, R21, O21, hl, if_pos, if_neg, Nat.reduceAdd, Nat.reduceMul, Nat.reduceLeDiff, Nat.reduceEqDiff, Nat.reduceLT, reduceCtorEq, cut, Int.reduceLE, Int.reduceLT, Int.reduceToNat, Int.reduceEq, Int.reduceNeg, Int.reduceMul, Int.reduceAdd, Int.reduceSub, bne, bC.u, bB.u, bN.u, bL.u, bR.u, bI.u, bD.u]))
    all_goals first | (exfalso; omega) | (subst hrhs; rfl)

  · rename_i h0
    obtain ⟨b', hb'⟩ : ∃ b', b' = m21b0 := ⟨_, rfl⟩
    rw [RunL_eq, show Item.lp m21k0 m21b0 = Item.lp m21k0 b' by rw [hb']]
    apply hide; intro rhs hrhs
    simp (maxSteps := 99999999) (disch := first | decide | omega | exact ok_of (by kernel_rfl)) only [m21b0, V21, K21, R21, O21, hlt, hl, if_pos, if_neg, Nat.reduceAdd, Nat.reduceMul, Nat.reduceLeDiff, Nat.reduceEqDiff, Nat.reduceLT, reduceCtorEq, cut, Int.reduceLE, Int.reduceLT, Int.reduceToNat, Int.reduceEq, Int.reduceNeg, Int.reduceMul, Int.reduceAdd, Int.reduceSub, bne, bC.u, bB.u, bN.u, bL.u, bR.u, bI.u, bD.u]
    repeat' ((first | refine finB ?_ ?_ | refine finG ?_ ?_ | refine finD ?_ ?_ | refine runB ?_ ?_ | refine runG ?_ ?_ | refine runD ?_ ?_) <;> intro hx <;> (try simp only [beq_iff_eq, beq_eq_false_iff_ne, ne_eq, beqt, beqf, decide_eq_true_eq, decide_eq_false_iff_not, Bool.not_eq_true', Bool.not_eq_false', Bool.not_not, Bool.not_eq_true, Bool.and_eq_true, Bool.or_eq_true, decide_true, decide_false, Bool.false_eq_true, reduceCtorEq] at hx) <;> (try simp (maxSteps := 99999999) (disch := first | decide | omega | exact ok_of (by kernel_rfl)) only [hx, m21b0, V21, K21, R21, O21, hlt, hl, if_pos, if_neg, Nat.reduceAdd, Nat.reduceMul, Nat.reduceLeDiff, Nat.reduceEqDiff, Nat.reduceLT, reduceCtorEq, cut, Int.reduceLE, Int.reduceLT, Int.reduceToNat, Int.reduceEq, Int.reduceNeg, Int.reduceMul, Int.reduceAdd, Int.reduceSub, bne, bC.u, bB.u, bN.u, bL.u, bR.u, bI.u, bD.u]))
    all_goals first | (exfalso; omega) | (subst hrhs; rfl)

theorem S21_all (d : Dn) (hb : d.length < 1000000) : S21 d [] 0 = some (.sl 2 (attrs d)) :=
  (loopM d attr (S21 d) (fun l i x hl hg => S21_step d hb l i x hl hg)).trans (S21_end d _ (by simp))
theorem c21 (dv : MV) (d : Dn) (hdv : isDir dv d) (hb : d.length < 1000000) : Call Q 21 [dv] = some (.sl 2 (attrs d)) := by
  have hal := attrs_length d
  have key := S21_all d hb
  unfold S21 at key
  rw [if_pos rfl] at key
  have main : Call Q 21 [.sl 2 (attrs d)] = some (.sl 2 (attrs d)) := by
    rw [Call_fn Q (m := m21) rfl rfl]
    refine Eq.trans ?_ key
    apply hide; intro rhs hrhs
    simp (maxSteps := 99999999) (disch := first | decide | omega | exact ok_of (by kernel_rfl)) only [m21, Run_loop, hal, Nat.reduceAdd, Nat.reduceMul, Nat.reduceLeDiff, Nat.reduceEqDiff, Nat.reduceLT, reduceCtorEq, cut, Int.reduceLE, Int.reduceLT, Int.reduceToNat, Int.reduceEq, Int.reduceNeg, Int.reduceMul, Int.reduceAdd, Int.reduceSub, bne, bC.u, bB.u, bN.u, bL.u, bR.u, bI.u, bD.u]
    repeat' ((first | refine finB ?_ ?_ | refine finG ?_ ?_ | refine finD ?_ ?_ | refine runB ?_ ?_ | refine runG ?_ ?_ | refine runD ?_ ?_) <;> intro hx <;> (try simp only [beq_iff_eq, beq_eq_false_iff_ne, ne_eq, beqt, beqf, decide_eq_true_eq, decide_eq_false_iff_not, Bool.not_eq_true', Bool.not_eq_false', Bool.not_not, Bool.not_eq_true, Bool.and_eq_true, Bool.or_eq_true, decide_true, decide_false, Bool.false_eq_true, reduceCtorEq] at hx) <;> (try simp (maxSteps := 99999999) (disch := first | decide | omega | exact ok_of (by kernel_rfl)) only [hx, m21, Run_loop, hal, Nat.reduceAdd, Nat.reduceMul, Nat.reduceLeDiff, Nat.reduceEqDiff, Nat.reduceLT, reduceCtorEq, cut, Int.reduceLE, Int.reduceLT, Int.reduceToNat, Int.reduceEq, Int.reduceNeg, Int.reduceMul, Int.reduceAdd, Int.reduceSub, bne, bC.u, bB.u, bN.u, bL.u, bR.u, bI.u, bD.u]))
    all_goals first | (exfalso; omega) | (subst hrhs; exact congrArg (fin R21) (RunL_canon (canon_cong (by kernel_rfl) (by kernel_rfl) (by kernel_rfl))))

  rcases hdv with rfl | ⟨rfl, rfl⟩
  · exact main
  · rw [call_nil 21 m21 rfl rfl rfl]; exact main
theorem c12 (k : Int) (t : List UInt8) (dv : MV) (d : Dn) (hdv : isDir dv d) (hb : d.length < 1000000) : Call Q 12 [gM k t dv] = some (gM k t (.sl 2 (attrs d))) := by
  have h21 := c21 dv d hdv hb
  rw [Call_fn Q (m := m12) rfl rfl]
  rcases hdv with rfl | ⟨rfl, rfl⟩
  · apply hide; intro rhs hrhs
    simp (maxSteps := 99999999) (disch := first | decide | omega | exact ok_of (by kernel_rfl)) only [m12, gM, h21, if_pos, if_neg, Nat.reduceAdd, Nat.reduceMul, Nat.reduceLeDiff, Nat.reduceEqDiff, Nat.reduceLT, reduceCtorEq, cut, Int.reduceLE, Int.reduceLT, Int.reduceToNat, Int.reduceEq, Int.reduceNeg, Int.reduceMul, Int.reduceAdd, Int.reduceSub, bne, bC.u, bB.u, bN.u, bL.u, bR.u, bI.u, bD.u]
    repeat' ((first | refine finB ?_ ?_ | refine finG ?_ ?_ | refine finD ?_ ?_ | refine runB ?_ ?_ | refine runG ?_ ?_ | refine runD ?_ ?_) <;> intro hx <;> (try simp only [beq_iff_eq, beq_eq_false_iff_ne, ne_eq, beqt, beqf, decide_eq_true_eq, decide_eq_false_iff_not, Bool.not_eq_true', Bool.not_eq_false', Bool.not_not, Bool.not_eq_true, Bool.and_eq_true, Bool.or_eq_true, decide_true, decide_false, Bool.false_eq_true, reduceCtorEq] at hx) <;> (try simp (maxSteps := 99999999) (disch := first | decide | omega | exact ok_of (by kernel_rfl)) only [hx, m12, gM, h21, if_pos, if_neg, Nat.reduceAdd, Nat.reduceMul, Nat.reduceLeDiff, Nat.reduceEqDiff, Nat.reduceLT, reduceCtorEq, cut, Int.reduceLE, Int.reduceLT, Int.reduceToNat, Int.reduceEq, Int.reduceNeg, Int.reduceMul, Int.reduceAdd, Int.reduceSub, bne, bC.u, bB.u, bN.u, bL.u, bR.u, bI.u, bD.u]))
    all_goals first | (exfalso; omega) | (subst hrhs; rfl)

  · apply hide; intro rhs hrhs
    simp (maxSteps := 99999999) (disch := first | decide | omega | exact ok_of (by kernel_rfl)) only [m12, gM, h21, if_pos, if_neg, Nat.reduceAdd, Nat.reduceMul, Nat.reduceLeDiff, Nat.reduceEqDiff, Nat.reduceLT, reduceCtorEq, cut, Int.reduceLE, Int.reduceLT, Int.reduceToNat, Int.reduceEq, Int.reduceNeg, Int.reduceMul, Int.reduceAdd, Int.reduceSub, bne, bC.u, bB.u, bN.u, bL.u, bR.u, bI.u, bD.u]
    repeat' ((first | refine finB ?_ ?_ | refine finG ?_ ?_ | refine finD ?_ ?_ | refine runB ?_ ?_ | refine runG ?_ ?_ | refine runD ?_ ?_) <;> intro hx <;> (try simp only [beq_iff_eq, beq_eq_false_iff_ne, ne_eq, beqt, beqf, decide_eq_true_eq, decide_eq_false_iff_not, Bool.not_eq_true', Bool.not_eq_false', Bool.not_not, Bool.not_eq_true, Bool.and_eq_true, Bool.or_eq_true, decide_true, decide_false, Bool.false_eq_true, reduceCtorEq] at hx) <;> (try simp (maxSteps := 99999999) (disch := first | decide | omega | exact ok_of (by kernel_rfl)) only [hx, m12, gM, h21, if_pos, if_neg, Nat.reduceAdd, Nat.reduceMul, Nat.reduceLeDiff, Nat.reduceEqDiff, Nat.reduceLT, reduceCtorEq, cut, Int.reduceLE, Int.reduceLT, Int.reduceToNat, Int.reduceEq, Int.reduceNeg, Int.reduceMul, Int.reduceAdd, Int.reduceSub, bne, bC.u, bB.u, bN.u, bL.u, bR.u, bI.u, bD.u]))
    all_goals first | (exfalso; omega) | (subst hrhs; rfl)

end Go.Mini
