/- Within, as the document has it, over Mini. -/
import Derived.Test.YtncpjcojnjbhlaaGreatDoorW0
namespace Go.Mini
open Go Go.Proofs.YtncpjcojnjbhlaaGreatDoor
set_option maxRecDepth 10000
set_option maxHeartbeats 40000000
set_option linter.unusedSimpArgs false


def uriB (s l : List UInt8) : Bool := if Lib.index s [58, 47, 47] = -1 then false else underB ((s.drop ((Lib.index s [58, 47, 47]).toNat + 3)).take (till (s.drop ((Lib.index s [58, 47, 47]).toNat + 3)))) l
def netI (s l : List UInt8) (i : Nat) : Bool := ((s.getD i 0 ^^^ l.getD i 0) &&& l.getD (s.length + i) 0) == 0
def netB (s l : List UInt8) : Bool := decide (2 * s.length = l.length) && (List.range s.length).all (netI s l)
def withK (k : Int) (t : List UInt8) (d : Dn) (t2 : List UInt8) (d2 : Dn) : Bool :=
  if k = 1 then mailB t t2 else if k = 2 then machB t && (t2 == [] || alikeB t t2 || endsB t (46 :: t2)) else if k = 6 then uriB t t2 else if k = 7 then netB t t2
  else decide (d2.length ≤ d.length) && decide (d.take d2.length = d2)
def withB (k : Int) (t : List UInt8) (d : Dn) (k2 : Int) (t2 : List UInt8) (d2 : Dn) : Bool :=
  decide (valE k t d false = 0) && decide (valE k2 t2 d2 true = 0) && decide (k = k2) && withK k t d t2 d2
theorem valR_shape (k : Int) (t : List UInt8) (d : Dn) (lim : Bool) : ∃ a b c e f, valR k t d lim = .tup [.agg [a, b, c, e, f], .int .i64 (valE k t d lim)] := by
  unfold valR valV zero5
  split
  · split
    · exact ⟨_, _, _, _, _, rfl⟩
    · exact ⟨_, _, _, _, _, rfl⟩
  · exact ⟨_, _, _, _, _, rfl⟩
def R11 : List (Nat × Option (Bool × Nat) × PK) := [(4, none, .other)]
def V11 (n i : Int) : List (Nat × MV) := [(2, .ptr 0 0), (3, .ptr 1 0), (11, .int .i64 n), (12, .int .i64 i)]
def O11 (k : Int) (t : List UInt8) (dl : List MV) (t2 : List UInt8) (dl2 : List MV) : List (Nat × Obj) := [(0, .cells [.int .i64 k, .str t, .sl 2 dl]), (1, .cells [.int .i64 k, .str t2, .sl 2 dl2])]
def K11 (K : List Item) : List Item := .blk 1 :: .code (.seq (.rg [⟨some (.v 4), .mv (.c (.bool true)), none⟩]) .ret) :: K
def g11 (s l : List UInt8) (_ : Unit) (i : Nat) : Unit ⊕ Unit := if netI s l i = true then .inl () else .inr ()
theorem fold11 (s l : List UInt8) : ∀ r : List Nat, (match foldE (g11 s l) () r with | .inl _ => true | .inr _ => false) = r.all (netI s l)
  | [] => rfl
  | i :: r => by
    have ih := fold11 s l r
    rw [List.all_cons, ← ih]
    rw [foldE_cons]
    cases h : netI s l i
    · rw [show g11 s l () i = .inr () by unfold g11; rw [h]; rfl]; rfl
    · rw [show g11 s l () i = .inl () by unfold g11; rw [h]; rfl]; rw [Bool.true_and]
theorem xo8 (x y : UInt8) : ((((x ^^^ y)) : UInt8).toNat : Int) = ((x ^^^ y).toNat : Int) := rfl
noncomputable def S11 (K : List Item) (k : Int) (t : List UInt8) (dl : List MV) (t2 : List UInt8) (dl2 : List MV) (_ : Unit) (i : Nat) : Option MV := fin R11 (RunL Q m11k0 m11b0 (K11 K) ⟨V11 t.length i, [], O11 k t dl t2 dl2, 3⟩)
theorem c11_step (K : List Item) (k : Int) (t : List UInt8) (dl : List MV) (t2 : List UInt8) (dl2 : List MV) (h2 : t2.length = 2 * t.length) (hs : t.length < 1000000) (u : Unit) (i j : Nat) (hg : (List.range t.length)[i]? = some j) :
    After (fun _ _ => True) (S11 K k t dl t2 dl2) (fun _ => some (.bool false)) (S11 K k t dl t2 dl2 u i) (i + 1) (g11 t t2 u j) := by
  obtain ⟨hi, hij⟩ := List.getElem?_eq_some_iff.1 hg
  simp only [List.length_range] at hi
  simp only [List.getElem_range] at hij
  subst hij
  have hn : netI t t2 i = (((t.getD i 0 ^^^ t2.getD i 0) &&& t2.getD (t.length + i) 0) == 0) := rfl
  have e1 : ((t.length : Int) + (i : Int)).toNat = t.length + i := by omega
  unfold g11
  rw [hn]
  split
  · rename_i hx1
    refine ⟨trivial, ?_⟩
    unfold S11
    obtain ⟨b', hb'⟩ : ∃ b', b' = m11b0 := ⟨_, rfl⟩
    rw [RunL_eq, show Item.lp m11k0 m11b0 = Item.lp m11k0 b' by rw [hb']]
    apply hide; intro rhs hrhs
    simp (maxSteps := 99999999) (disch := first | decide | omega | exact ok_of (by kernel_rfl)) only [m11b0, V11, K11, R11, O11, e1, hx1, if_pos, if_neg, Nat.reduceAdd, Nat.reduceMul, Nat.reduceLeDiff, Nat.reduceEqDiff, Nat.reduceLT, reduceCtorEq, cut, Int.reduceLE, Int.reduceLT, Int.reduceToNat, Int.reduceEq, Int.reduceNeg, Int.reduceMul, Int.reduceAdd, Int.reduceSub, bne, bC.u, bB.u, bN.u, bL.u, bR.u, bI.u, bD.u]
    repeat' ((first | refine finB ?_ ?_ | refine finG ?_ ?_ | refine finD ?_ ?_ | refine runB ?_ ?_ | refine runG ?_ ?_ | refine runD ?_ ?_) <;> intro hx <;> (try simp only [beq_iff_eq, beq_eq_false_iff_ne, ne_eq, beqt, beqf, decide_eq_true_eq, decide_eq_false_iff_not, Bool.not_eq_true', Bool.not_eq_false', Bool.not_not, Bool.not_eq_true, Bool.and_eq_true, Bool.or_eq_true, decide_true, decide_false, Bool.false_eq_true, reduceCtorEq] at hx) <;> (try simp (maxSteps := 99999999) (disch := first | decide | omega | exact ok_of (by kernel_rfl)) only [hx, m11b0, V11, K11, R11, O11, e1, hx1, if_pos, if_neg, Nat.reduceAdd, Nat.reduceMul, Nat.reduceLeDiff, Nat.reduceEqDiff, Nat.reduceLT, reduceCtorEq, cut, Int.reduceLE, Int.reduceLT, Int.reduceToNat, Int.reduceEq, Int.reduceNeg, Int.reduceMul, Int.reduceAdd, Int.reduceSub, bne, bC.u, bB.u, bN.u, bL.u, bR.u, bI.u, bD.u]))
    all_goals first | (exfalso; omega) | (subst hrhs; (subst hb'; refine (congrArg (fin _) (Run_lp Q _ _ _ _)).trans ?_; exact congrArg (fin R11) (RunL_canon (canon_cong (by kernel_rfl) (by kernel_rfl) (by kernel_rfl)))))

  · rename_i hx1
    rw [Bool.not_eq_true] at hx1
    simp only [After]
    unfold S11
    obtain ⟨b', hb'⟩ : ∃ b', b' = m11b0 := ⟨_, rfl⟩
    rw [RunL_eq, show Item.lp m11k0 m11b0 = Item.lp m11k0 b' by rw [hb']]
    apply hide; intro rhs hrhs
    simp (maxSteps := 99999999) (disch := first | decide | omega | exact ok_of (by kernel_rfl)) only [m11b0, V11, K11, R11, O11, e1, hx1, if_pos, if_neg, Nat.reduceAdd, Nat.reduceMul, Nat.reduceLeDiff, Nat.reduceEqDiff, Nat.reduceLT, reduceCtorEq, cut, Int.reduceLE, Int.reduceLT, Int.reduceToNat, Int.reduceEq, Int.reduceNeg, Int.reduceMul, Int.reduceAdd, Int.reduceSub, bne, bC.u, bB.u, bN.u, bL.u, bR.u, bI.u, bD.u]
    repeat' ((first | refine finB ?_ ?_ | refine finG ?_ ?_ | refine finD ?_ ?_ | refine runB ?_ ?_ | refine runG ?_ ?_ | refine runD ?_ ?_) <;> intro hx <;> (try simp only [beq_iff_eq, beq_eq_false_iff_ne, ne_eq, beqt, beqf, decide_eq_true_eq, decide_eq_false_iff_not, Bool.not_eq_true', Bool.not_eq_false', Bool.not_not, Bool.not_eq_true, Bool.and_eq_true, Bool.or_eq_true, decide_true, decide_false, Bool.false_eq_true, reduceCtorEq] at hx) <;> (try simp (maxSteps := 99999999) (disch := first | decide | omega | exact ok_of (by kernel_rfl)) only [hx, m11b0, V11, K11, R11, O11, e1, hx1, if_pos, if_neg, Nat.reduceAdd, Nat.reduceMul, Nat.reduceLeDiff, Nat.reduceEqDiff, Nat.reduceLT, reduceCtorEq, cut, Int.reduceLE, Int.reduceLT, Int.reduceToNat, Int.reduceEq, Int.reduceNeg, Int.reduceMul, Int.reduceAdd, Int.reduceSub, bne, bC.u, bB.u, bN.u, bL.u, bR.u, bI.u, bD.u]))
    all_goals first | (exfalso; omega) | (subst hrhs; rfl)

theorem c11_end (K : List Item) (k : Int) (t : List UInt8) (dl : List MV) (t2 : List UInt8) (dl2 : List MV) (n : Int) : fin R11 (RunL Q m11k0 m11b0 (K11 K) ⟨V11 n n, [], O11 k t dl t2 dl2, 3⟩) = some (.bool true) := by
  have hlt : decide (n < n) = false := by simp
  obtain ⟨b', hb'⟩ : ∃ b', b' = m11b0 := ⟨_, rfl⟩
  rw [RunL_eq, show Item.lp m11k0 m11b0 = Item.lp m11k0 b' by rw [hb']]
  apply hide; intro rhs hrhs
  simp (maxSteps := 99999999) (disch := first | decide | omega | exact ok_of (by kernel_rfl)) only [m11b0, V11, K11, R11, O11, hlt, if_pos, if_neg, Nat.reduceAdd, Nat.reduceMul, Nat.reduceLeDiff, Nat.reduceEqDiff, Nat.reduceLT, reduceCtorEq, cut, Int.reduceLE, Int.reduceLT, Int.reduceToNat, Int.reduceEq, Int.reduceNeg, Int.reduceMul, Int.reduceAdd, Int.reduceSub, bne, bC.u, bB.u, bN.u, bL.u, bR.u, bI.u, bD.u]
  repeat' ((first | refine finB ?_ ?_ | refine finG ?_ ?_ | refine finD ?_ ?_ | refine runB ?_ ?_ | refine runG ?_ ?_ | refine runD ?_ ?_) <;> intro hx <;> (try simp only [beq_iff_eq, beq_eq_false_iff_ne, ne_eq, beqt, beqf, decide_eq_true_eq, decide_eq_false_iff_not, Bool.not_eq_true', Bool.not_eq_false', Bool.not_not, Bool.not_eq_true, Bool.and_eq_true, Bool.or_eq_true, decide_true, decide_false, Bool.false_eq_true, reduceCtorEq] at hx) <;> (try simp (maxSteps := 99999999) (disch := first | decide | omega | exact ok_of (by kernel_rfl)) only [hx, m11b0, V11, K11, R11, O11, hlt, if_pos, if_neg, Nat.reduceAdd, Nat.reduceMul, Nat.reduceLeDiff, Nat.reduceEqDiff, Nat.reduceLT, reduceCtorEq, cut, Int.reduceLE, Int.reduceLT, Int.reduceToNat, Int.reduceEq, Int.reduceNeg, Int.reduceMul, Int.reduceAdd, Int.reduceSub, bne, bC.u, bB.u, bN.u, bL.u, bR.u, bI.u, bD.u]))
  all_goals first | (exfalso; omega) | (subst hrhs; rfl)

theorem c11_net (K : List Item) (k : Int) (t : List UInt8) (dl : List MV) (t2 : List UInt8) (dl2 : List MV) (h2 : t2.length = 2 * t.length) (hs : t.length < 1000000) :
    fin R11 (RunL Q m11k0 m11b0 (K11 K) ⟨V11 t.length (0 : Nat), [], O11 k t dl t2 dl2, 3⟩) = some (.bool (netB t t2)) := by
  have key := loopI (List.range t.length) (g11 t t2) (S11 K k t dl t2 dl2) (fun _ => some (.bool false)) (fun _ _ => True) (fun u i j _ hg => c11_step K k t dl t2 dl2 h2 hs u i j hg) () trivial
  have hf := fold11 t t2 (List.range t.length)
  unfold netB
  rw [decide_eq_true (by omega), Bool.true_and, ← hf]
  cases hn : foldE (g11 t t2) () (List.range t.length) with
  | inl n => rw [hn, List.length_range] at key; exact key.2.trans (c11_end ..)
  | inr c => rw [hn] at key; exact key
end Go.Mini
