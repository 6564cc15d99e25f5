/- Within, the program's, over Mini. -/
import Derived.Test.YtncpjcojnjbhlaaGreatDoorW2
import Derived.Test.YtncpjcojnjbhlaaGreatDoorN0
namespace Go.Mini
open Go Go.Proofs.YtncpjcojnjbhlaaGreatDoor
set_option maxRecDepth 10000
set_option maxHeartbeats 40000000
set_option linter.unusedSimpArgs false


/-! ### Nets -/
def andS (m l : List UInt8) (i : Nat) : List UInt8 := l.set i (l.getD i 0 &&& m.getD i 0)
theorem andS_len (m : List UInt8) : ∀ (r : List Nat) (l : List UInt8), (r.foldl (andS m) l).length = l.length
  | [], l => rfl
  | i :: r, l => by rw [List.foldl_cons, andS_len m r, andS, List.length_set]
theorem andS_get (m l : List UInt8) : ∀ (k : Nat), k ≤ l.length → ∀ j, ((List.range k).foldl (andS m) l).getD j 0 = if j < k then l.getD j 0 &&& m.getD j 0 else l.getD j 0
  | 0, _, j => by simp
  | k + 1, hk, j => by
    have ih := andS_get m l k (by omega)
    have hl := andS_len m (List.range k) l
    rw [List.range_succ, List.foldl_append]
    simp only [List.foldl_cons, List.foldl_nil]
    generalize (List.range k).foldl (andS m) l = x at ih hl ⊢
    unfold andS
    by_cases hj : j = k
    · subst hj
      have := ih j
      rw [if_neg (Nat.lt_irrefl _)] at this
      rw [if_pos (Nat.lt_succ_self _), this, List.getD_eq_getElem?_getD, List.getElem?_set_self (by omega)]
      rfl
    · rw [List.getD_eq_getElem?_getD, List.getElem?_set_ne (Ne.symm hj), ← List.getD_eq_getElem?_getD, ih j]
      by_cases h1 : j < k
      · rw [if_pos h1, if_pos (by omega)]
      · rw [if_neg h1, if_neg (by omega)]
theorem bv_dist (a b m : BitVec 8) : (a ^^^ b) &&& m = (a &&& m) ^^^ (b &&& m) := by
  ext i
  simp only [BitVec.getElem_and, BitVec.getElem_xor, Bool.and_xor_distrib_right]
theorem and_eq8 (a b m : UInt8) : (((a ^^^ b) &&& m) == 0) = (a &&& m == b &&& m) := by
  rw [Bool.eq_iff_iff, beq_iff_eq, beq_iff_eq]
  constructor
  · intro h
    have : (a &&& m) ^^^ (b &&& m) = 0 := by rw [← h]; apply UInt8.eq_of_toBitVec_eq; simp only [UInt8.toBitVec_xor, UInt8.toBitVec_and]; exact (bv_dist ..).symm
    exact UInt8.xor_eq_zero_iff.1 this
  · intro h
    have : (a &&& m) ^^^ (b &&& m) = 0 := by rw [h, UInt8.xor_self]
    rw [← this]; apply UInt8.eq_of_toBitVec_eq; simp only [UInt8.toBitVec_xor, UInt8.toBitVec_and]; exact bv_dist ..
theorem net_fold (s l : List UInt8) (hl : l.length = 2 * s.length) : ((List.range s.length).foldl (andS (l.drop s.length)) s == (List.range s.length).foldl (andS (l.drop s.length)) (l.take s.length)) = netB s l := by
  have h1 := andS_get (l.drop s.length) s s.length (Nat.le_refl _)
  have h2 := andS_get (l.drop s.length) (l.take s.length) s.length (by rw [List.length_take]; omega)
  have k1 := andS_len (l.drop s.length) (List.range s.length) s
  have k2 := andS_len (l.drop s.length) (List.range s.length) (l.take s.length)
  rw [List.length_take, Nat.min_eq_left (by omega)] at k2
  generalize (List.range s.length).foldl (andS (l.drop s.length)) s = x at *
  generalize (List.range s.length).foldl (andS (l.drop s.length)) (l.take s.length) = y at *
  unfold netB
  rw [decide_eq_true (by omega), Bool.true_and, Bool.eq_iff_iff, beq_iff_eq, List.all_eq_true]
  have ht : ∀ j, j < s.length → (l.take s.length).getD j 0 = l.getD j 0 := by
    intro j hj
    rw [List.getD_eq_getElem?_getD, List.getD_eq_getElem?_getD, List.getElem?_take_of_lt hj]
  have hd : ∀ j, (l.drop s.length).getD j 0 = l.getD (s.length + j) 0 := by
    intro j
    rw [List.getD_eq_getElem?_getD, List.getD_eq_getElem?_getD, List.getElem?_drop]
  constructor
  · intro e j hj
    have hj := List.mem_range.1 hj
    have a1 := h1 j
    have a2 := h2 j
    rw [if_pos hj] at a1 a2
    rw [ht j hj] at a2
    rw [e, a2, hd j] at a1
    unfold netI
    rw [and_eq8, beq_iff_eq]
    exact a1.symm
  · intro h
    apply List.ext_getElem (by omega)
    intro j h3 h4
    have hj : j < s.length := by omega
    have a1 := h1 j
    have a2 := h2 j
    rw [if_pos hj] at a1 a2
    rw [ht j hj] at a2
    rw [hd j] at a1 a2
    have := h j (List.mem_range.2 hj)
    unfold netI at this
    rw [and_eq8, beq_iff_eq] at this
    rw [List.getD_eq_getElem?_getD, List.getElem?_eq_getElem h3] at a1
    rw [List.getD_eq_getElem?_getD, List.getElem?_eq_getElem h4] at a2
    simp only [Option.getD_some] at a1 a2
    rw [a1, a2, this]
def R10 : List (Nat × Option (Bool × Nat) × PK) := [(4, none, .other)]
def V10 (n : Nat) (i : Nat) : List (Nat × MV) := [(21, .own 0 n), (22, .own 1 n), (23, .own 2 n), (156, .int .i64 (n : Int)), (157, .int .i64 (i : Int))]
def O10 (la lb m : List UInt8) : List (Nat × Obj) := [(0, .byt la false), (1, .byt lb false), (2, .byt m false)]
noncomputable def S10 (K : List Item) (m : List UInt8) (n : Nat) (p : List UInt8 × List UInt8) (i : Nat) : Option MV := fin R10 (RunL Q m10k0 m10b0 (.blk 1 :: K) ⟨V10 n i, [], O10 p.1 p.2 m, 4⟩)
theorem c10_step (K : List Item) (m : List UInt8) (n : Nat) (hm : m.length = n) (hn : n < 1000000) (p : List UInt8 × List UInt8) (i j : Nat) (hp : p.1.length = n ∧ p.2.length = n) (hg : (List.range n)[i]? = some j) :
    After (γ := Empty) (fun p _ => p.1.length = n ∧ p.2.length = n) (S10 K m n) (fun c => nomatch c) (S10 K m n p i) (i + 1) (.inl (andS m p.1 j, andS m p.2 j)) := by
  obtain ⟨hi, hij⟩ := List.getElem?_eq_some_iff.1 hg
  simp only [List.length_range] at hi
  simp only [List.getElem_range] at hij
  subst hij
  obtain ⟨la, lb⟩ := p
  obtain ⟨ha, hb⟩ := hp
  simp only at ha hb
  refine ⟨⟨by simp [andS, ha], by simp [andS, hb]⟩, ?_⟩
  have ga := getD_some (l := la) (i := i) (by omega)
  have gb := getD_some (l := lb) (i := i) (by omega)
  have gm := getD_some (l := m) (i := i) (by omega)
  unfold S10 andS
  obtain ⟨b', hb'⟩ : ∃ b', b' = m10b0 := ⟨_, rfl⟩
  rw [RunL_eq, show Item.lp m10k0 m10b0 = Item.lp m10k0 b' by rw [hb']]
  apply hide; intro rhs hrhs
  simp (maxSteps := 99999999) (disch := first | decide | omega | exact ok_of (by kernel_rfl)) only [m10b0, V10, R10, O10, ha, hb, hm, ga, gb, gm, if_pos, if_neg, Nat.reduceAdd, Nat.reduceMul, Nat.reduceLeDiff, Nat.reduceEqDiff, Nat.reduceLT, reduceCtorEq, cut, Int.reduceLE, Int.reduceLT, Int.reduceToNat, Int.reduceEq, Int.reduceNeg, Int.reduceMul, Int.reduceAdd, Int.reduceSub, bne, bC.u, bB.u, bN.u, bL.u, bR.u, bI.u, bD.u]
  repeat' ((first | refine finB ?_ ?_ | refine finG ?_ ?_ | refine finD ?_ ?_ | refine runB ?_ ?_ | refine runG ?_ ?_ | refine runD ?_ ?_) <;> intro hx <;> (try simp only [beq_iff_eq, beq_eq_false_iff_ne, ne_eq, beqt, beqf, decide_eq_true_eq, decide_eq_false_iff_not, Bool.not_eq_true', Bool.not_eq_false', Bool.not_not, Bool.not_eq_true, Bool.and_eq_true, Bool.or_eq_true, decide_true, decide_false, Bool.false_eq_true, reduceCtorEq] at hx) <;> (try simp (maxSteps := 99999999) (disch := first | decide | omega | exact ok_of (by kernel_rfl)) only [hx, m10b0, V10, R10, O10, ha, hb, hm, ga, gb, gm, if_pos, if_neg, Nat.reduceAdd, Nat.reduceMul, Nat.reduceLeDiff, Nat.reduceEqDiff, Nat.reduceLT, reduceCtorEq, cut, Int.reduceLE, Int.reduceLT, Int.reduceToNat, Int.reduceEq, Int.reduceNeg, Int.reduceMul, Int.reduceAdd, Int.reduceSub, bne, bC.u, bB.u, bN.u, bL.u, bR.u, bI.u, bD.u]))
  all_goals first | (exfalso; omega) | (subst hrhs; (subst hb'; refine (congrArg (fin _) (Run_lp Q _ _ _ _)).trans ?_; exact congrArg (fin R10) (RunL_canon (canon_cong (by kernel_rfl) (by kernel_rfl) (by kernel_rfl)))))

theorem c10_fold (m : List UInt8) : ∀ (r : List Nat) (p : List UInt8 × List UInt8), r.foldl (fun p j => (andS m p.1 j, andS m p.2 j)) p = (r.foldl (andS m) p.1, r.foldl (andS m) p.2)
  | [], p => rfl
  | j :: r, p => by rw [List.foldl_cons, c10_fold m r]; rfl
theorem c10_net (K : List Item) (s l : List UInt8) (hl : l.length = 2 * s.length) (hs : s.length < 1000000) :
    S10 K (l.drop s.length) s.length (s, l.take s.length) 0 = S10 K (l.drop s.length) s.length ((List.range s.length).foldl (andS (l.drop s.length)) s, (List.range s.length).foldl (andS (l.drop s.length)) (l.take s.length)) s.length := by
  have key := loopI (γ := Empty) (List.range s.length) (fun p j => .inl (andS (l.drop s.length) p.1 j, andS (l.drop s.length) p.2 j)) (S10 K (l.drop s.length) s.length) (fun c => nomatch c) (fun p _ => p.1.length = s.length ∧ p.2.length = s.length)
    (fun p i j hp hg => c10_step K _ _ (by rw [List.length_drop]; omega) hs p i j hp hg) (s, l.take s.length) ⟨rfl, by rw [List.length_take]; omega⟩
  rw [foldE_inl, c10_fold, List.length_range] at key
  exact key.2
end Go.Mini
