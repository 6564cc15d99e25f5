/- Oids of texts over Mini: the whole function. -/
import Derived.Test.YtncpjcojnjbhlaaGreatDoorD1
namespace Go.Mini
open Go Go.Proofs.YtncpjcojnjbhlaaGreatDoor
set_option maxRecDepth 10000
set_option linter.unusedSimpArgs false

theorem enc_len (n : Int) : (enc n).length ≤ 6 := by
  unfold enc
  simp only [encD, part]
  repeat' split
  all_goals simp

/-- One number. -/
theorem c53_out1 (a : Nat) (ha : a = 1 ∨ a = 2) (out : List UInt8) (ho : out.length < 200) (tl : List MV) (i : Int) (n : Int) (hn : 0 ≤ n ∧ n < 9223372036854775807) (hi : 0 ≤ i ∧ i < tl.length) (hg : tl[i.toNat]? = some (.int .i64 n)) (hl : tl.length < 1000) (K : List Item) :
    RunL Q m53k1 m53b1 (.blk 2 :: K) ⟨V1 a out tl tl.length i, [], OB a out, 3⟩ = RunL Q m53k1 m53b1 (.blk 2 :: K) ⟨V1 1 (out ++ enc n) tl tl.length (i + 1), [], OB 1 (out ++ enc n), 3⟩ := by
  obtain ⟨rhs, hr⟩ : ∃ r, r = RunL Q m53k1 m53b1 (.blk 2 :: K) ⟨V1 1 (out ++ enc n) tl tl.length (i + 1), [], OB 1 (out ++ enc n), 3⟩ := ⟨_, rfl⟩
  rw [← hr]
  obtain ⟨b', hb'⟩ : ∃ b', b' = m53b1 := ⟨_, rfl⟩
  have hlt : decide (i < (tl.length : Int)) = true := by simp; omega
  have i0 := hi.1
  have i1 := hi.2
  rw [RunL_eq, show Item.lp m53k1 m53b1 = Item.lp m53k1 b' by rw [hb']]
  have fin2 : ∀ (V : List (Nat × MV)) (O : List (Nat × Obj)) (nx : Nat) (K' : List Item), canon m53k2 ⟨V, [], O, nx⟩ = ⟨V2 out n 35 tl tl.length i, [], OB 1 out, 3⟩ →
      RunL Q m53k2 m53b2 (.blk 4 :: K') (canon m53k2 ⟨V, [], O, nx⟩) = Run Q K' ⟨(106, .bool false) :: V2 (out ++ enc n) n (-7) tl tl.length i, [], OB 1 (out ++ enc n), 11⟩ := by
    intro V O nx K' hc
    rw [hc]
    exact e5 out n hn (by omega) tl tl.length i K'
  rcases ha with rfl | rfl
  · simp (maxSteps := 99999999) (disch := first | decide | omega | exact ok_of (by kernel_rfl)) only [m53b1, V1, OB, hlt, i0, i1, hg, Run_loop, Nat.reduceAdd, Nat.reduceMul, Nat.reduceLeDiff, Nat.reduceEqDiff, Nat.reduceLT, reduceCtorEq, cut, Int.reduceLE, Int.reduceLT, Int.reduceToNat, Int.reduceEq, Int.reduceNeg, Int.reduceMul, Int.reduceAdd, Int.reduceSub, Int.reduceDiv, Int.reduceMod, Int.reduceBNe, Int.reduceBEq, Nat.reducePow, bC.u, bN.u, bR.u, bD.u]
    rw [fin2 _ _ _ _ (canon_cong (by kernel_rfl) (by kernel_rfl) (by kernel_rfl))]
    simp (maxSteps := 99999999) (disch := first | decide | omega | exact ok_of (by kernel_rfl)) only [V2, OB, Nat.reduceAdd, Nat.reduceMul, Nat.reduceLeDiff, Nat.reduceEqDiff, Nat.reduceLT, reduceCtorEq, cut, Int.reduceLE, Int.reduceLT, Int.reduceToNat, Int.reduceEq, Int.reduceNeg, Int.reduceMul, Int.reduceAdd, Int.reduceSub, Int.reduceDiv, Int.reduceMod, Int.reduceBNe, Int.reduceBEq, Nat.reducePow, bC.u, bN.u, bR.u, bD.u]
    subst hb'
    rw [Run_lp, hr]
    exact RunL_canon (canon_cong (Eq.trans (by kernel_rfl) (show [(2, MV.ptr 0 0), (10, .own 1 (out.length + (enc n).length)), (99, .sl 1 tl), (100, .int .i64 tl.length), (101, .int .i64 (i + 1))] = V1 1 (out ++ enc n) tl tl.length (i + 1) from by simp [V1])) (by kernel_rfl) (by kernel_rfl))
  · simp (maxSteps := 99999999) (disch := first | decide | omega | exact ok_of (by kernel_rfl)) only [m53b1, V1, OB, hlt, i0, i1, hg, Run_loop, Nat.reduceAdd, Nat.reduceMul, Nat.reduceLeDiff, Nat.reduceEqDiff, Nat.reduceLT, reduceCtorEq, cut, Int.reduceLE, Int.reduceLT, Int.reduceToNat, Int.reduceEq, Int.reduceNeg, Int.reduceMul, Int.reduceAdd, Int.reduceSub, Int.reduceDiv, Int.reduceMod, Int.reduceBNe, Int.reduceBEq, Nat.reducePow, bC.u, bN.u, bR.u, bD.u]
    rw [fin2 _ _ _ _ (canon_cong (by kernel_rfl) (by kernel_rfl) (by kernel_rfl))]
    simp (maxSteps := 99999999) (disch := first | decide | omega | exact ok_of (by kernel_rfl)) only [V2, OB, Nat.reduceAdd, Nat.reduceMul, Nat.reduceLeDiff, Nat.reduceEqDiff, Nat.reduceLT, reduceCtorEq, cut, Int.reduceLE, Int.reduceLT, Int.reduceToNat, Int.reduceEq, Int.reduceNeg, Int.reduceMul, Int.reduceAdd, Int.reduceSub, Int.reduceDiv, Int.reduceMod, Int.reduceBNe, Int.reduceBEq, Nat.reducePow, bC.u, bN.u, bR.u, bD.u]
    subst hb'
    rw [Run_lp, hr]
    exact RunL_canon (canon_cong (Eq.trans (by kernel_rfl) (show [(2, MV.ptr 0 0), (10, .own 1 (out.length + (enc n).length)), (99, .sl 1 tl), (100, .int .i64 tl.length), (101, .int .i64 (i + 1))] = V1 1 (out ++ enc n) tl tl.length (i + 1) from by simp [V1])) (by kernel_rfl) (by kernel_rfl))

theorem c53_outs (tl : List Int) (htl : tl.length ≤ 20) (hr : ∀ n ∈ tl, 0 ≤ n ∧ n < 9223372036854775807) (K : List Item) : ∀ (r : List Int) (a : Nat) (out : List UInt8) (i : Nat), (a = 1 ∨ a = 2) → (a = 2 → r ≠ []) → tl.drop i = r → i + r.length = tl.length → out.length ≤ 6 * i →
    RunL Q m53k1 m53b1 (.blk 2 :: K) ⟨V1 a out (ints tl) (ints tl).length i, [], OB a out, 3⟩ = Run Q K ⟨(102, .bool false) :: V1 1 (out ++ encs r) (ints tl) (ints tl).length (ints tl).length, [], OB 1 (out ++ encs r), 7⟩
  | [], a, out, i, ha, ha2, hd, hi, ho => by
    obtain rfl : a = 1 := by
      rcases ha with h | h
      · exact h
      · exact (ha2 h rfl).elim
    have hi' : i = tl.length := by simpa using hi
    have hlt : decide ((i : Int) < ((ints tl).length : Int)) = false := by rw [ints_length]; simp; omega
    have e : out ++ encs [] = out := by simp [encs]
    rw [e]
    have hi2 : (ints tl).length = i := by rw [ints_length]; omega
    obtain ⟨b', hb'⟩ : ∃ b', b' = m53b1 := ⟨_, rfl⟩
    obtain ⟨rhs, hrr⟩ : ∃ r, r = Run Q K ⟨(102, .bool false) :: V1 1 out (ints tl) (ints tl).length (ints tl).length, [], OB 1 out, 7⟩ := ⟨_, rfl⟩
    rw [← hrr]
    rw [RunL_eq, show Item.lp m53k1 m53b1 = Item.lp m53k1 b' by rw [hb']]
    simp (maxSteps := 99999999) (disch := first | decide | omega | exact ok_of (by kernel_rfl)) only [m53b1, V1, OB, hlt, Nat.reduceAdd, Nat.reduceMul, Nat.reduceLeDiff, Nat.reduceEqDiff, Nat.reduceLT, reduceCtorEq, cut, Int.reduceLE, Int.reduceLT, Int.reduceToNat, Int.reduceEq, Int.reduceNeg, Int.reduceMul, Int.reduceAdd, Int.reduceSub, Int.reduceDiv, Int.reduceMod, Int.reduceBNe, Int.reduceBEq, Nat.reducePow, bC.u, bD.u]
    rw [hrr]
    unfold V1 OB
    rw [hi2]
  | n :: r, a, out, i, ha, ha2, hd, hi, ho => by
    simp only [List.length_cons] at hi
    have hg : tl[i]? = some n := by
      have := congrArg (·[0]?) hd
      simpa [List.getElem?_drop] using this
    have hd' : tl.drop (i + 1) = r := by
      have := congrArg (List.drop 1) hd
      simpa [List.drop_drop] using this
    have hl := enc_len n
    rw [c53_out1 a ha out (by omega) (ints tl) i n (hr n (List.mem_of_getElem? hg)) (by rw [ints_length]; omega) (by simp [ints, List.getElem?_map, hg]) (by rw [ints_length]; omega) K]
    have ih := c53_outs tl htl hr K r 1 (out ++ enc n) (i + 1) (.inl rfl) (fun h => by omega) hd' (by omega) (by simp; omega)
    have e : ((i : Int) + 1) = ((i + 1 : Nat) : Int) := by omega
    rw [e, ih]
    have e2 : out ++ enc n ++ encs r = out ++ encs (n :: r) := by simp [encs]
    rw [e2]

theorem split_length (s : List UInt8) : ∀ p ∈ Lib.splitK [46] 0 (Lib.count s [46]) s, p.length ≤ s.length := splitK_len [46] _ s

theorem V1len (x : Int) (r : List Int) : [(2, MV.ptr 0 0), (10, .own 2 0), (99, .sl 1 (ints (x :: r))), (100, .int .i64 ((r.length + 1 : Nat) : Int)), (101, .int .i64 0)] = V1 2 [] (ints (x :: r)) (ints (x :: r)).length (0 : Nat) := by simp [V1, ints]

def good53 (out : List UInt8) : MV := .tup [.agg [.int .i64 0, .int .i64 6, .bool false, .bs out, .nilsl], .bool true]
def ans53 : Option (List UInt8) → MV
  | some out => good53 out
  | none => bad53

theorem add21 (n : Nat) : n + 2 - 1 = n + 1 := rfl
theorem c53 (s : List UInt8) (hs : s.length < 1000000) : Call Q 53 [.str s] = some (ans53 (oidS s)) := by
  obtain ⟨ps, hps⟩ : ∃ ps, ps = Lib.splitK [46] 0 (Lib.count s [46]) s := ⟨_, rfl⟩
  have hsp : Call Q 64 [.str s, .str [46]] = some (.sl 1 (ps.map .str)) := by
    rw [Call_prim Q (g := pSplit) rfl, hps]
    simp only [pSplit, List.length_cons, List.length_nil]
    rw [if_pos ⟨by omega, by omega⟩]
  have hpl : ∀ p ∈ ps, p.length < 1000000 := fun p hp => by have := split_length s p (hps ▸ hp); omega
  unfold oidS
  rw [← hps]
  simp only
  rw [Call_fn Q (m := m53) rfl rfl]
  by_cases h1 : ps.length < 2
  · have d1 : decide ((ps.length : Int) < 2) = true := by simp; omega
    rw [if_pos (.inl h1)]
    simp (maxSteps := 99999999) (disch := first | decide | omega | exact ok_of (by kernel_rfl)) only [m53, hsp, d1, List.length_map, bad53, zero5, Nat.reduceAdd, Nat.reduceMul, Nat.reduceLeDiff, Nat.reduceEqDiff, Nat.reduceLT, reduceCtorEq, cut, Int.reduceLE, Int.reduceLT, Int.reduceToNat, Int.reduceEq, Int.reduceNeg, Int.reduceMul, Int.reduceAdd, Int.reduceSub, Int.reduceDiv, Int.reduceMod, Int.reduceBNe, Int.reduceBEq, Nat.reducePow, bC.u, bN.u, bL.u, bR.u, bD.u]
    rfl
  have d1 : decide ((ps.length : Int) < 2) = false := by simp; omega
  by_cases h2 : 20 < ps.length
  · have d2 : decide (20 < (ps.length : Int)) = true := by simp; omega
    rw [if_pos (.inr h2)]
    simp (maxSteps := 99999999) (disch := first | decide | omega | exact ok_of (by kernel_rfl)) only [m53, hsp, d1, d2, List.length_map, bad53, zero5, Nat.reduceAdd, Nat.reduceMul, Nat.reduceLeDiff, Nat.reduceEqDiff, Nat.reduceLT, reduceCtorEq, cut, Int.reduceLE, Int.reduceLT, Int.reduceToNat, Int.reduceEq, Int.reduceNeg, Int.reduceMul, Int.reduceAdd, Int.reduceSub, Int.reduceDiv, Int.reduceMod, Int.reduceBNe, Int.reduceBEq, Nat.reducePow, bC.u, bN.u, bL.u, bR.u, bD.u]
    rfl
  have d2 : decide (20 < (ps.length : Int)) = false := by simp; omega
  rw [if_neg (by omega)]
  obtain ⟨x, hx⟩ : ∃ x, x = numsP ps := ⟨_, rfl⟩
  rw [← hx]
  simp (maxSteps := 99999999) (disch := first | decide | omega | exact ok_of (by kernel_rfl)) only [m53, hsp, d1, d2, List.length_map, Run_loop, Nat.reduceAdd, Nat.reduceMul, Nat.reduceLeDiff, Nat.reduceEqDiff, Nat.reduceLT, reduceCtorEq, cut, Int.reduceLE, Int.reduceLT, Int.reduceToNat, Int.reduceEq, Int.reduceNeg, Int.reduceMul, Int.reduceAdd, Int.reduceSub, Int.reduceDiv, Int.reduceMod, Int.reduceBNe, Int.reduceBEq, Nat.reducePow, bC.u, bN.u, bL.u, bR.u, bD.u]
  refine (congrArg (fin _) (RunL_canon (canon_cong (V := V53 2 ps [] (0 : Nat)) (O := O53 2 []) (nx := 3) (by kernel_rfl) (by kernel_rfl) (by kernel_rfl)))).trans ?_
  refine (c53_nums ps (by omega) hpl _ ps 2 [] 0 (.inr rfl) (fun _ h => by rw [h] at h1; simp at h1) rfl (by simp) rfl).trans ?_
  rw [← hx]
  cases x with
  | none => rfl
  | some ns =>
    have hn := hx.symm
    obtain ⟨hl, hb⟩ := numsP_length hn
    match ns, hl, hb with
    | [], hl, _ => simp at hl; omega
    | [_], hl, _ => simp at hl; omega
    | n0 :: n1 :: r, hl, hb =>
      simp only [List.nil_append]
      have b0 := hb n0 (by simp)
      have b1 := hb n1 (by simp)
      have hl' : r.length + 1 + 1 = ps.length := by simpa using hl
      have p0 : (0 : Int) < ((r.length + 1 + 1 : Nat) : Int) := by omega
      have p1 : (1 : Int) < ((r.length + 1 + 1 : Nat) : Int) := by omega
      have p2 : (1 : Int) ≤ ((r.length + 1 + 1 : Nat) : Int) := by omega
      have tk : ∀ f : Int → MV, List.take r.length (r.map f) = r.map f := fun f => by rw [List.take_of_length_le]; simp
      have oe : oidN (n0 :: n1 :: r) = if 2 < n0 ∨ n0 < 2 ∧ 39 < n1 ∨ n0 = 2 ∧ 1099511627776 ≤ n1 + 80 then none else some (encs ((n1 + 40 * n0) :: r)) := rfl
      show _ = some (ans53 (oidN (n0 :: n1 :: r)))
      rw [oe]
      by_cases c1 : 2 < n0
      · have e1 : decide (2 < n0) = true := by simp; omega
        rw [if_pos (.inl c1)]
        simp (maxSteps := 99999999) (disch := first | decide | omega | exact ok_of (by kernel_rfl)) only [V53, O53, R53, ints, zero5, p0, p1, p2, tk, Nat.add_sub_cancel, add21, Run_loop, List.length_map, e1, Nat.reduceAdd, Nat.reduceMul, Nat.reduceLeDiff, Nat.reduceEqDiff, Nat.reduceLT, reduceCtorEq, cut, Int.reduceLE, Int.reduceLT, Int.reduceToNat, Int.reduceEq, Int.reduceNeg, Int.reduceMul, Int.reduceAdd, Int.reduceSub, Int.reduceDiv, Int.reduceMod, Int.reduceBNe, Int.reduceBEq, Nat.reducePow, bC.u, bN.u, bL.u, bR.u, bD.u]
        rfl
      have e1 : decide (2 < n0) = false := by simp; omega
      have ok : ∀ out, out = encs ((n1 + 40 * n0) :: r) → some (good53 out) = some (ans53 (some (encs ((n1 + 40 * n0) :: r)))) := fun out h => by rw [h]; rfl
      have outs := fun K => c53_outs ((n1 + 40 * n0) :: r) (by simp; omega) (fun n hn => by
        rcases List.mem_cons.1 hn with rfl | hn
        · omega
        · have := hb n (by simp [hn]); omega) K ((n1 + 40 * n0) :: r) 2 [] 0 (.inr rfl) (fun _ h => by cases h) rfl (by simp) (by simp)
      by_cases c2 : n0 < 2
      · have e2 : decide (n0 < 2) = true := by simp; omega
        have e4 : (n0 == 2) = false := by simp; omega
        by_cases c3 : 39 < n1
        · have e3 : decide (39 < n1) = true := by simp; omega
          rw [if_pos (.inr (.inl ⟨c2, c3⟩))]
          simp (maxSteps := 99999999) (disch := first | decide | omega | exact ok_of (by kernel_rfl)) only [V53, O53, R53, ints, zero5, p0, p1, p2, tk, Nat.add_sub_cancel, add21, Run_loop, List.length_map, e1, e2, e3, e4, Nat.reduceAdd, Nat.reduceMul, Nat.reduceLeDiff, Nat.reduceEqDiff, Nat.reduceLT, reduceCtorEq, cut, Int.reduceLE, Int.reduceLT, Int.reduceToNat, Int.reduceEq, Int.reduceNeg, Int.reduceMul, Int.reduceAdd, Int.reduceSub, Int.reduceDiv, Int.reduceMod, Int.reduceBNe, Int.reduceBEq, Nat.reducePow, bC.u, bN.u, bL.u, bR.u, bD.u]
          rfl
        · have e3 : decide (39 < n1) = false := by simp; omega
          rw [if_neg (by omega), ← ok _ rfl]
          simp (maxSteps := 99999999) (disch := first | decide | omega | exact ok_of (by kernel_rfl)) only [V53, O53, R53, ints, zero5, p0, p1, p2, tk, Nat.add_sub_cancel, add21, Run_loop, List.length_map, e1, e2, e3, e4, Nat.reduceAdd, Nat.reduceMul, Nat.reduceLeDiff, Nat.reduceEqDiff, Nat.reduceLT, reduceCtorEq, cut, Int.reduceLE, Int.reduceLT, Int.reduceToNat, Int.reduceEq, Int.reduceNeg, Int.reduceMul, Int.reduceAdd, Int.reduceSub, Int.reduceDiv, Int.reduceMod, Int.reduceBNe, Int.reduceBEq, Nat.reducePow, bC.u, bN.u, bL.u, bR.u, bD.u]
          refine (congrArg (fin _) (RunL_canon (canon_cong (V := V1 2 [] (ints ((n1 + 40 * n0) :: r)) (ints ((n1 + 40 * n0) :: r)).length (0 : Nat)) (O := OB 2 []) (nx := 3) (Eq.trans (by kernel_rfl) (V1len (n1 + 40 * n0) r)) (by kernel_rfl) (by kernel_rfl)))).trans ?_
          rw [outs]
          simp (maxSteps := 99999999) (disch := first | decide | omega | exact ok_of (by kernel_rfl)) only [V1, OB, zero5, good53, Nat.reduceAdd, Nat.reduceMul, Nat.reduceLeDiff, Nat.reduceEqDiff, Nat.reduceLT, reduceCtorEq, cut, Int.reduceLE, Int.reduceLT, Int.reduceToNat, Int.reduceEq, Int.reduceNeg, Int.reduceMul, Int.reduceAdd, Int.reduceSub, Int.reduceDiv, Int.reduceMod, Int.reduceBNe, Int.reduceBEq, Nat.reducePow, bC.u, bN.u, bL.u, bD.u]
      · have e2 : decide (n0 < 2) = false := by simp; omega
        obtain rfl : n0 = 2 := by omega
        by_cases c3 : 1099511627776 ≤ n1 + 80
        · have e3 : decide (1099511627776 ≤ n1 + 80) = true := by simp; omega
          rw [if_pos (.inr (.inr ⟨rfl, c3⟩))]
          simp (maxSteps := 99999999) (disch := first | decide | omega | exact ok_of (by kernel_rfl)) only [V53, O53, R53, ints, zero5, p0, p1, p2, tk, Nat.add_sub_cancel, add21, Run_loop, List.length_map, e1, e2, e3, Nat.reduceAdd, Nat.reduceMul, Nat.reduceLeDiff, Nat.reduceEqDiff, Nat.reduceLT, reduceCtorEq, cut, Int.reduceLE, Int.reduceLT, Int.reduceToNat, Int.reduceEq, Int.reduceNeg, Int.reduceMul, Int.reduceAdd, Int.reduceSub, Int.reduceDiv, Int.reduceMod, Int.reduceBNe, Int.reduceBEq, Nat.reducePow, bC.u, bN.u, bL.u, bR.u, bD.u]
          rfl
        · have e3 : decide (1099511627776 ≤ n1 + 80) = false := by simp; omega
          rw [if_neg (by omega), ← ok _ rfl]
          simp (maxSteps := 99999999) (disch := first | decide | omega | exact ok_of (by kernel_rfl)) only [V53, O53, R53, ints, zero5, p0, p1, p2, tk, Nat.add_sub_cancel, add21, Run_loop, List.length_map, e1, e2, e3, Nat.reduceAdd, Nat.reduceMul, Nat.reduceLeDiff, Nat.reduceEqDiff, Nat.reduceLT, reduceCtorEq, cut, Int.reduceLE, Int.reduceLT, Int.reduceToNat, Int.reduceEq, Int.reduceNeg, Int.reduceMul, Int.reduceAdd, Int.reduceSub, Int.reduceDiv, Int.reduceMod, Int.reduceBNe, Int.reduceBEq, Nat.reducePow, bC.u, bN.u, bL.u, bR.u, bD.u]
          refine (congrArg (fin _) (RunL_canon (canon_cong (V := V1 2 [] (ints ((n1 + 40 * 2) :: r)) (ints ((n1 + 40 * 2) :: r)).length (0 : Nat)) (O := OB 2 []) (nx := 3) (Eq.trans (by kernel_rfl) (V1len (n1 + 40 * 2) r)) (by kernel_rfl) (by kernel_rfl)))).trans ?_
          rw [outs]
          simp (maxSteps := 99999999) (disch := first | decide | omega | exact ok_of (by kernel_rfl)) only [V1, OB, zero5, good53, Nat.reduceAdd, Nat.reduceMul, Nat.reduceLeDiff, Nat.reduceEqDiff, Nat.reduceLT, reduceCtorEq, cut, Int.reduceLE, Int.reduceLT, Int.reduceToNat, Int.reduceEq, Int.reduceNeg, Int.reduceMul, Int.reduceAdd, Int.reduceSub, Int.reduceDiv, Int.reduceMod, Int.reduceBNe, Int.reduceBEq, Nat.reducePow, bC.u, bN.u, bL.u, bD.u]
end Go.Mini
