/- Oids of texts: the document's over Mini: whole. -/
import Derived.Test.YtncpjcojnjbhlaaGreatDoorG8
namespace Go.Mini
open Go Go.Proofs.YtncpjcojnjbhlaaGreatDoor
set_option maxRecDepth 10000
set_option maxHeartbeats 40000000
set_option linter.unusedSimpArgs false


theorem c56_end (L : List Int) (a : Nat) (ha : a = 2 ∨ a = 3) (out : List UInt8) (K : List Item) : RunL Q m56k0 m56b0 (.blk 0 :: K) ⟨A56 L a out L.length, [], O4 L a out [], 4⟩ = Run Q K ⟨(61, .bool false) :: A56 L a out L.length, [], O4 L a out [], 20⟩ := by
  have hil := ints_length L
  have hlt : decide ((L.length : Int) < (L.length : Int)) = false := by simp
  rcases ha with rfl | rfl
  · obtain ⟨b', hb'⟩ : ∃ b', b' = m56b0 := ⟨_, rfl⟩
    rw [RunL_eq, show Item.lp m56k0 m56b0 = Item.lp m56k0 b' by rw [hb']]
    simp (maxSteps := 99999999) (disch := first | decide | omega | exact ok_of (by kernel_rfl)) only [m56b0, A56, O4, hil, hlt, Nat.reduceAdd, Nat.reduceMul, Nat.reduceLeDiff, Nat.reduceEqDiff, Nat.reduceLT, reduceCtorEq, cut, Nat.reducePow, Int.reduceDiv, Int.reduceMod, Int.reduceBNe, Int.reduceBEq, Int.reduceLE, Int.reduceLT, Int.reduceToNat, Int.reduceEq, Int.reduceNeg, Int.reduceMul, Int.reduceAdd, Int.reduceSub, bC.u, bD.u]
  · obtain ⟨b', hb'⟩ : ∃ b', b' = m56b0 := ⟨_, rfl⟩
    rw [RunL_eq, show Item.lp m56k0 m56b0 = Item.lp m56k0 b' by rw [hb']]
    simp (maxSteps := 99999999) (disch := first | decide | omega | exact ok_of (by kernel_rfl)) only [m56b0, A56, O4, hil, hlt, Nat.reduceAdd, Nat.reduceMul, Nat.reduceLeDiff, Nat.reduceEqDiff, Nat.reduceLT, reduceCtorEq, cut, Nat.reducePow, Int.reduceDiv, Int.reduceMod, Int.reduceBNe, Int.reduceBEq, Int.reduceLE, Int.reduceLT, Int.reduceToNat, Int.reduceEq, Int.reduceNeg, Int.reduceMul, Int.reduceAdd, Int.reduceSub, bC.u, bD.u]

theorem c56_step (L : List Int) (hL : L.length ≤ 20) (a : Nat) (ha : a = 2 ∨ a = 3) (out : List UInt8) (ho : out.length ≤ 1000) (i : Nat) (n : Int) (hn : L[i]? = some n) (h0 : 0 ≤ n) (h1 : n < 4398046511104) (K : List Item) :
    RunL Q m56k0 m56b0 (.blk 0 :: K) ⟨A56 L a out i, [], O4 L a out [], 4⟩ = RunL Q m56k0 m56b0 (.blk 0 :: K) ⟨A56 L 2 (out ++ enc n) (i + 1 : Nat), [], O4 L 2 (out ++ enc n) [], 4⟩ := by
  have hil := ints_length L
  have hi : i < L.length := (List.getElem?_eq_some_iff.1 hn).1
  have hlt : decide ((i : Int) < (L.length : Int)) = true := by simp; omega
  have i0 : (0 : Int) ≤ (i : Int) := by omega
  have i1 : (i : Int) < (L.length : Int) := by omega
  have hg : (ints L)[i]? = some (.int .i64 n) := by simp [ints, hn]
  have e : ((i : Int) + 1) = ((i + 1 : Nat) : Int) := by omega
  have e8 := by8' (x := n) h0
  have hp := partF_len 6 n
  have e7 : n < 128 ^ (6 + 1) := by
    have : (128 : Int) ^ (6 + 1) = 562949953421312 := by decide
    omega
  have hpart := fun K' => c56_part L out (i : Int) K' 6 n [UInt8.ofNat (n % 128).toNat] h0 e7 (by omega) (by simp)
  rw [List.cons_append, List.nil_append] at hpart
  have henc := enc_eq n h0 h1
  generalize UInt8.ofNat (n % 128).toNat = b0 at hpart henc e8
  generalize hpt : partF 6 n = pt at hpart henc hp
  have hrev := fun K' => c56_rev L (i : Int) (b0 :: pt) (by simp; omega) K' (b0 :: pt).length out (Nat.le_refl _) (by simp; omega)
  rw [List.take_of_length_le (Nat.le_refl _)] at hrev
  rw [henc]
  obtain ⟨rhs, hr⟩ : ∃ z, z = RunL Q m56k0 m56b0 (.blk 0 :: K) ⟨A56 L 2 (out ++ (b0 :: pt).reverse) (i + 1 : Nat), [], O4 L 2 (out ++ (b0 :: pt).reverse) [], 4⟩ := ⟨_, rfl⟩
  rw [← hr]
  rcases ha with rfl | rfl
  · obtain ⟨b', hb'⟩ : ∃ b', b' = m56b0 := ⟨_, rfl⟩
    rw [RunL_eq, show Item.lp m56k0 m56b0 = Item.lp m56k0 b' by rw [hb']]
    simp (maxSteps := 99999999) (disch := first | decide | omega | exact ok_of (by kernel_rfl)) only [m56b0, A56, O4, hlt, hil, i0, i1, hg, e8, Run_loop, Nat.reduceAdd, Nat.reduceMul, Nat.reduceLeDiff, Nat.reduceEqDiff, Nat.reduceLT, reduceCtorEq, cut, Nat.reducePow, Int.reduceDiv, Int.reduceMod, Int.reduceBNe, Int.reduceBEq, Int.reduceLE, Int.reduceLT, Int.reduceToNat, Int.reduceEq, Int.reduceNeg, Int.reduceMul, Int.reduceAdd, Int.reduceSub, bC.u, bN.u, bL.u, bD.u]
    refine (RunL_canon (canon_cong (V := B56 L out i [b0] n) (O := O4 L 2 out [(3, .byt [b0] false)]) (nx := 5) (by kernel_rfl) (by kernel_rfl) (by kernel_rfl))).trans ?_
    rw [hpart]
    simp (maxSteps := 99999999) (disch := first | decide | omega | exact ok_of (by kernel_rfl)) only [B56, Run_loop, O4, Nat.reduceAdd, Nat.reduceMul, Nat.reduceLeDiff, Nat.reduceEqDiff, Nat.reduceLT, reduceCtorEq, cut, Nat.reducePow, Int.reduceDiv, Int.reduceMod, Int.reduceBNe, Int.reduceBEq, Int.reduceLE, Int.reduceLT, Int.reduceToNat, Int.reduceEq, Int.reduceNeg, Int.reduceMul, Int.reduceAdd, Int.reduceSub, bC.u, bN.u, bL.u, bD.u]
    refine (RunL_canon (canon_cong (V := C56 L out i (b0 :: pt) (((b0 :: pt).length : Nat) - 1 : Int)) (O := O4 L 2 out [(3, .byt (b0 :: pt) false)]) (nx := 5) (by kernel_rfl) (by kernel_rfl) (by kernel_rfl))).trans ?_
    rw [hrev]
    simp (maxSteps := 99999999) (disch := first | decide | omega | exact ok_of (by kernel_rfl)) only [C56, O4, Nat.reduceAdd, Nat.reduceMul, Nat.reduceLeDiff, Nat.reduceEqDiff, Nat.reduceLT, reduceCtorEq, cut, Nat.reducePow, Int.reduceDiv, Int.reduceMod, Int.reduceBNe, Int.reduceBEq, Int.reduceLE, Int.reduceLT, Int.reduceToNat, Int.reduceEq, Int.reduceNeg, Int.reduceMul, Int.reduceAdd, Int.reduceSub, bC.u, bN.u, bL.u, bD.u]
    subst hb'
    rw [Run_lp, hr]
    exact RunL_canon (canon_cong (Eq.trans (by kernel_rfl) (show [(2, MV.ptr 0 0), (4, .own 1 L.length), (6, .own 2 (out.length + (b0 :: pt).reverse.length)), (7, .int .i64 ((i : Int) + 1))] = A56 L 2 (out ++ (b0 :: pt).reverse) (i + 1 : Nat) from by rw [e, ← List.length_append]; rfl)) (by kernel_rfl) (by kernel_rfl))
  · obtain ⟨b', hb'⟩ : ∃ b', b' = m56b0 := ⟨_, rfl⟩
    rw [RunL_eq, show Item.lp m56k0 m56b0 = Item.lp m56k0 b' by rw [hb']]
    simp (maxSteps := 99999999) (disch := first | decide | omega | exact ok_of (by kernel_rfl)) only [m56b0, A56, O4, hlt, hil, i0, i1, hg, e8, Run_loop, Nat.reduceAdd, Nat.reduceMul, Nat.reduceLeDiff, Nat.reduceEqDiff, Nat.reduceLT, reduceCtorEq, cut, Nat.reducePow, Int.reduceDiv, Int.reduceMod, Int.reduceBNe, Int.reduceBEq, Int.reduceLE, Int.reduceLT, Int.reduceToNat, Int.reduceEq, Int.reduceNeg, Int.reduceMul, Int.reduceAdd, Int.reduceSub, bC.u, bN.u, bL.u, bD.u]
    refine (RunL_canon (canon_cong (V := B56 L out i [b0] n) (O := O4 L 2 out [(3, .byt [b0] false)]) (nx := 5) (by kernel_rfl) (by kernel_rfl) (by kernel_rfl))).trans ?_
    rw [hpart]
    simp (maxSteps := 99999999) (disch := first | decide | omega | exact ok_of (by kernel_rfl)) only [B56, Run_loop, O4, Nat.reduceAdd, Nat.reduceMul, Nat.reduceLeDiff, Nat.reduceEqDiff, Nat.reduceLT, reduceCtorEq, cut, Nat.reducePow, Int.reduceDiv, Int.reduceMod, Int.reduceBNe, Int.reduceBEq, Int.reduceLE, Int.reduceLT, Int.reduceToNat, Int.reduceEq, Int.reduceNeg, Int.reduceMul, Int.reduceAdd, Int.reduceSub, bC.u, bN.u, bL.u, bD.u]
    refine (RunL_canon (canon_cong (V := C56 L out i (b0 :: pt) (((b0 :: pt).length : Nat) - 1 : Int)) (O := O4 L 2 out [(3, .byt (b0 :: pt) false)]) (nx := 5) (by kernel_rfl) (by kernel_rfl) (by kernel_rfl))).trans ?_
    rw [hrev]
    simp (maxSteps := 99999999) (disch := first | decide | omega | exact ok_of (by kernel_rfl)) only [C56, O4, Nat.reduceAdd, Nat.reduceMul, Nat.reduceLeDiff, Nat.reduceEqDiff, Nat.reduceLT, reduceCtorEq, cut, Nat.reducePow, Int.reduceDiv, Int.reduceMod, Int.reduceBNe, Int.reduceBEq, Int.reduceLE, Int.reduceLT, Int.reduceToNat, Int.reduceEq, Int.reduceNeg, Int.reduceMul, Int.reduceAdd, Int.reduceSub, bC.u, bN.u, bL.u, bD.u]
    subst hb'
    rw [Run_lp, hr]
    exact RunL_canon (canon_cong (Eq.trans (by kernel_rfl) (show [(2, MV.ptr 0 0), (4, .own 1 L.length), (6, .own 2 (out.length + (b0 :: pt).reverse.length)), (7, .int .i64 ((i : Int) + 1))] = A56 L 2 (out ++ (b0 :: pt).reverse) (i + 1 : Nat) from by rw [e, ← List.length_append]; rfl)) (by kernel_rfl) (by kernel_rfl))

theorem c56_loop (L : List Int) (hL : L.length ≤ 20) (hr : ∀ n ∈ L, 0 ≤ n ∧ n < 4398046511104) (K : List Item) : ∀ (r : List Int) (a : Nat) (out : List UInt8) (i : Nat), (a = 2 ∨ a = 3) → L.drop i = r → i + r.length = L.length → out.length + 6 * r.length ≤ 200 →
    ∃ a', (a' = 2 ∨ a' = 3) ∧ RunL Q m56k0 m56b0 (.blk 0 :: K) ⟨A56 L a out i, [], O4 L a out [], 4⟩ = Run Q K ⟨(61, .bool false) :: A56 L a' (out ++ encs r) L.length, [], O4 L a' (out ++ encs r) [], 20⟩
  | [], a, out, i, ha, hd, hi, _ => by
    have hi' : i = L.length := by simpa using hi
    subst hi'
    refine ⟨a, ha, ?_⟩
    rw [c56_end L a ha out K]
    simp [encs]
  | n :: r, a, out, i, ha, hd, hi, ho => by
    simp only [List.length_cons] at hi ho
    have hg : L[i]? = some n := by
      have := congrArg (·[0]?) hd
      simpa [List.getElem?_drop] using this
    have hd' : L.drop (i + 1) = r := by
      have := congrArg (List.drop 1) hd
      simpa [List.drop_drop] using this
    have hb := hr n (List.mem_of_getElem? hg)
    have hel := enc_len n
    obtain ⟨a', h1, h2⟩ := c56_loop L hL hr K r 2 (out ++ enc n) (i + 1) (.inl rfl) hd' (by omega) (by rw [List.length_append]; omega)
    refine ⟨a', h1, ?_⟩
    rw [c56_step L hL a ha out (by omega) i n hg hb.1 hb.2 K, h2]
    simp [encs, List.flatMap_cons]

theorem enc_lens : ∀ (r : List Int), (encs r).length ≤ 6 * r.length
  | [] => by simp [encs]
  | n :: r => by
    have := enc_lens r
    have h := enc_len n
    unfold encs at this ⊢
    simp only [List.flatMap_cons, List.length_append, List.length_cons]
    omega
theorem c56_good (s : List UInt8) (hs : s.length < 1000000) (n0 n1 : Int) (r : List Int) (hr : r.length ≤ 18) (h87 : Call Q 87 [.str s] = some (.tup [.fel 1 (ints (n0 :: n1 :: r)), .bool true])) (hn : ∀ n ∈ n0 :: n1 :: r, 0 ≤ n ∧ n < 1099511627776) :
    Call Q 56 [.str s] = some (ans53 (oidN (n0 :: n1 :: r))) := by
  have b0 := hn n0 (by simp)
  have b1 := hn n1 (by simp)
  have hil : (ints r).length = r.length := ints_length r
  have hL : (ints (n0 :: n1 :: r)).length = r.length + 2 := by rw [ints_length]; rfl
  have g0 : (ints (n0 :: n1 :: r))[0]? = some (.int .i64 n0) := rfl
  have g1 : (ints (n0 :: n1 :: r))[1]? = some (.int .i64 n1) := rfl
  have p0 : (0 : Int) < ((r.length + 2 : Nat) : Int) := by omega
  have p1 : (1 : Int) < ((r.length + 2 : Nat) : Int) := by omega
  have q0 : 0 < r.length + 2 := by omega
  have q1 : 1 < r.length + 2 := by omega
  generalize hl : ints (n0 :: n1 :: r) = l at h87 hL g0 g1
  have va : ∀ x : Nat, [(2, MV.ptr 0 0), (4, .own 1 (r.length + 2)), (6, .own 3 0), (7, .int .i64 1)] = A56 (n0 :: (n1 + 40 * n0) :: r) 3 [] (1 : Nat) := fun _ => rfl
  have oa : ∀ x : Nat, [(0, Obj.cells zero5), (1, .el 1 (l.set 1 (.int .i64 (n1 + 40 * n0))) false), (3, .byt [] false)] = O4 (n0 :: (n1 + 40 * n0) :: r) 3 [] [] := fun _ => by rw [← hl]; rfl
  have hr' : ∀ n ∈ n0 :: (n1 + 40 * n0) :: r, 0 ≤ n ∧ n < 4398046511104 ∨ 2 < n0 := by
    intro n hm
    by_cases c : 2 < n0
    · exact .inr c
    · rcases List.mem_cons.1 hm with rfl | hm
      · exact .inl (by omega)
      · rcases List.mem_cons.1 hm with rfl | hm
        · exact .inl (by omega)
        · have := hn n (by simp [hm])
          exact .inl (by omega)
  unfold oidN
  simp only
  rw [Call_fn Q (m := m56) rfl rfl]
  by_cases c1 : 2 < n0
  · have d1 : decide (2 < n0) = true := by simp; omega
    rw [if_pos (.inl c1)]
    simp (maxSteps := 99999999) (disch := first | decide | omega | exact ok_of (by kernel_rfl)) only [m56, h87, hL, g0, g1, p0, p1, q0, q1, d1, Nat.reduceAdd, Nat.reduceMul, Nat.reduceLeDiff, Nat.reduceEqDiff, Nat.reduceLT, reduceCtorEq, cut, Nat.reducePow, Int.reduceDiv, Int.reduceMod, Int.reduceBNe, Int.reduceBEq, Int.reduceLE, Int.reduceLT, Int.reduceToNat, Int.reduceEq, Int.reduceNeg, Int.reduceMul, Int.reduceAdd, Int.reduceSub, bC.u, bB.u, bN.u, bL.u, bR.u, bD.u]
    rfl
  have d1 : decide (2 < n0) = false := by simp; omega
  have hr' : ∀ n ∈ n0 :: (n1 + 40 * n0) :: r, 0 ≤ n ∧ n < 4398046511104 := fun n hm => (hr' n hm).resolve_right c1
  by_cases c2 : n0 < 2
  · have d2 : decide (n0 < 2) = true := by simp; omega
    by_cases c3 : 39 < n1
    · have d3 : decide (39 < n1) = true := by simp; omega
      rw [if_pos (.inr (.inl ⟨c2, c3⟩))]
      simp (maxSteps := 99999999) (disch := first | decide | omega | exact ok_of (by kernel_rfl)) only [m56, h87, hL, g0, g1, p0, p1, q0, q1, d1, d2, d3, Nat.reduceAdd, Nat.reduceMul, Nat.reduceLeDiff, Nat.reduceEqDiff, Nat.reduceLT, reduceCtorEq, cut, Nat.reducePow, Int.reduceDiv, Int.reduceMod, Int.reduceBNe, Int.reduceBEq, Int.reduceLE, Int.reduceLT, Int.reduceToNat, Int.reduceEq, Int.reduceNeg, Int.reduceMul, Int.reduceAdd, Int.reduceSub, bC.u, bB.u, bN.u, bL.u, bR.u, bD.u]
      rfl
    · have d3 : decide (39 < n1) = false := by simp; omega
      have d4 : decide (1099511627776 ≤ n1 + 40 * n0) = false := by simp; omega
      rw [if_neg (by omega)]
      obtain ⟨rhs, hrr⟩ : ∃ z, z = some (ans53 (some (encs ((n1 + 40 * n0) :: r)))) := ⟨_, rfl⟩
      rw [← hrr]
      simp (maxSteps := 99999999) (disch := first | decide | omega | exact ok_of (by kernel_rfl)) only [m56, h87, hL, g0, g1, p0, p1, q0, q1, d1, d2, d3, d4, Run_loop, Nat.reduceAdd, Nat.reduceMul, Nat.reduceLeDiff, Nat.reduceEqDiff, Nat.reduceLT, reduceCtorEq, cut, Nat.reducePow, Int.reduceDiv, Int.reduceMod, Int.reduceBNe, Int.reduceBEq, Int.reduceLE, Int.reduceLT, Int.reduceToNat, Int.reduceEq, Int.reduceNeg, Int.reduceMul, Int.reduceAdd, Int.reduceSub, bC.u, bB.u, bN.u, bL.u, bR.u, bD.u]
      refine (congrArg (fin _) (RunL_canon (canon_cong (V := A56 (n0 :: (n1 + 40 * n0) :: r) 3 [] (1 : Nat)) (O := O4 (n0 :: (n1 + 40 * n0) :: r) 3 [] []) (nx := 4) (Eq.trans (by kernel_rfl) (va 0)) (Eq.trans (by kernel_rfl) (oa 0)) (by kernel_rfl)))).trans ?_
      obtain ⟨a', ha', hlp⟩ := c56_loop (n0 :: (n1 + 40 * n0) :: r) (by simp; omega) hr' _ ((n1 + 40 * n0) :: r) 3 [] 1 (.inr rfl) rfl (by simp; omega) (by simp; omega)
      rw [hlp, hrr]
      rcases ha' with rfl | rfl
      · simp (maxSteps := 99999999) (disch := first | decide | omega | exact ok_of (by kernel_rfl)) only [A56, O4, R56, zero5, ans53, good53, Nat.reduceAdd, Nat.reduceMul, Nat.reduceLeDiff, Nat.reduceEqDiff, Nat.reduceLT, reduceCtorEq, cut, Nat.reducePow, Int.reduceDiv, Int.reduceMod, Int.reduceBNe, Int.reduceBEq, Int.reduceLE, Int.reduceLT, Int.reduceToNat, Int.reduceEq, Int.reduceNeg, Int.reduceMul, Int.reduceAdd, Int.reduceSub, bC.u, bN.u, bL.u, bD.u]
      · simp (maxSteps := 99999999) (disch := first | decide | omega | exact ok_of (by kernel_rfl)) only [A56, O4, R56, zero5, ans53, good53, Nat.reduceAdd, Nat.reduceMul, Nat.reduceLeDiff, Nat.reduceEqDiff, Nat.reduceLT, reduceCtorEq, cut, Nat.reducePow, Int.reduceDiv, Int.reduceMod, Int.reduceBNe, Int.reduceBEq, Int.reduceLE, Int.reduceLT, Int.reduceToNat, Int.reduceEq, Int.reduceNeg, Int.reduceMul, Int.reduceAdd, Int.reduceSub, bC.u, bN.u, bL.u, bD.u]
  · have d2 : decide (n0 < 2) = false := by simp; omega
    by_cases c4 : 1099511627776 ≤ n1 + 80
    · have d4 : decide (1099511627776 ≤ n1 + 40 * n0) = true := by simp; omega
      rw [if_pos (by omega)]
      simp (maxSteps := 99999999) (disch := first | decide | omega | exact ok_of (by kernel_rfl)) only [m56, h87, hL, g0, g1, p0, p1, q0, q1, d1, d2, d4, Nat.reduceAdd, Nat.reduceMul, Nat.reduceLeDiff, Nat.reduceEqDiff, Nat.reduceLT, reduceCtorEq, cut, Nat.reducePow, Int.reduceDiv, Int.reduceMod, Int.reduceBNe, Int.reduceBEq, Int.reduceLE, Int.reduceLT, Int.reduceToNat, Int.reduceEq, Int.reduceNeg, Int.reduceMul, Int.reduceAdd, Int.reduceSub, bC.u, bB.u, bN.u, bL.u, bR.u, bD.u]
      rfl
    · have d4 : decide (1099511627776 ≤ n1 + 40 * n0) = false := by simp; omega
      rw [if_neg (by omega)]
      obtain ⟨rhs, hrr⟩ : ∃ z, z = some (ans53 (some (encs ((n1 + 40 * n0) :: r)))) := ⟨_, rfl⟩
      rw [← hrr]
      simp (maxSteps := 99999999) (disch := first | decide | omega | exact ok_of (by kernel_rfl)) only [m56, h87, hL, g0, g1, p0, p1, q0, q1, d1, d2, d4, Run_loop, Nat.reduceAdd, Nat.reduceMul, Nat.reduceLeDiff, Nat.reduceEqDiff, Nat.reduceLT, reduceCtorEq, cut, Nat.reducePow, Int.reduceDiv, Int.reduceMod, Int.reduceBNe, Int.reduceBEq, Int.reduceLE, Int.reduceLT, Int.reduceToNat, Int.reduceEq, Int.reduceNeg, Int.reduceMul, Int.reduceAdd, Int.reduceSub, bC.u, bB.u, bN.u, bL.u, bR.u, bD.u]
      refine (congrArg (fin _) (RunL_canon (canon_cong (V := A56 (n0 :: (n1 + 40 * n0) :: r) 3 [] (1 : Nat)) (O := O4 (n0 :: (n1 + 40 * n0) :: r) 3 [] []) (nx := 4) (Eq.trans (by kernel_rfl) (va 0)) (Eq.trans (by kernel_rfl) (oa 0)) (by kernel_rfl)))).trans ?_
      obtain ⟨a', ha', hlp⟩ := c56_loop (n0 :: (n1 + 40 * n0) :: r) (by simp; omega) hr' _ ((n1 + 40 * n0) :: r) 3 [] 1 (.inr rfl) rfl (by simp; omega) (by simp; omega)
      rw [hlp, hrr]
      rcases ha' with rfl | rfl
      · simp (maxSteps := 99999999) (disch := first | decide | omega | exact ok_of (by kernel_rfl)) only [A56, O4, R56, zero5, ans53, good53, Nat.reduceAdd, Nat.reduceMul, Nat.reduceLeDiff, Nat.reduceEqDiff, Nat.reduceLT, reduceCtorEq, cut, Nat.reducePow, Int.reduceDiv, Int.reduceMod, Int.reduceBNe, Int.reduceBEq, Int.reduceLE, Int.reduceLT, Int.reduceToNat, Int.reduceEq, Int.reduceNeg, Int.reduceMul, Int.reduceAdd, Int.reduceSub, bC.u, bN.u, bL.u, bD.u]
      · simp (maxSteps := 99999999) (disch := first | decide | omega | exact ok_of (by kernel_rfl)) only [A56, O4, R56, zero5, ans53, good53, Nat.reduceAdd, Nat.reduceMul, Nat.reduceLeDiff, Nat.reduceEqDiff, Nat.reduceLT, reduceCtorEq, cut, Nat.reducePow, Int.reduceDiv, Int.reduceMod, Int.reduceBNe, Int.reduceBEq, Int.reduceLE, Int.reduceLT, Int.reduceToNat, Int.reduceEq, Int.reduceNeg, Int.reduceMul, Int.reduceAdd, Int.reduceSub, bC.u, bN.u, bL.u, bD.u]
theorem c56_bad (s : List UInt8) (l : List MV) (h87 : Call Q 87 [.str s] = some (.tup [.fel 1 l, .bool false])) : Call Q 56 [.str s] = some bad53 := by
  rw [Call_fn Q (m := m56) rfl rfl]
  simp (maxSteps := 99999999) (disch := first | decide | omega | exact ok_of (by kernel_rfl)) only [m56, h87, bad53, zero5, Nat.reduceAdd, Nat.reduceMul, Nat.reduceLeDiff, Nat.reduceEqDiff, Nat.reduceLT, reduceCtorEq, cut, Nat.reducePow, Int.reduceDiv, Int.reduceMod, Int.reduceBNe, Int.reduceBEq, Int.reduceLE, Int.reduceLT, Int.reduceToNat, Int.reduceEq, Int.reduceNeg, Int.reduceMul, Int.reduceAdd, Int.reduceSub, bC.u, bB.u, bN.u, bL.u, bR.u, bD.u]
theorem c56 (s : List UInt8) (hs : s.length < 1000000) : Call Q 56 [.str s] = some (ans53 (oidS s)) := by
  have h87 := c87 s hs
  unfold ans87 at h87
  unfold oidS
  simp only [split_eq]
  cases hn : numsP (splits s) with
  | none =>
    rw [hn] at h87
    have : (if (splits s).length < 2 ∨ 20 < (splits s).length then (none : Option (List UInt8)) else none) = none := by split <;> rfl
    simp only [this]
    exact c56_bad s _ h87
  | some l =>
    rw [hn] at h87
    have hlen := numsP_length hn
    simp only [good87] at h87
    by_cases h2 : (splits s).length < 2 ∨ 20 < (splits s).length
    · rw [if_pos h2]
      have : (decide (2 ≤ l.length) && decide (l.length ≤ 20)) = false := by
        rcases h2 with h2 | h2
        · rw [decide_eq_false (p := 2 ≤ l.length) (by omega), Bool.false_and]
        · rw [decide_eq_false (p := l.length ≤ 20) (by omega), Bool.and_false]
      rw [this] at h87
      exact c56_bad s _ h87
    · rw [if_neg h2]
      have : (decide (2 ≤ l.length) && decide (l.length ≤ 20)) = true := by
        rw [decide_eq_true (p := 2 ≤ l.length) (by omega), decide_eq_true (p := l.length ≤ 20) (by omega), Bool.true_and]
      rw [this] at h87
      match l, hlen, h87 with
      | n0 :: n1 :: r, hlen, h87 => exact c56_good s hs n0 n1 r (by have := hlen.1; simp at this; omega) h87 hlen.2
      | [n0], hlen, _ => have := hlen.1; simp at this; omega
      | [], hlen, _ => have := hlen.1; simp at this; omega
end Go.Mini
