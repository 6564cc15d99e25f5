/- Texts: the program's over Mini: what they contain, small letters, endings. -/
import Derived.Test.YtncpjcojnjbhlaaGreatDoorG11
namespace Go.Mini
open Go Go.Proofs.YtncpjcojnjbhlaaGreatDoor
set_option maxRecDepth 10000
set_option maxHeartbeats 40000000
set_option linter.unusedSimpArgs false


/-! ### Is there such a rune? -/
def idxP (P : UInt8 → Bool) : List UInt8 → Nat → Int
  | [], _ => -1
  | c :: r, i => if P c = true then i else idxP P r (i + 1)
theorem idxP_any (P : UInt8 → Bool) : ∀ (r : List UInt8) (i : Nat), decide ((0 : Int) ≤ idxP P r i) = r.any P
  | [], i => rfl
  | c :: r, i => by
    unfold idxP
    rw [List.any_cons]
    cases hp : P c
    · rw [if_neg (by decide), Bool.false_or]; exact idxP_any P r (i + 1)
    · rw [if_pos rfl, Bool.true_or]; simp
def R124 : List (Nat × Option (Bool × Nat) × PK) := [(6, none, .other)]
def V124 (f : Nat) : List (Nat × MV) := [(1, .fn f []), (2, .bool true), (10, .ptr 0 0)]
def K124 : List Item := [.blk 0, .code (.seq (.rg [⟨some (.v 6), .mv (.c (.int .i64 (-1))), none⟩]) .ret)]
/-- Whatever rune stands at a byte: the function answers what P says of the byte; where it says no the rune is that byte. -/
def Fits (f : Nat) (P : UInt8 → Bool) (s : List UInt8) : Prop := ∀ (i : Nat) (c : UInt8), s[i]? = some c → Call Q f [.int .i32 ((Utf8.decode ⟨s.toArray⟩ i).1 : Int)] = some (.bool (P c)) ∧ (P c = false → (Utf8.decode ⟨s.toArray⟩ i).2 = 1)
theorem c124_loop (f : Nat) (P : UInt8 → Bool) (s : List UInt8) (hs : s.length < 1000000) (hf : Fits f P s) : ∀ (r : List UInt8) (i : Nat), s.drop i = r → i + r.length = s.length →
    fin R124 (RunL Q m124k0 m124b0 K124 ⟨V124 f, [], [(0, .iter s i)], 2⟩) = some (.int .i64 (idxP P r i))
  | [], i, hd, hi => by
    have hi' : i = s.length := by simpa using hi
    subst hi'
    have hlt : (s.length < s.length) = False := by simp
    obtain ⟨b', hb'⟩ : ∃ b', b' = m124b0 := ⟨_, rfl⟩
    rw [RunL_eq, show Item.lp m124k0 m124b0 = Item.lp m124k0 b' by rw [hb']]
    simp (maxSteps := 99999999) (disch := first | decide | omega | exact ok_of (by kernel_rfl)) only [m124b0, V124, R124, K124, hlt, Nat.reduceAdd, Nat.reduceMul, Nat.reduceLeDiff, Nat.reduceEqDiff, Nat.reduceLT, reduceCtorEq, cut, Int.reduceLE, Int.reduceLT, Int.reduceToNat, Int.reduceEq, Int.reduceNeg, Int.reduceMul, Int.reduceAdd, Int.reduceSub, bC.u, bN.u, bL.u, bD.u]
    rfl
  | c :: r, i, hd, hi => by
    simp only [List.length_cons] at hi
    have hlt : decide ((i : Int) < (s.length : Int)) = true := by simp; omega
    have i0 : (0 : Int) ≤ (i : Int) := by omega
    have i1 : (i : Int) < (s.length : Int) := by omega
    have hg : s[i]? = some c := by
      have := congrArg (·[0]?) hd
      simpa [List.getElem?_drop] using this
    have hg' : s.getD i 0 = c := by rw [List.getD_eq_getElem?_getD, hg]; rfl
    have hd' : s.drop (i + 1) = r := by
      have := congrArg (List.drop 1) hd
      simpa [List.drop_drop] using this
    have hlt2 : (i < s.length) = True := eq_true (by omega)
    obtain ⟨h1, h2⟩ := hf i c hg
    have ih := c124_loop f P s hs hf r (i + 1) hd' (by omega)
    unfold idxP
    obtain ⟨b', hb'⟩ : ∃ b', b' = m124b0 := ⟨_, rfl⟩
    rw [RunL_eq, show Item.lp m124k0 m124b0 = Item.lp m124k0 b' by rw [hb']]
    cases hp : P c
    · rw [hp] at h1
      have hw := h2 hp
      rw [if_neg (by decide)]
      obtain ⟨rhs, hr⟩ : ∃ y, y = idxP P r (i + 1) := ⟨_, rfl⟩
      rw [← hr]
      simp (maxSteps := 99999999) (disch := first | decide | omega | exact ok_of (by kernel_rfl)) only [m124b0, V124, R124, K124, hlt2, h1, hw, Nat.reduceAdd, Nat.reduceMul, Nat.reduceLeDiff, Nat.reduceEqDiff, Nat.reduceLT, reduceCtorEq, cut, Int.reduceLE, Int.reduceLT, Int.reduceToNat, Int.reduceEq, Int.reduceNeg, Int.reduceMul, Int.reduceAdd, Int.reduceSub, bC.u, bN.u, bL.u, bD.u]
      subst hb'
      refine ((congrArg (fin _) (Run_lp Q _ _ _ _)).trans ?_)
      rw [hr, ← ih]
      exact congrArg (fin R124) (RunL_canon (canon_cong (by kernel_rfl) (by kernel_rfl) (by kernel_rfl)))
    · rw [hp] at h1
      rw [if_pos rfl]
      simp (maxSteps := 99999999) (disch := first | decide | omega | exact ok_of (by kernel_rfl)) only [m124b0, V124, R124, K124, hlt2, h1, Nat.reduceAdd, Nat.reduceMul, Nat.reduceLeDiff, Nat.reduceEqDiff, Nat.reduceLT, reduceCtorEq, cut, Int.reduceLE, Int.reduceLT, Int.reduceToNat, Int.reduceEq, Int.reduceNeg, Int.reduceMul, Int.reduceAdd, Int.reduceSub, bC.u, bN.u, bL.u, bD.u]
theorem c124 (f : Nat) (P : UInt8 → Bool) (s : List UInt8) (hs : s.length < 1000000) (hf : Fits f P s) : Call Q 124 [.str s, .fn f [], .bool true] = some (.int .i64 (idxP P s 0)) := by
  rw [Call_fn Q (m := m124) rfl rfl, ← c124_loop f P s hs hf s 0 rfl (by omega)]
  simp (maxSteps := 99999999) (disch := first | decide | omega | exact ok_of (by kernel_rfl)) only [m124, Run_loop, Nat.reduceAdd, Nat.reduceMul, Nat.reduceLeDiff, Nat.reduceEqDiff, Nat.reduceLT, reduceCtorEq, cut, Int.reduceLE, Int.reduceLT, Int.reduceToNat, Int.reduceEq, Int.reduceNeg, Int.reduceMul, Int.reduceAdd, Int.reduceSub, bC.u, bN.u, bL.u, bD.u]
  exact congrArg (fin R124) (RunL_canon (canon_cong (by kernel_rfl) (by kernel_rfl) (by kernel_rfl)))
theorem c65 (f : Nat) (P : UInt8 → Bool) (s : List UInt8) (hs : s.length < 1000000) (hf : Fits f P s) : Call Q 65 [.str s, .fn f []] = some (.bool (s.any P)) := by
  have h := c124 f P s hs hf
  have h96 : Call Q 96 [.str s, .fn f []] = some (.int .i64 (idxP P s 0)) := by
    rw [Call_fn Q (m := m96) rfl rfl]
    simp (maxSteps := 99999999) (disch := first | decide | omega | exact ok_of (by kernel_rfl)) only [m96, h, Nat.reduceAdd, Nat.reduceMul, Nat.reduceLeDiff, Nat.reduceEqDiff, Nat.reduceLT, reduceCtorEq, cut, Int.reduceLE, Int.reduceLT, Int.reduceToNat, Int.reduceEq, Int.reduceNeg, Int.reduceMul, Int.reduceAdd, Int.reduceSub, bC.u, bN.u, bL.u, bD.u]
  have h0 := idxP_any P s 0
  rw [Call_fn Q (m := m65) rfl rfl]
  simp (maxSteps := 99999999) (disch := first | decide | omega | exact ok_of (by kernel_rfl)) only [m65, h96, h0, Nat.reduceAdd, Nat.reduceMul, Nat.reduceLeDiff, Nat.reduceEqDiff, Nat.reduceLT, reduceCtorEq, cut, Int.reduceLE, Int.reduceLT, Int.reduceToNat, Int.reduceEq, Int.reduceNeg, Int.reduceMul, Int.reduceAdd, Int.reduceSub, bC.u, bN.u, bL.u, bD.u]
def high (c : UInt8) : Bool := decide (128 ≤ c.toNat)
def badC (c : UInt8) : Bool := !okC c
theorem c78 (n : Int) : Call Q 78 [.int .i32 n] = some (.bool (decide (128 ≤ n))) := by
  rw [Call_fn Q (m := m78) rfl rfl]
  simp (maxSteps := 99999999) (disch := first | decide | omega | exact ok_of (by kernel_rfl)) only [m78, Nat.reduceAdd, Nat.reduceMul, Nat.reduceLeDiff, Nat.reduceEqDiff, Nat.reduceLT, reduceCtorEq, cut, Int.reduceLE, Int.reduceLT, Int.reduceToNat, Int.reduceEq, Int.reduceNeg, Int.reduceMul, Int.reduceAdd, Int.reduceSub, bC.u, bN.u, bL.u, bD.u]
theorem letters : ((List.range 128).all fun c => isB (callF Q 40 66 [.int .i32 (c : Int)]) (badC (UInt8.ofNat c))) = true := by kernel_rfl
theorem decodeN_high (n b0 b1 b2 b3 : Nat) (h : 128 ≤ b0) : 128 ≤ (Lib.decodeN n b0 b1 b2 b3).1 := by
  unfold Lib.decodeN
  repeat' split
  all_goals simp only
  all_goals omega
theorem dec_at {s : List UInt8} {i : Nat} {c : UInt8} (h : s[i]? = some c) : (c.toNat < 128 → Utf8.decode ⟨s.toArray⟩ i = (c.toNat, 1)) ∧ (128 ≤ c.toNat → 128 ≤ (Utf8.decode ⟨s.toArray⟩ i).1) := by
  have hg : s.getD i 0 = c := by rw [List.getD_eq_getElem?_getD, h]; rfl
  have e : Utf8.decode ⟨s.toArray⟩ i = Lib.decodeN (s.length - i) (s.getD i 0).toNat (s.getD (i + 1) 0).toNat (s.getD (i + 2) 0).toNat (s.getD (i + 3) 0).toNat := Lib.decode_N ⟨s.toArray⟩ i
  rw [e, hg]
  refine ⟨fun hc => ?_, fun hc => decodeN_high _ _ _ _ _ hc⟩
  unfold Lib.decodeN
  rw [if_pos hc]
theorem fits_high (s : List UInt8) : Fits 78 high s := by
  intro i c h
  obtain ⟨h1, h2⟩ := dec_at h
  rw [c78]
  unfold high
  by_cases hc : c.toNat < 128
  · have e := h1 hc
    refine ⟨?_, fun _ => by rw [e]⟩
    rw [e]
    have : decide ((128 : Int) ≤ ((c.toNat : Nat) : Int)) = decide (128 ≤ c.toNat) := by rw [Bool.eq_iff_iff]; simp; omega
    rw [this]
  · have := h2 (by omega)
    rw [decide_eq_true (show (128 : Int) ≤ ((Utf8.decode ⟨s.toArray⟩ i).1 : Int) by omega), decide_eq_true (show 128 ≤ c.toNat by omega)]
    exact ⟨rfl, fun h => by cases h⟩
theorem fits_bad (s : List UInt8) (hs : s.any high = false) : Fits 66 badC s := by
  intro i c h
  obtain ⟨h1, h2⟩ := dec_at h
  have hc : c.toNat < 128 := by
    have := List.any_eq_false.1 hs c (List.mem_of_getElem? h)
    unfold high at this
    simpa using this
  have e := h1 hc
  refine ⟨?_, fun _ => by rw [e]⟩
  rw [e]
  have := List.all_eq_true.1 letters c.toNat (List.mem_range.2 hc)
  have := isB_ok this
  rw [UInt8.ofNat_toNat] at this
  exact Call_iff.2 ⟨40, this⟩

/-! ### Small letters -/
def R29 : List (Nat × Option (Bool × Nat) × PK) := [(2, none, .other)]
def V29 (n i : Nat) : List (Nat × MV) := [(3, .own 0 n), (8, .own 0 n), (9, .int .i64 (n : Int)), (10, .int .i64 (i : Int))]
def K29 : List Item := [.blk 0, .code (.seq (.rg [⟨some (.t 28), .mv (.v 3), none⟩, ⟨some (.t 29), .b2s (.t 28), none⟩, ⟨some (.v 2), .mv (.t 29), none⟩]) .ret)]
theorem c29_loop : ∀ (r : List UInt8) (b : List UInt8) (i : Nat), b.length < 1000000 → b.drop i = r → i + r.length = b.length →
    fin R29 (RunL Q m29k0 m29b0 K29 ⟨V29 b.length i, [], [(0, .byt b false)], 2⟩) = some (.str (b.take i ++ r.map smallB))
  | [], b, i, hb, hd, hi => by
    have hi' : i = b.length := by simpa using hi
    subst hi'
    have hlt : decide ((b.length : Int) < (b.length : Int)) = false := by simp
    rw [List.take_length, List.map_nil, List.append_nil]
    obtain ⟨b', hb'⟩ : ∃ b', b' = m29b0 := ⟨_, rfl⟩
    rw [RunL_eq, show Item.lp m29k0 m29b0 = Item.lp m29k0 b' by rw [hb']]
    simp (maxSteps := 99999999) (disch := first | decide | omega | exact ok_of (by kernel_rfl)) only [m29b0, V29, R29, K29, hlt, Nat.reduceAdd, Nat.reduceMul, Nat.reduceLeDiff, Nat.reduceEqDiff, Nat.reduceLT, reduceCtorEq, cut, Int.reduceLE, Int.reduceLT, Int.reduceToNat, Int.reduceEq, Int.reduceNeg, Int.reduceMul, Int.reduceAdd, Int.reduceSub, bC.u, bN.u, bD.u]
  | c :: r, b, i, hb, hd, hi => by
    simp only [List.length_cons] at hi
    have hlt : decide ((i : Int) < (b.length : Int)) = true := by simp; omega
    have i0 : (0 : Int) ≤ (i : Int) := by omega
    have i1 : (i : Int) < (b.length : Int) := by omega
    have hg : b[i]? = some c := by
      have := congrArg (·[0]?) hd
      simpa [List.getElem?_drop] using this
    have hg' : b.getD i 0 = c := by rw [List.getD_eq_getElem?_getD, hg]; rfl
    have hd' : b.drop (i + 1) = r := by
      have := congrArg (List.drop 1) hd
      simpa [List.drop_drop] using this
    have e : ((i : Int) + 1) = ((i + 1 : Nat) : Int) := by omega
    have hin : i < b.length := by omega
    have ht : b.take (i + 1) = b.take i ++ [c] := by rw [List.take_add_one, hg]; rfl
    have hcl := c.toNat_lt
    by_cases h1 : 65 ≤ c.toNat ∧ c.toNat ≤ 90
    · have q1 : decide ((65 : Int) ≤ (c.toNat : Int)) = true := by simp; omega
      have q2 : decide ((c.toNat : Int) ≤ 90) = true := by simp; omega
      have e32 : (c.toNat : Int) + 32 = ((smallB c).toNat : Int) := by
        unfold smallB
        rw [if_pos h1, UInt8.toNat_add]
        have : (32 : UInt8).toNat = 32 := rfl
        omega
      have e32b : 32 + (c.toNat : Int) = ((smallB c).toNat : Int) := by omega
      have hl2 : (b.set i (smallB c)).length = b.length := List.length_set
      have hd2 : (b.set i (smallB c)).drop (i + 1) = r := by rw [List.drop_set, if_pos (by omega), hd']
      have ht2 : (b.set i (smallB c)).take (i + 1) = b.take i ++ [smallB c] := by
        rw [List.take_add_one, List.getElem?_set_self hin, List.take_set, List.set_eq_of_length_le (by rw [List.length_take]; omega)]
        rfl
      have ih := c29_loop r (b.set i (smallB c)) (i + 1) (by omega) hd2 (by omega)
      rw [ht2, hl2] at ih
      rw [List.map_cons, show b.take i ++ smallB c :: r.map smallB = b.take i ++ [smallB c] ++ r.map smallB by simp, ← ih]
      obtain ⟨rhs, hr⟩ : ∃ z, z = fin R29 (RunL Q m29k0 m29b0 K29 ⟨V29 b.length (i + 1), [], [(0, .byt (b.set i (smallB c)) false)], 2⟩) := ⟨_, rfl⟩
      rw [← hr]
      obtain ⟨b', hb'⟩ : ∃ b', b' = m29b0 := ⟨_, rfl⟩
      rw [RunL_eq, show Item.lp m29k0 m29b0 = Item.lp m29k0 b' by rw [hb']]
      simp (maxSteps := 99999999) (disch := first | decide | omega | exact ok_of (by kernel_rfl)) only [m29b0, V29, R29, K29, hlt, i0, i1, hg, hg', hin, q1, q2, e32, e32b, Nat.reduceAdd, Nat.reduceMul, Nat.reduceLeDiff, Nat.reduceEqDiff, Nat.reduceLT, reduceCtorEq, cut, Int.reduceLE, Int.reduceLT, Int.reduceToNat, Int.reduceEq, Int.reduceNeg, Int.reduceMul, Int.reduceAdd, Int.reduceSub, bC.u, bN.u, bL.u, bD.u]
      subst hb'
      refine ((congrArg (fin _) (Run_lp Q _ _ _ _)).trans ?_)
      rw [hr]
      exact congrArg (fin R29) (RunL_canon (canon_cong (Eq.trans (by kernel_rfl) (show [(3, MV.own 0 b.length), (8, .own 0 b.length), (9, .int .i64 (b.length : Int)), (10, .int .i64 ((i : Int) + 1))] = V29 b.length (i + 1) from by rw [e]; rfl)) (by kernel_rfl) (by kernel_rfl)))
    · have q1 : decide ((65 : Int) ≤ (c.toNat : Int)) = false ∨ decide ((65 : Int) ≤ (c.toNat : Int)) = true ∧ decide ((c.toNat : Int) ≤ 90) = false := by
        by_cases h2 : 65 ≤ c.toNat
        · exact .inr ⟨by simp; omega, by simp; omega⟩
        · exact .inl (by simp; omega)
      have hsm : smallB c = c := by unfold smallB; rw [if_neg h1]
      have ih := c29_loop r b (i + 1) hb hd' (by omega)
      rw [ht] at ih
      rw [List.map_cons, hsm, show b.take i ++ c :: r.map smallB = b.take i ++ [c] ++ r.map smallB by simp, ← ih]
      obtain ⟨rhs, hr⟩ : ∃ z, z = fin R29 (RunL Q m29k0 m29b0 K29 ⟨V29 b.length (i + 1), [], [(0, .byt b false)], 2⟩) := ⟨_, rfl⟩
      rw [← hr]
      obtain ⟨b', hb'⟩ : ∃ b', b' = m29b0 := ⟨_, rfl⟩
      rw [RunL_eq, show Item.lp m29k0 m29b0 = Item.lp m29k0 b' by rw [hb']]
      rcases q1 with q1 | ⟨q1, q2⟩
      · simp (maxSteps := 99999999) (disch := first | decide | omega | exact ok_of (by kernel_rfl)) only [m29b0, V29, R29, K29, hlt, i0, i1, hg, hg', hin, q1, Nat.reduceAdd, Nat.reduceMul, Nat.reduceLeDiff, Nat.reduceEqDiff, Nat.reduceLT, reduceCtorEq, cut, Int.reduceLE, Int.reduceLT, Int.reduceToNat, Int.reduceEq, Int.reduceNeg, Int.reduceMul, Int.reduceAdd, Int.reduceSub, bC.u, bN.u, bL.u, bD.u]
        subst hb'
        refine ((congrArg (fin _) (Run_lp Q _ _ _ _)).trans ?_)
        rw [hr]
        exact congrArg (fin R29) (RunL_canon (canon_cong (Eq.trans (by kernel_rfl) (show [(3, MV.own 0 b.length), (8, .own 0 b.length), (9, .int .i64 (b.length : Int)), (10, .int .i64 ((i : Int) + 1))] = V29 b.length (i + 1) from by rw [e]; rfl)) (by kernel_rfl) (by kernel_rfl)))
      · simp (maxSteps := 99999999) (disch := first | decide | omega | exact ok_of (by kernel_rfl)) only [m29b0, V29, R29, K29, hlt, i0, i1, hg, hg', hin, q1, q2, Nat.reduceAdd, Nat.reduceMul, Nat.reduceLeDiff, Nat.reduceEqDiff, Nat.reduceLT, reduceCtorEq, cut, Int.reduceLE, Int.reduceLT, Int.reduceToNat, Int.reduceEq, Int.reduceNeg, Int.reduceMul, Int.reduceAdd, Int.reduceSub, bC.u, bN.u, bL.u, bD.u]
        subst hb'
        refine ((congrArg (fin _) (Run_lp Q _ _ _ _)).trans ?_)
        rw [hr]
        exact congrArg (fin R29) (RunL_canon (canon_cong (Eq.trans (by kernel_rfl) (show [(3, MV.own 0 b.length), (8, .own 0 b.length), (9, .int .i64 (b.length : Int)), (10, .int .i64 ((i : Int) + 1))] = V29 b.length (i + 1) from by rw [e]; rfl)) (by kernel_rfl) (by kernel_rfl)))
theorem c29 (s : List UInt8) (hs : s.length < 1000000) : Call Q 29 [.str s] = some (.str (s.map smallB)) := by
  have h := c29_loop s s 0 hs rfl (by omega)
  rw [List.take_zero, List.nil_append] at h
  rw [Call_fn Q (m := m29) rfl rfl, ← h]
  simp (maxSteps := 99999999) (disch := first | decide | omega | exact ok_of (by kernel_rfl)) only [m29, Run_loop, Nat.reduceAdd, Nat.reduceMul, Nat.reduceLeDiff, Nat.reduceEqDiff, Nat.reduceLT, reduceCtorEq, cut, Int.reduceLE, Int.reduceLT, Int.reduceToNat, Int.reduceEq, Int.reduceNeg, Int.reduceMul, Int.reduceAdd, Int.reduceSub, bC.u, bN.u, bD.u]
  exact congrArg (fin R29) (RunL_canon (canon_cong (by kernel_rfl) (by kernel_rfl) (by kernel_rfl)))

/-! ### Endings -/
theorem c97 (s w : List UInt8) (hs : s.length < 1000000) : Call Q 97 [.str s, .str w] = some (.bool (decide (w.length ≤ s.length) && decide (s.drop (s.length - w.length) = w))) := by
  rw [Call_fn Q (m := m97) rfl rfl]
  by_cases h : w.length ≤ s.length
  · have h1 : decide ((w.length : Int) ≤ (s.length : Int)) = true := by simp; omega
    have h2 : decide (w.length ≤ s.length) = true := by simp; omega
    have hc : cut s (some (.int .i64 ((s.length : Int) - (w.length : Int)))) none = some (s.drop (s.length - w.length)) := cut_from (by omega) (by omega)
    rw [h2, ← eqStr]
    simp (maxSteps := 99999999) (disch := first | decide | omega | exact ok_of (by kernel_rfl)) only [m97, h1, hc, Nat.reduceAdd, Nat.reduceMul, Nat.reduceLeDiff, Nat.reduceEqDiff, Nat.reduceLT, reduceCtorEq, Int.reduceLE, Int.reduceLT, Int.reduceToNat, Int.reduceEq, Int.reduceNeg, Int.reduceMul, Int.reduceAdd, Int.reduceSub, bC.u, bB.u, bN.u, bL.u, bD.u]
  · have h1 : decide ((w.length : Int) ≤ (s.length : Int)) = false := by simp; omega
    have h2 : decide (w.length ≤ s.length) = false := by simp; omega
    rw [h2]
    simp (maxSteps := 99999999) (disch := first | decide | omega | exact ok_of (by kernel_rfl)) only [m97, h1, Nat.reduceAdd, Nat.reduceMul, Nat.reduceLeDiff, Nat.reduceEqDiff, Nat.reduceLT, reduceCtorEq, cut, Int.reduceLE, Int.reduceLT, Int.reduceToNat, Int.reduceEq, Int.reduceNeg, Int.reduceMul, Int.reduceAdd, Int.reduceSub, bC.u, bB.u, bN.u, bL.u, bD.u]
theorem c67 (s w : List UInt8) (hs : s.length < 1000000) : Call Q 67 [.str s, .str w] = some (.bool (decide (w.length ≤ s.length) && decide (s.drop (s.length - w.length) = w))) := by
  have h := c97 s w hs
  rw [Call_fn Q (m := m67) rfl rfl]
  simp (maxSteps := 99999999) (disch := first | decide | omega | exact ok_of (by kernel_rfl)) only [m67, h, Nat.reduceAdd, Nat.reduceMul, Nat.reduceLeDiff, Nat.reduceEqDiff, Nat.reduceLT, reduceCtorEq, cut, Int.reduceLE, Int.reduceLT, Int.reduceToNat, Int.reduceEq, Int.reduceNeg, Int.reduceMul, Int.reduceAdd, Int.reduceSub, bC.u, bN.u, bL.u, bD.u]
theorem c30 (s w : List UInt8) (hs : s.length < 1000000) (hw : w.length < 1000000) : Call Q 30 [.str s, .str w] = some (.bool (endsB s w)) := by
  have h1 := c29 s hs
  have h2 := c29 w hw
  have h3 := c67 (s.map smallB) (w.map smallB) (by simpa using hs)
  have e3 : (decide ((w.map smallB).length ≤ (s.map smallB).length) && decide ((s.map smallB).drop ((s.map smallB).length - (w.map smallB).length) = w.map smallB)) = (decide (w.length ≤ s.length) && alikeB (s.drop (s.length - w.length)) w) := by
    unfold alikeB
    simp only [List.length_map, List.map_drop]
  rw [e3] at h3
  unfold endsB
  rw [Call_fn Q (m := m30) rfl rfl]
  by_cases h : w.length < s.length
  · have q1 : decide ((w.length : Int) < (s.length : Int)) = true := by simp; omega
    rw [decide_eq_true (p := w.length ≤ s.length) (by omega), Bool.true_and] at h3
    rw [decide_eq_true h, Bool.true_and]
    simp (maxSteps := 99999999) (disch := first | decide | omega | exact ok_of (by kernel_rfl)) only [m30, q1, h1, h2, h3, Nat.reduceAdd, Nat.reduceMul, Nat.reduceLeDiff, Nat.reduceEqDiff, Nat.reduceLT, reduceCtorEq, cut, Int.reduceLE, Int.reduceLT, Int.reduceToNat, Int.reduceEq, Int.reduceNeg, Int.reduceMul, Int.reduceAdd, Int.reduceSub, bC.u, bB.u, bN.u, bL.u, bD.u]
  · have q1 : decide ((w.length : Int) < (s.length : Int)) = false := by simp; omega
    rw [decide_eq_false h, Bool.false_and]
    simp (maxSteps := 99999999) (disch := first | decide | omega | exact ok_of (by kernel_rfl)) only [m30, q1, Nat.reduceAdd, Nat.reduceMul, Nat.reduceLeDiff, Nat.reduceEqDiff, Nat.reduceLT, reduceCtorEq, cut, Int.reduceLE, Int.reduceLT, Int.reduceToNat, Int.reduceEq, Int.reduceNeg, Int.reduceMul, Int.reduceAdd, Int.reduceSub, bC.u, bB.u, bN.u, bL.u, bD.u]
end Go.Mini
