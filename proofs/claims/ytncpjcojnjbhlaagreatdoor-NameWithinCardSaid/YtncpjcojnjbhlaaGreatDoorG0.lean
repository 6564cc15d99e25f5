/- Names within limits: the document's small functions over Mini. -/
import Derived.Test.YtncpjcojnjbhlaaGreatDoorE3
namespace Go.Mini
open Go Go.Proofs.YtncpjcojnjbhlaaGreatDoor
set_option maxRecDepth 10000
set_option maxHeartbeats 40000000
set_option linter.unusedSimpArgs false


/-! ### Letters -/
def smallB (c : UInt8) : UInt8 := if 65 ≤ c.toNat ∧ c.toNat ≤ 90 then c + 32 else c
def isI8 : Option MV → UInt8 → Bool
  | some (.int .u8 a), b => a == (b.toNat : Int)
  | _, _ => false
theorem isI8_ok {r : Option MV} {b : UInt8} (h : isI8 r b = true) : r = some (.int .u8 (b.toNat : Int)) := by
  unfold isI8 at h
  split at h
  · rw [beq_iff_eq] at h; rw [h]
  · cases h
theorem small_all : ((List.range 256).all fun c => isI8 (callF Q 40 76 [.int .u8 (c : Int)]) (smallB (UInt8.ofNat c))) = true := by kernel_rfl
theorem c76 (c : UInt8) : Call Q 76 [.int .u8 (c.toNat : Int)] = some (.int .u8 ((smallB c).toNat : Int)) := by
  have := List.all_eq_true.1 small_all c.toNat (List.mem_range.2 c.toNat_lt)
  have := isI8_ok this
  rw [UInt8.ofNat_toNat] at this
  exact Call_iff.2 ⟨40, this⟩
theorem rprint_all : ((List.range 256).all fun c => isB (callF Q 200 85 [.int .u8 (c : Int)]) (printB (UInt8.ofNat c))) = true := by kernel_rfl
theorem c85 (c : UInt8) : Call Q 85 [.int .u8 (c.toNat : Int)] = some (.bool (printB c)) := by
  have := List.all_eq_true.1 rprint_all c.toNat (List.mem_range.2 c.toNat_lt)
  have := isB_ok this
  rw [UInt8.ofNat_toNat] at this
  exact Call_iff.2 ⟨200, this⟩

/-! ### A text's tag -/
def V52 (s : List UInt8) (i : Int) : List (Nat × MV) := [(0, .str s), (3, .int .i64 i)]
def R52 : List (Nat × Option (Bool × Nat) × PK) := [(2, none, .other)]
def K52 : List Item := [.blk 0, .code (.seq (.rg [⟨some (.v 2), .mv (.c (.int .i64 19)), none⟩]) .ret)]
theorem c52_loop (s : List UInt8) (hs : s.length < 1000000) : ∀ (r : List UInt8) (i : Nat), s.drop i = r → i + r.length = s.length →
    fin R52 (RunL Q m52k0 m52b0 K52 ⟨V52 s i, [], [], 1⟩) = some (.int .i64 (tagOf r))
  | [], i, hd, hi => by
    have hi' : i = s.length := by simpa using hi
    subst hi'
    have hlt : decide ((s.length : Int) < (s.length : Int)) = false := by simp
    obtain ⟨b', hb'⟩ : ∃ b', b' = m52b0 := ⟨_, rfl⟩
    rw [RunL_eq, show Item.lp m52k0 m52b0 = Item.lp m52k0 b' by rw [hb']]
    simp (maxSteps := 99999999) (disch := first | decide | omega | exact ok_of (by kernel_rfl)) only [m52b0, V52, R52, K52, hlt, Nat.reduceAdd, Nat.reduceMul, Nat.reduceLeDiff, Nat.reduceEqDiff, Nat.reduceLT, reduceCtorEq, cut, Int.reduceLE, Int.reduceLT, Int.reduceToNat, Int.reduceEq, Int.reduceNeg, Int.reduceMul, Int.reduceAdd, Int.reduceSub, bC.u, bD.u]
    rfl
  | c :: r, i, hd, hi => by
    simp only [List.length_cons] at hi
    have hlt : decide ((i : Int) < (s.length : Int)) = true := by simp; omega
    have i0 : (0 : Int) ≤ (i : Int) := by omega
    have i1 : (i : Int) < (s.length : Int) := by omega
    have hg : s[i]? = some c := by
      have := congrArg (·[0]?) hd
      simpa [List.getElem?_drop] using this
    have hg' : s.getD i 0 = c := by rw [List.getD_eq_getElem?_getD, hg]; rfl
    have hd' : s.drop (i + 1) = r := by
      have := congrArg (List.drop 1) hd
      simpa [List.drop_drop] using this
    have hc := c85 c
    have ih := c52_loop s hs r (i + 1) hd' (by omega)
    have e : ((i : Int) + 1) = ((i + 1 : Nat) : Int) := by omega
    unfold tagOf
    rw [List.all_cons]
    obtain ⟨b', hb'⟩ : ∃ b', b' = m52b0 := ⟨_, rfl⟩
    rw [RunL_eq, show Item.lp m52k0 m52b0 = Item.lp m52k0 b' by rw [hb']]
    cases hp : printB c
    · rw [hp] at hc
      simp (maxSteps := 99999999) (disch := first | decide | omega | exact ok_of (by kernel_rfl)) only [m52b0, V52, R52, K52, hlt, i0, i1, hg', hc, Nat.reduceAdd, Nat.reduceMul, Nat.reduceLeDiff, Nat.reduceEqDiff, Nat.reduceLT, reduceCtorEq, cut, Int.reduceLE, Int.reduceLT, Int.reduceToNat, Int.reduceEq, Int.reduceNeg, Int.reduceMul, Int.reduceAdd, Int.reduceSub, bC.u, bN.u, bL.u, bD.u]
      rfl
    · rw [hp] at hc
      simp (maxSteps := 99999999) (disch := first | decide | omega | exact ok_of (by kernel_rfl)) only [m52b0, V52, R52, K52, hlt, i0, i1, hg', hc, Nat.reduceAdd, Nat.reduceMul, Nat.reduceLeDiff, Nat.reduceEqDiff, Nat.reduceLT, reduceCtorEq, cut, Int.reduceLE, Int.reduceLT, Int.reduceToNat, Int.reduceEq, Int.reduceNeg, Int.reduceMul, Int.reduceAdd, Int.reduceSub, bC.u, bN.u, bL.u, bD.u]
      subst hb'
      refine ((congrArg (fin _) (Run_lp Q _ _ _ _)).trans ?_)
      rw [Bool.true_and]; unfold tagOf at ih; rw [← ih]
      exact congrArg (fin R52) (RunL_canon (canon_cong (Eq.trans (by kernel_rfl) (show [(0, MV.str s), (3, .int .i64 ((i : Int) + 1))] = V52 s (i + 1 : Nat) from by rw [e]; rfl)) (by kernel_rfl) (by kernel_rfl)))

theorem c52 (s : List UInt8) (hs : s.length < 1000000) : Call Q 52 [.str s] = some (.int .i64 (tagOf s)) := by
  rw [Call_fn Q (m := m52) rfl rfl, ← c52_loop s hs s 0 rfl (by omega)]
  simp (maxSteps := 99999999) (disch := first | decide | omega | exact ok_of (by kernel_rfl)) only [m52, Run_loop, Nat.reduceAdd, Nat.reduceMul, Nat.reduceLeDiff, Nat.reduceEqDiff, Nat.reduceLT, reduceCtorEq, cut, Int.reduceLE, Int.reduceLT, Int.reduceToNat, Int.reduceEq, Int.reduceNeg, Int.reduceMul, Int.reduceAdd, Int.reduceSub, bC.u, bN.u, bL.u, bD.u]
  exact congrArg (fin R52) (RunL_canon (canon_cong (by kernel_rfl) (by kernel_rfl) (by kernel_rfl)))

/-! ### Alike, but for capital letters -/
def alikeB (a b : List UInt8) : Bool := decide (a.map smallB = b.map smallB)
def R38 : List (Nat × Option (Bool × Nat) × PK) := [(4, none, .other)]
def V38 (a b : List UInt8) (i : Int) : List (Nat × MV) := [(0, .str a), (1, .str b), (5, .int .i64 i)]
def K38 : List Item := [.blk 0, .code (.seq (.rg [⟨some (.v 4), .mv (.c (.bool true)), none⟩]) .ret)]
theorem c38_loop (a b : List UInt8) (hl : a.length < 1000000) (hb : b.length = a.length) : ∀ (r q : List UInt8) (i : Nat), a.drop i = r → b.drop i = q → i + r.length = a.length →
    fin R38 (RunL Q m38k0 m38b0 K38 ⟨V38 a b i, [], [], 1⟩) = some (.bool (alikeB r q))
  | [], q, i, hd, hq, hi => by
    have hi' : i = a.length := by simpa using hi
    subst hi'
    have hlt : decide ((a.length : Int) < (a.length : Int)) = false := by simp
    have hq' : q = [] := by rw [← hq, List.drop_eq_nil_of_le (by omega)]
    subst hq'
    obtain ⟨b', hb'⟩ : ∃ b', b' = m38b0 := ⟨_, rfl⟩
    rw [RunL_eq, show Item.lp m38k0 m38b0 = Item.lp m38k0 b' by rw [hb']]
    simp (maxSteps := 99999999) (disch := first | decide | omega | exact ok_of (by kernel_rfl)) only [m38b0, V38, R38, K38, hlt, Nat.reduceAdd, Nat.reduceMul, Nat.reduceLeDiff, Nat.reduceEqDiff, Nat.reduceLT, reduceCtorEq, cut, Int.reduceLE, Int.reduceLT, Int.reduceToNat, Int.reduceEq, Int.reduceNeg, Int.reduceMul, Int.reduceAdd, Int.reduceSub, bC.u, bD.u]
    rfl
  | x :: r, [], i, hd, hq, hi => by
    simp only [List.length_cons] at hi
    have := List.drop_eq_nil_iff.1 hq
    omega
  | x :: r, y :: q, i, hd, hq, hi => by
    simp only [List.length_cons] at hi
    have hlt : decide ((i : Int) < (a.length : Int)) = true := by simp; omega
    have i0 : (0 : Int) ≤ (i : Int) := by omega
    have i1 : (i : Int) < (a.length : Int) := by omega
    have hg : a[i]? = some x := by
      have := congrArg (·[0]?) hd
      simpa [List.getElem?_drop] using this
    have hg' : a.getD i 0 = x := by rw [List.getD_eq_getElem?_getD, hg]; rfl
    have hd' : a.drop (i + 1) = r := by
      have := congrArg (List.drop 1) hd
      simpa [List.drop_drop] using this
    have hlt2 : decide ((i : Int) < (b.length : Int)) = true := by simp; omega
    have i02 : (0 : Int) ≤ (i : Int) := by omega
    have i12 : (i : Int) < (b.length : Int) := by omega
    have hg2 : b[i]? = some y := by
      have := congrArg (·[0]?) hq
      simpa [List.getElem?_drop] using this
    have hg'2 : b.getD i 0 = y := by rw [List.getD_eq_getElem?_getD, hg2]; rfl
    have hd'2 : b.drop (i + 1) = q := by
      have := congrArg (List.drop 1) hq
      simpa [List.drop_drop] using this
    have ca := c76 x
    have cb := c76 y
    have ih := c38_loop a b hl hb r q (i + 1) hd' hd'2 (by omega)
    have e : ((i : Int) + 1) = ((i + 1 : Nat) : Int) := by omega
    obtain ⟨b', hb'⟩ : ∃ b', b' = m38b0 := ⟨_, rfl⟩
    rw [RunL_eq, show Item.lp m38k0 m38b0 = Item.lp m38k0 b' by rw [hb']]
    by_cases h1 : smallB x = smallB y
    · have hn : (((smallB x).toNat : Int) != ((smallB y).toNat : Int)) = false := by rw [h1]; exact bne_self_eq_false _
      have he : alikeB (x :: r) (y :: q) = alikeB r q := by unfold alikeB; simp [h1]
      rw [he]
      obtain ⟨rhs, hr⟩ : ∃ x, x = alikeB r q := ⟨_, rfl⟩
      rw [← hr]
      simp (maxSteps := 99999999) (disch := first | decide | omega | exact ok_of (by kernel_rfl)) only [m38b0, V38, R38, K38, hlt, i0, i1, i12, hg', hg'2, ca, cb, hn, Nat.reduceAdd, Nat.reduceMul, Nat.reduceLeDiff, Nat.reduceEqDiff, Nat.reduceLT, reduceCtorEq, cut, Int.reduceLE, Int.reduceLT, Int.reduceToNat, Int.reduceEq, Int.reduceNeg, Int.reduceMul, Int.reduceAdd, Int.reduceSub, bC.u, bN.u, bL.u, bR.u, bD.u]
      subst hb'
      refine ((congrArg (fin _) (Run_lp Q _ _ _ _)).trans ?_)
      rw [hr, ← ih]
      exact congrArg (fin R38) (RunL_canon (canon_cong (Eq.trans (by kernel_rfl) (show [(0, MV.str a), (1, .str b), (5, .int .i64 ((i : Int) + 1))] = V38 a b (i + 1 : Nat) from by rw [e]; rfl)) (by kernel_rfl) (by kernel_rfl)))

    · have hn : (((smallB x).toNat : Int) != ((smallB y).toNat : Int)) = true := by
        rw [bne_iff_ne]
        intro h
        exact h1 (UInt8.toNat_inj.1 (by omega))
      have he : alikeB (x :: r) (y :: q) = false := by unfold alikeB; simp [h1]
      rw [he]
      simp (maxSteps := 99999999) (disch := first | decide | omega | exact ok_of (by kernel_rfl)) only [m38b0, V38, R38, K38, hlt, i0, i1, i12, hg', hg'2, ca, cb, hn, Nat.reduceAdd, Nat.reduceMul, Nat.reduceLeDiff, Nat.reduceEqDiff, Nat.reduceLT, reduceCtorEq, cut, Int.reduceLE, Int.reduceLT, Int.reduceToNat, Int.reduceEq, Int.reduceNeg, Int.reduceMul, Int.reduceAdd, Int.reduceSub, bC.u, bN.u, bL.u, bR.u, bD.u]
theorem c38 (a b : List UInt8) (hl : a.length < 1000000) : Call Q 38 [.str a, .str b] = some (.bool (alikeB a b)) := by
  rw [Call_fn Q (m := m38) rfl rfl]
  by_cases hb : b.length = a.length
  · have hn : ((a.length : Int) != (b.length : Int)) = false := by rw [hb]; exact bne_self_eq_false _
    rw [← c38_loop a b hl hb a b 0 rfl rfl (by omega)]
    simp (maxSteps := 99999999) (disch := first | decide | omega | exact ok_of (by kernel_rfl)) only [m38, Run_loop, hn, Nat.reduceAdd, Nat.reduceMul, Nat.reduceLeDiff, Nat.reduceEqDiff, Nat.reduceLT, reduceCtorEq, cut, Int.reduceLE, Int.reduceLT, Int.reduceToNat, Int.reduceEq, Int.reduceNeg, Int.reduceMul, Int.reduceAdd, Int.reduceSub, bC.u, bN.u, bL.u, bD.u]
    exact congrArg (fin R38) (RunL_canon (canon_cong (by kernel_rfl) (by kernel_rfl) (by kernel_rfl)))
  · have hn : ((a.length : Int) != (b.length : Int)) = true := by rw [bne_iff_ne]; omega
    have he : alikeB a b = false := by
      unfold alikeB
      rw [decide_eq_false_iff_not]
      intro h
      have := congrArg List.length h
      simp only [List.length_map] at this
      exact hb this.symm
    rw [he]
    simp (maxSteps := 99999999) (disch := first | decide | omega | exact ok_of (by kernel_rfl)) only [m38, Run_loop, hn, Nat.reduceAdd, Nat.reduceMul, Nat.reduceLeDiff, Nat.reduceEqDiff, Nat.reduceLT, reduceCtorEq, cut, Int.reduceLE, Int.reduceLT, Int.reduceToNat, Int.reduceEq, Int.reduceNeg, Int.reduceMul, Int.reduceAdd, Int.reduceSub, bC.u, bN.u, bL.u, bD.u]

def endsB (s w : List UInt8) : Bool := decide (w.length < s.length) && alikeB (s.drop (s.length - w.length)) w
theorem c39 (s w : List UInt8) (hl : s.length < 1000000) : Call Q 39 [.str s, .str w] = some (.bool (endsB s w)) := by
  rw [Call_fn Q (m := m39) rfl rfl]
  unfold endsB
  by_cases h : w.length < s.length
  · have h1 : decide ((w.length : Int) < (s.length : Int)) = true := by simp; omega
    have h2 : decide (w.length < s.length) = true := by simp; omega
    have hc : cut s (some (.int .i64 ((s.length : Int) - (w.length : Int)))) none = some (s.drop (s.length - w.length)) := by
      simp only [cut]
      rw [if_pos ⟨by omega, by omega, by omega⟩, show ((s.length : Int) - (w.length : Int)).toNat = s.length - w.length by omega, List.take_of_length_le (by simp)]
    have h38 := c38 (s.drop (s.length - w.length)) w (by rw [List.length_drop]; omega)
    rw [h2]
    simp (maxSteps := 99999999) (disch := first | decide | omega | exact ok_of (by kernel_rfl)) only [m39, h1, hc, h38, Nat.reduceAdd, Nat.reduceMul, Nat.reduceLeDiff, Nat.reduceEqDiff, Nat.reduceLT, reduceCtorEq, Int.reduceLE, Int.reduceLT, Int.reduceToNat, Int.reduceEq, Int.reduceNeg, Int.reduceMul, Int.reduceAdd, Int.reduceSub, bC.u, bB.u, bN.u, bL.u, bD.u]
  · have h1 : decide ((w.length : Int) < (s.length : Int)) = false := by simp; omega
    have h2 : decide (w.length < s.length) = false := by simp; omega
    rw [h2]
    simp (maxSteps := 99999999) (disch := first | decide | omega | exact ok_of (by kernel_rfl)) only [m39, h1, Nat.reduceAdd, Nat.reduceMul, Nat.reduceLeDiff, Nat.reduceEqDiff, Nat.reduceLT, reduceCtorEq, cut, Int.reduceLE, Int.reduceLT, Int.reduceToNat, Int.reduceEq, Int.reduceNeg, Int.reduceMul, Int.reduceAdd, Int.reduceSub, bC.u, bB.u, bN.u, bL.u, bD.u]

/-! ### The place of a byte -/
def atB : List UInt8 → UInt8 → Nat → Int
  | [], _, _ => -1
  | c :: r, x, i => if c = x then i else atB r x (i + 1)
def R75 : List (Nat × Option (Bool × Nat) × PK) := [(4, none, .other)]
def V75 (s : List UInt8) (x : UInt8) (i : Int) : List (Nat × MV) := [(0, .str s), (1, .int .u8 (x.toNat : Int)), (5, .int .i64 i)]
def K75 : List Item := [.blk 0, .code (.seq (.rg [⟨some (.v 4), .mv (.c (.int .i64 (-1))), none⟩]) .ret)]
theorem c75_loop (s : List UInt8) (hs : s.length < 1000000) (x : UInt8) : ∀ (r : List UInt8) (i : Nat), s.drop i = r → i + r.length = s.length →
    fin R75 (RunL Q m75k0 m75b0 K75 ⟨V75 s x i, [], [], 1⟩) = some (.int .i64 (atB r x i))
  | [], i, hd, hi => by
    have hi' : i = s.length := by simpa using hi
    subst hi'
    have hlt : decide ((s.length : Int) < (s.length : Int)) = false := by simp
    obtain ⟨b', hb'⟩ : ∃ b', b' = m75b0 := ⟨_, rfl⟩
    rw [RunL_eq, show Item.lp m75k0 m75b0 = Item.lp m75k0 b' by rw [hb']]
    simp (maxSteps := 99999999) (disch := first | decide | omega | exact ok_of (by kernel_rfl)) only [m75b0, V75, R75, K75, hlt, Nat.reduceAdd, Nat.reduceMul, Nat.reduceLeDiff, Nat.reduceEqDiff, Nat.reduceLT, reduceCtorEq, cut, Int.reduceLE, Int.reduceLT, Int.reduceToNat, Int.reduceEq, Int.reduceNeg, Int.reduceMul, Int.reduceAdd, Int.reduceSub, bC.u, bD.u]
    rfl
  | c :: r, i, hd, hi => by
    simp only [List.length_cons] at hi
    have hlt : decide ((i : Int) < (s.length : Int)) = true := by simp; omega
    have i0 : (0 : Int) ≤ (i : Int) := by omega
    have i1 : (i : Int) < (s.length : Int) := by omega
    have hg : s[i]? = some c := by
      have := congrArg (·[0]?) hd
      simpa [List.getElem?_drop] using this
    have hg' : s.getD i 0 = c := by rw [List.getD_eq_getElem?_getD, hg]; rfl
    have hd' : s.drop (i + 1) = r := by
      have := congrArg (List.drop 1) hd
      simpa [List.drop_drop] using this
    have ih := c75_loop s hs x r (i + 1) hd' (by omega)
    have e : ((i : Int) + 1) = ((i + 1 : Nat) : Int) := by omega
    unfold atB
    obtain ⟨b', hb'⟩ : ∃ b', b' = m75b0 := ⟨_, rfl⟩
    rw [RunL_eq, show Item.lp m75k0 m75b0 = Item.lp m75k0 b' by rw [hb']]
    by_cases hp : c = x
    · have hq : ((c.toNat : Int) == (x.toNat : Int)) = true := by rw [hp]; exact beq_self_eq_true _
      have hq2 : (c == x) = true := by rw [hp]; exact beq_self_eq_true _
      rw [if_pos hp]
      simp (maxSteps := 99999999) (disch := first | decide | omega | exact ok_of (by kernel_rfl)) only [m75b0, V75, R75, K75, hlt, i0, i1, hg', hq, hq2, Nat.reduceAdd, Nat.reduceMul, Nat.reduceLeDiff, Nat.reduceEqDiff, Nat.reduceLT, reduceCtorEq, cut, Int.reduceLE, Int.reduceLT, Int.reduceToNat, Int.reduceEq, Int.reduceNeg, Int.reduceMul, Int.reduceAdd, Int.reduceSub, bC.u, bN.u, bL.u, bD.u]
    · have hq : ((c.toNat : Int) == (x.toNat : Int)) = false := by
        rw [beq_eq_false_iff_ne]
        intro h
        exact hp (UInt8.toNat_inj.1 (by omega))
      have hq2 : (c == x) = false := by rw [beq_eq_false_iff_ne]; exact hp
      rw [if_neg hp]
      obtain ⟨rhs, hr⟩ : ∃ y, y = atB r x (i + 1) := ⟨_, rfl⟩
      rw [← hr]
      simp (maxSteps := 99999999) (disch := first | decide | omega | exact ok_of (by kernel_rfl)) only [m75b0, V75, R75, K75, hlt, i0, i1, hg', hq, hq2, Nat.reduceAdd, Nat.reduceMul, Nat.reduceLeDiff, Nat.reduceEqDiff, Nat.reduceLT, reduceCtorEq, cut, Int.reduceLE, Int.reduceLT, Int.reduceToNat, Int.reduceEq, Int.reduceNeg, Int.reduceMul, Int.reduceAdd, Int.reduceSub, bC.u, bN.u, bL.u, bD.u]
      subst hb'
      refine ((congrArg (fin _) (Run_lp Q _ _ _ _)).trans ?_)
      rw [hr, ← ih]
      exact congrArg (fin R75) (RunL_canon (canon_cong (Eq.trans (by kernel_rfl) (show [(0, MV.str s), (1, .int .u8 (x.toNat : Int)), (5, .int .i64 ((i : Int) + 1))] = V75 s x (i + 1 : Nat) from by rw [e]; rfl)) (by kernel_rfl) (by kernel_rfl)))

theorem c75 (s : List UInt8) (hs : s.length < 1000000) (x : UInt8) : Call Q 75 [.str s, .int .u8 (x.toNat : Int)] = some (.int .i64 (atB s x 0)) := by
  rw [Call_fn Q (m := m75) rfl rfl, ← c75_loop s hs x s 0 rfl (by omega)]
  simp (maxSteps := 99999999) (disch := first | decide | omega | exact ok_of (by kernel_rfl)) only [m75, Run_loop, Nat.reduceAdd, Nat.reduceMul, Nat.reduceLeDiff, Nat.reduceEqDiff, Nat.reduceLT, reduceCtorEq, cut, Int.reduceLE, Int.reduceLT, Int.reduceToNat, Int.reduceEq, Int.reduceNeg, Int.reduceMul, Int.reduceAdd, Int.reduceSub, bC.u, bN.u, bL.u, bD.u]
  exact congrArg (fin R75) (RunL_canon (canon_cong (by kernel_rfl) (by kernel_rfl) (by kernel_rfl)))
end Go.Mini
