/- Texts and DNs over Mini: small functions. -/
import Derived.Test.YtncpjcojnjbhlaaGreatDoorD2
namespace Go.Mini
open Go Go.Proofs.YtncpjcojnjbhlaaGreatDoor
set_option maxRecDepth 10000
set_option linter.unusedSimpArgs false

/-! ### Printable texts -/
def printB (c : UInt8) : Bool := (decide (97 ≤ c.toNat) && decide (c.toNat ≤ 122)) || (decide (65 ≤ c.toNat) && decide (c.toNat ≤ 90)) || (decide (48 ≤ c.toNat) && decide (c.toNat ≤ 57)) || [32, 39, 40, 41, 43, 44, 45, 46, 47, 58, 61, 63].contains c
def isB : Option MV → Bool → Bool
  | some (.bool a), b => a == b
  | _, _ => false
theorem isB_ok {r : Option MV} {b : Bool} (h : isB r b = true) : r = some (.bool b) := by
  unfold isB at h
  split at h
  · rw [beq_iff_eq] at h; rw [h]
  · cases h
theorem print_all : ((List.range 256).all fun c => isB (callF Q 40 81 [.int .u8 (c : Int)]) (printB (UInt8.ofNat c))) = true := by kernel_rfl
theorem c81 (c : UInt8) : Call Q 81 [.int .u8 (c.toNat : Int)] = some (.bool (printB c)) := by
  have := List.all_eq_true.1 print_all c.toNat (List.mem_range.2 c.toNat_lt)
  have := isB_ok this
  rw [UInt8.ofNat_toNat] at this
  exact Call_iff.2 ⟨40, this⟩

def V47 (s : List UInt8) (n i : Int) : List (Nat × MV) := [(0, .str s), (5, .int .i64 n), (6, .int .i64 i)]
def R47 : List (Nat × Option (Bool × Nat) × PK) := [(2, none, .other)]
def K47 : List Item := [.blk 0, .code (.seq (.rg [⟨some (.v 2), .mv (.c (.int .i64 19)), none⟩]) .ret)]
theorem c47_loop (s : List UInt8) (hs : s.length < 1000000) : ∀ (r : List UInt8) (i : Nat), s.drop i = r → i + r.length = s.length →
    fin R47 (RunL Q m47k0 m47b0 K47 ⟨V47 s s.length i, [], [], 1⟩) = some (.int .i64 (if r.all printB then 19 else 12))
  | [], i, hd, hi => by
    have hi' : i = s.length := by simpa using hi
    subst hi'
    have hlt : decide ((s.length : Int) < (s.length : Int)) = false := by simp
    obtain ⟨b', hb'⟩ : ∃ b', b' = m47b0 := ⟨_, rfl⟩
    rw [RunL_eq, show Item.lp m47k0 m47b0 = Item.lp m47k0 b' by rw [hb']]
    simp (maxSteps := 99999999) (disch := first | decide | omega | exact ok_of (by kernel_rfl)) only [m47b0, V47, R47, K47, hlt, Nat.reduceAdd, Nat.reduceMul, Nat.reduceLeDiff, Nat.reduceEqDiff, Nat.reduceLT, reduceCtorEq, cut, Int.reduceLE, Int.reduceLT, Int.reduceToNat, Int.reduceEq, Int.reduceNeg, Int.reduceMul, Int.reduceAdd, Int.reduceSub, bC.u, bD.u]
  | c :: r, i, hd, hi => by
    simp only [List.length_cons] at hi
    have hlt : decide ((i : Int) < (s.length : Int)) = true := by simp; omega
    have i0 : (0 : Int) ≤ (i : Int) := by omega
    have i1 : (i : Int) < (s.length : Int) := by omega
    have hg : s[i]? = some c := by
      have := congrArg (·[0]?) hd
      simpa [List.getElem?_drop] using this
    have hg' : s.getD i 0 = c := by rw [List.getD_eq_getElem?_getD, hg]; rfl
    have hd' : s.drop (i + 1) = r := by
      have := congrArg (List.drop 1) hd
      simpa [List.drop_drop] using this
    have hc := c81 c
    have ih := c47_loop s hs r (i + 1) hd' (by omega)
    have e : ((i : Int) + 1) = ((i + 1 : Nat) : Int) := by omega
    obtain ⟨b', hb'⟩ : ∃ b', b' = m47b0 := ⟨_, rfl⟩
    rw [RunL_eq, show Item.lp m47k0 m47b0 = Item.lp m47k0 b' by rw [hb']]
    rw [List.all_cons]
    cases hp : printB c
    · rw [hp] at hc
      simp (maxSteps := 99999999) (disch := first | decide | omega | exact ok_of (by kernel_rfl)) only [m47b0, V47, R47, K47, hlt, i0, i1, hg', hc, Nat.reduceAdd, Nat.reduceMul, Nat.reduceLeDiff, Nat.reduceEqDiff, Nat.reduceLT, reduceCtorEq, cut, Int.reduceLE, Int.reduceLT, Int.reduceToNat, Int.reduceEq, Int.reduceNeg, Int.reduceMul, Int.reduceAdd, Int.reduceSub, bC.u, bN.u, bL.u, bD.u]
      rfl
    · rw [hp] at hc
      simp (maxSteps := 99999999) (disch := first | decide | omega | exact ok_of (by kernel_rfl)) only [m47b0, V47, R47, K47, hlt, i0, i1, hg', hc, Nat.reduceAdd, Nat.reduceMul, Nat.reduceLeDiff, Nat.reduceEqDiff, Nat.reduceLT, reduceCtorEq, cut, Int.reduceLE, Int.reduceLT, Int.reduceToNat, Int.reduceEq, Int.reduceNeg, Int.reduceMul, Int.reduceAdd, Int.reduceSub, bC.u, bN.u, bL.u, bD.u]
      subst hb'
      refine ((congrArg (fin _) (Run_lp Q _ _ _ _)).trans ?_)
      rw [Bool.true_and, ← ih]
      exact congrArg (fin R47) (RunL_canon (canon_cong (Eq.trans (by kernel_rfl) (show [(0, MV.str s), (5, .int .i64 (s.length : Int)), (6, .int .i64 ((i : Int) + 1))] = V47 s s.length (i + 1 : Nat) from by rw [e]; rfl)) (by kernel_rfl) (by kernel_rfl)))
theorem c47 (s : List UInt8) (hs : s.length < 1000000) : Call Q 47 [.str s] = some (.int .i64 (if s.all printB then 19 else 12)) := by
  rw [Call_fn Q (m := m47) rfl rfl, ← c47_loop s hs s 0 rfl (by omega)]
  simp (maxSteps := 99999999) (disch := first | decide | omega | exact ok_of (by kernel_rfl)) only [m47, Run_loop, Nat.reduceAdd, Nat.reduceMul, Nat.reduceLeDiff, Nat.reduceEqDiff, Nat.reduceLT, reduceCtorEq, cut, Int.reduceLE, Int.reduceLT, Int.reduceToNat, Int.reduceEq, Int.reduceNeg, Int.reduceMul, Int.reduceAdd, Int.reduceSub, bC.u, bN.u, bL.u, bD.u]
  exact congrArg (fin R47) (RunL_canon (canon_cong (by kernel_rfl) (by kernel_rfl) (by kernel_rfl)))

/-! ### Texts of a DN -/
def textB (s : List UInt8) : Bool := decide (1 ≤ s.length) && decide (s.length ≤ 64) && Lib.validD s
theorem c46 (s : List UInt8) (hs : s.length < 1000000) : Call Q 46 [.str s] = some (.bool (textB s)) := by
  have hv : Call Q 80 [.str s] = some (.bool (Lib.validD s)) := by
    rw [Call_prim Q (g := pValid) rfl]
    simp only [pValid]
    rw [if_pos (by omega)]
  unfold textB
  rw [Call_fn Q (m := m46) rfl rfl]
  have e1 : decide ((1 : Int) ≤ (s.length : Int)) = decide (1 ≤ s.length) := by rw [Bool.eq_iff_iff]; simp; omega
  have e2 : decide ((s.length : Int) ≤ 64) = decide (s.length ≤ 64) := by rw [Bool.eq_iff_iff]; simp; omega
  cases h1 : decide (1 ≤ s.length)
  · simp (maxSteps := 99999999) (disch := first | decide | omega | exact ok_of (by kernel_rfl)) only [m46, e1, e2, h1, hv, Nat.reduceAdd, Nat.reduceMul, Nat.reduceLeDiff, Nat.reduceEqDiff, Nat.reduceLT, reduceCtorEq, cut, Int.reduceLE, Int.reduceLT, Int.reduceToNat, Int.reduceEq, Int.reduceNeg, Int.reduceMul, Int.reduceAdd, Int.reduceSub, bC.u, bN.u, bL.u, bD.u]
    rfl
  · cases h2 : decide (s.length ≤ 64)
    · simp (maxSteps := 99999999) (disch := first | decide | omega | exact ok_of (by kernel_rfl)) only [m46, e1, e2, h1, h2, hv, Nat.reduceAdd, Nat.reduceMul, Nat.reduceLeDiff, Nat.reduceEqDiff, Nat.reduceLT, reduceCtorEq, cut, Int.reduceLE, Int.reduceLT, Int.reduceToNat, Int.reduceEq, Int.reduceNeg, Int.reduceMul, Int.reduceAdd, Int.reduceSub, bC.u, bN.u, bL.u, bD.u]
      rfl
    · simp (maxSteps := 99999999) (disch := first | decide | omega | exact ok_of (by kernel_rfl)) only [m46, e1, e2, h1, h2, hv, Nat.reduceAdd, Nat.reduceMul, Nat.reduceLeDiff, Nat.reduceEqDiff, Nat.reduceLT, reduceCtorEq, cut, Int.reduceLE, Int.reduceLT, Int.reduceToNat, Int.reduceEq, Int.reduceNeg, Int.reduceMul, Int.reduceAdd, Int.reduceSub, bC.u, bN.u, bL.u, bD.u]
      rfl

abbrev Dn := List (List UInt8 × List UInt8)
def attr (a : List UInt8 × List UInt8) : MV := .agg [.str a.1, .str a.2]
def attrs (d : Dn) : List MV := d.map attr
theorem attrs_length (d : Dn) : (attrs d).length = d.length := by simp [attrs]
theorem attrs_get {d : Dn} {i : Nat} {a : List UInt8 × List UInt8} (h : d[i]? = some a) : (attrs d)[i]? = some (.agg [.str a.1, .str a.2]) := by
  simp [attrs, h, attr]

theorem c55 (t x : List UInt8) (hx : x.length < 1000000) : Call Q 55 [.agg [.str t, .str x]] = some (.bool (!textB x)) := by
  have h := c46 x hx
  rw [Call_fn Q (m := m55) rfl rfl]
  simp (maxSteps := 99999999) (disch := first | decide | omega | exact ok_of (by kernel_rfl)) only [m55, h, Nat.reduceAdd, Nat.reduceMul, Nat.reduceLeDiff, Nat.reduceEqDiff, Nat.reduceLT, reduceCtorEq, cut, Int.reduceLE, Int.reduceLT, Int.reduceToNat, Int.reduceEq, Int.reduceNeg, Int.reduceMul, Int.reduceAdd, Int.reduceSub, bC.u, bN.u, bL.u, bD.u]

/-- The first that isn't right, or -1. -/
def badAt : Dn → Int → Int
  | [], _ => -1
  | a :: r, i => if textB a.2 then badAt r (i + 1) else i
def R86 : List (Nat × Option (Bool × Nat) × PK) := [(4, none, .other)]
def V86 (d : Dn) (n i : Int) : List (Nat × MV) := [(0, .sl 2 (attrs d)), (1, .fn 55 []), (7, .int .i64 n), (8, .int .i64 i)]
def K86 : List Item := [.blk 0, .code (.seq (.rg [⟨some (.v 4), .mv (.c (.int .i64 (-1))), none⟩]) .ret)]
def okLens (d : Dn) : Prop := d.length < 1000000 ∧ ∀ a ∈ d, a.1.length < 1000000 ∧ a.2.length < 1000000
theorem c86_loop (d : Dn) (hl : okLens d) : ∀ (r : Dn) (i : Nat), d.drop i = r → i + r.length = d.length →
    fin R86 (RunL Q m86k0 m86b0 K86 ⟨V86 d d.length i, [], [], 1⟩) = some (.int .i64 (badAt r i))
  | [], i, hd, hi => by
    have hi' : i = d.length := by simpa using hi
    subst hi'
    have hlt : decide ((d.length : Int) < (d.length : Int)) = false := by simp
    obtain ⟨b', hb'⟩ : ∃ b', b' = m86b0 := ⟨_, rfl⟩
    rw [RunL_eq, show Item.lp m86k0 m86b0 = Item.lp m86k0 b' by rw [hb']]
    simp (maxSteps := 99999999) (disch := first | decide | omega | exact ok_of (by kernel_rfl)) only [m86b0, V86, R86, K86, hlt, Nat.reduceAdd, Nat.reduceMul, Nat.reduceLeDiff, Nat.reduceEqDiff, Nat.reduceLT, reduceCtorEq, cut, Int.reduceLE, Int.reduceLT, Int.reduceToNat, Int.reduceEq, Int.reduceNeg, Int.reduceMul, Int.reduceAdd, Int.reduceSub, bC.u, bD.u]
    rfl
  | a :: r, i, hd, hi => by
    simp only [List.length_cons] at hi
    have hlen := hl.1
    have hlt : decide ((i : Int) < (d.length : Int)) = true := by simp; omega
    have i0 : (0 : Int) ≤ (i : Int) := by omega
    have i1 : (i : Int) < (d.length : Int) := by omega
    have hg : d[i]? = some a := by
      have := congrArg (·[0]?) hd
      simpa [List.getElem?_drop] using this
    have hg' := attrs_get hg
    have hal := attrs_length d
    have hd' : d.drop (i + 1) = r := by
      have := congrArg (List.drop 1) hd
      simpa [List.drop_drop] using this
    have hc := c55 a.1 a.2 (hl.2 a (List.mem_of_getElem? hg)).2
    have ih := c86_loop d hl r (i + 1) hd' (by omega)
    have e : ((i : Int) + 1) = ((i + 1 : Nat) : Int) := by omega
    obtain ⟨b', hb'⟩ : ∃ b', b' = m86b0 := ⟨_, rfl⟩
    rw [RunL_eq, show Item.lp m86k0 m86b0 = Item.lp m86k0 b' by rw [hb']]
    rw [show badAt (a :: r) i = if textB a.2 then badAt r (i + 1) else i from rfl]
    cases hp : textB a.2
    · rw [hp] at hc
      simp (maxSteps := 99999999) (disch := first | decide | omega | exact ok_of (by kernel_rfl)) only [m86b0, V86, R86, K86, hlt, i0, i1, hal, hg', hc, Nat.reduceAdd, Nat.reduceMul, Nat.reduceLeDiff, Nat.reduceEqDiff, Nat.reduceLT, reduceCtorEq, cut, Int.reduceLE, Int.reduceLT, Int.reduceToNat, Int.reduceEq, Int.reduceNeg, Int.reduceMul, Int.reduceAdd, Int.reduceSub, bC.u, bN.u, bL.u, bD.u]
    · rw [hp] at hc
      obtain ⟨rhs, hr⟩ : ∃ x, x = badAt r ((i : Int) + 1) := ⟨_, rfl⟩
      rw [← hr]
      simp (maxSteps := 99999999) (disch := first | decide | omega | exact ok_of (by kernel_rfl)) only [m86b0, V86, R86, K86, hlt, i0, i1, hal, hg', hc, Nat.reduceAdd, Nat.reduceMul, Nat.reduceLeDiff, Nat.reduceEqDiff, Nat.reduceLT, reduceCtorEq, cut, Int.reduceLE, Int.reduceLT, Int.reduceToNat, Int.reduceEq, Int.reduceNeg, Int.reduceMul, Int.reduceAdd, Int.reduceSub, bC.u, bN.u, bL.u, bD.u]
      subst hb'
      refine ((congrArg (fin _) (Run_lp Q _ _ _ _)).trans ?_)
      rw [hr, e, ← ih]
      exact congrArg (fin R86) (RunL_canon (canon_cong (Eq.trans (by kernel_rfl) (show [(0, MV.sl 2 (attrs d)), (1, .fn 55 []), (7, .int .i64 (d.length : Int)), (8, .int .i64 ((i : Int) + 1))] = V86 d d.length (i + 1 : Nat) from by rw [e]; rfl)) (by kernel_rfl) (by kernel_rfl)))
theorem c86 (d : Dn) (hl : okLens d) : Call Q 86 [.sl 2 (attrs d), .fn 55 []] = some (.int .i64 (badAt d 0)) := by
  have hal := attrs_length d
  rw [Call_fn Q (m := m86) rfl rfl, show badAt d 0 = badAt d ((0 : Nat) : Int) from rfl, ← c86_loop d hl d 0 rfl (by omega)]
  simp (maxSteps := 99999999) (disch := first | decide | omega | exact ok_of (by kernel_rfl)) only [m86, hal, Run_loop, Nat.reduceAdd, Nat.reduceMul, Nat.reduceLeDiff, Nat.reduceEqDiff, Nat.reduceLT, reduceCtorEq, cut, Int.reduceLE, Int.reduceLT, Int.reduceToNat, Int.reduceEq, Int.reduceNeg, Int.reduceMul, Int.reduceAdd, Int.reduceSub, bC.u, bN.u, bL.u, bD.u]
  exact congrArg (fin R86) (RunL_canon (canon_cong (by kernel_rfl) (by kernel_rfl) (by kernel_rfl)))
theorem badAt_any : ∀ (d : Dn) (i : Int), 0 ≤ i → decide (0 ≤ badAt d i) = d.any fun a => !textB a.2
  | [], i, h => rfl
  | a :: r, i, h => by
    rw [show badAt (a :: r) i = if textB a.2 then badAt r (i + 1) else i from rfl, List.any_cons]
    cases textB a.2
    · simp; omega
    · simpa using badAt_any r (i + 1) (by omega)
theorem c54 (d : Dn) (hl : okLens d) : Call Q 54 [.sl 2 (attrs d), .fn 55 []] = some (.bool (d.any fun a => !textB a.2)) := by
  have h := c86 d hl
  have h2 := badAt_any d 0 (Int.le_refl _)
  rw [Call_fn Q (m := m54) rfl rfl]
  simp (maxSteps := 99999999) (disch := first | decide | omega | exact ok_of (by kernel_rfl)) only [m54, h, h2, Nat.reduceAdd, Nat.reduceMul, Nat.reduceLeDiff, Nat.reduceEqDiff, Nat.reduceLT, reduceCtorEq, cut, Int.reduceLE, Int.reduceLT, Int.reduceToNat, Int.reduceEq, Int.reduceNeg, Int.reduceMul, Int.reduceAdd, Int.reduceSub, bC.u, bN.u, bL.u, bD.u]

/-! ### Are two DNs alike? -/
def R58 : List (Nat × Option (Bool × Nat) × PK) := [(4, none, .other)]
def V58 (a b : Dn) (n i : Int) : List (Nat × MV) := [(0, .sl 2 (attrs a)), (1, .sl 2 (attrs b)), (12, .int .i64 n), (13, .int .i64 i)]
def K58 : List Item := [.blk 0, .code (.seq (.rg [⟨some (.v 4), .mv (.c (.bool true)), none⟩]) .ret)]
theorem c58_loop (a b : Dn) (hl : a.length < 1000000) (hb : b.length = a.length) : ∀ (r q : Dn) (i : Nat), a.drop i = r → b.drop i = q → i + r.length = a.length →
    fin R58 (RunL Q m58k0 m58b0 K58 ⟨V58 a b a.length i, [], [], 1⟩) = some (.bool (decide (r = q)))
  | [], q, i, hd, hq, hi => by
    have hi' : i = a.length := by simpa using hi
    subst hi'
    have hq' : q = [] := by rw [← hq, List.drop_eq_nil_of_le (by omega)]
    subst hq'
    have hlt : decide ((a.length : Int) < (a.length : Int)) = false := by simp
    obtain ⟨b', hb'⟩ : ∃ b', b' = m58b0 := ⟨_, rfl⟩
    rw [RunL_eq, show Item.lp m58k0 m58b0 = Item.lp m58k0 b' by rw [hb']]
    simp (maxSteps := 99999999) (disch := first | decide | omega | exact ok_of (by kernel_rfl)) only [m58b0, V58, R58, K58, hlt, Nat.reduceAdd, Nat.reduceMul, Nat.reduceLeDiff, Nat.reduceEqDiff, Nat.reduceLT, reduceCtorEq, cut, Int.reduceLE, Int.reduceLT, Int.reduceToNat, Int.reduceEq, Int.reduceNeg, Int.reduceMul, Int.reduceAdd, Int.reduceSub, bC.u, bD.u]
  | x :: r, [], i, hd, hq, hi => by
    simp only [List.length_cons] at hi
    have := List.drop_eq_nil_iff.1 hq
    omega
  | x :: r, y :: q, i, hd, hq, hi => by
    simp only [List.length_cons] at hi
    have hlt : decide ((i : Int) < (a.length : Int)) = true := by simp; omega
    have i0 : (0 : Int) ≤ (i : Int) := by omega
    have i1 : (i : Int) < (a.length : Int) := by omega
    have hg : a[i]? = some x := by
      have := congrArg (·[0]?) hd
      simpa [List.getElem?_drop] using this
    have hg2 : b[i]? = some y := by
      have := congrArg (·[0]?) hq
      simpa [List.getElem?_drop] using this
    have ga := attrs_get hg
    have gb := attrs_get hg2
    have la := attrs_length a
    have lb := (attrs_length b).trans hb
    have hd' : a.drop (i + 1) = r := by
      have := congrArg (List.drop 1) hd
      simpa [List.drop_drop] using this
    have hq' : b.drop (i + 1) = q := by
      have := congrArg (List.drop 1) hq
      simpa [List.drop_drop] using this
    have ih := c58_loop a b hl hb r q (i + 1) hd' hq' (by omega)
    have e : ((i : Int) + 1) = ((i + 1 : Nat) : Int) := by omega
    obtain ⟨x1, x2⟩ := x
    obtain ⟨y1, y2⟩ := y
    obtain ⟨b', hb'⟩ : ∃ b', b' = m58b0 := ⟨_, rfl⟩
    rw [RunL_eq, show Item.lp m58k0 m58b0 = Item.lp m58k0 b' by rw [hb']]
    cases h1 : (x1 == y1)
    · have hne : decide ((x1, x2) :: r = (y1, y2) :: q) = false := by
        have : x1 ≠ y1 := by simpa using h1
        simp [this]
      rw [hne]
      simp (maxSteps := 99999999) (disch := first | decide | omega | exact ok_of (by kernel_rfl)) only [m58b0, V58, R58, K58, hlt, i0, i1, la, lb, ga, gb, h1, eqCells, Bool.and_true, Bool.true_and, Bool.and_false, Bool.false_and, Nat.reduceAdd, Nat.reduceMul, Nat.reduceLeDiff, Nat.reduceEqDiff, Nat.reduceLT, reduceCtorEq, cut, Int.reduceLE, Int.reduceLT, Int.reduceToNat, Int.reduceEq, Int.reduceNeg, Int.reduceMul, Int.reduceAdd, Int.reduceSub, bC.u, bN.u, bR.u, bD.u]
    · cases h2 : (x2 == y2)
      · have hne : decide ((x1, x2) :: r = (y1, y2) :: q) = false := by
          have : x2 ≠ y2 := by simpa using h2
          simp [this]
        rw [hne]
        simp (maxSteps := 99999999) (disch := first | decide | omega | exact ok_of (by kernel_rfl)) only [m58b0, V58, R58, K58, hlt, i0, i1, la, lb, ga, gb, h1, h2, eqCells, Bool.and_true, Bool.true_and, Bool.and_false, Bool.false_and, Nat.reduceAdd, Nat.reduceMul, Nat.reduceLeDiff, Nat.reduceEqDiff, Nat.reduceLT, reduceCtorEq, cut, Int.reduceLE, Int.reduceLT, Int.reduceToNat, Int.reduceEq, Int.reduceNeg, Int.reduceMul, Int.reduceAdd, Int.reduceSub, bC.u, bN.u, bR.u, bD.u]
      · have he : decide ((x1, x2) :: r = (y1, y2) :: q) = decide (r = q) := by
          have e1 : x1 = y1 := by simpa using h1
          have e2 : x2 = y2 := by simpa using h2
          simp [e1, e2]
        rw [he]
        obtain ⟨rhs, hr⟩ : ∃ x, x = decide (r = q) := ⟨_, rfl⟩
        rw [← hr]
        simp (maxSteps := 99999999) (disch := first | decide | omega | exact ok_of (by kernel_rfl)) only [m58b0, V58, R58, K58, hlt, i0, i1, la, lb, ga, gb, h1, h2, eqCells, Bool.and_true, Bool.true_and, Bool.and_false, Bool.false_and, Nat.reduceAdd, Nat.reduceMul, Nat.reduceLeDiff, Nat.reduceEqDiff, Nat.reduceLT, reduceCtorEq, cut, Int.reduceLE, Int.reduceLT, Int.reduceToNat, Int.reduceEq, Int.reduceNeg, Int.reduceMul, Int.reduceAdd, Int.reduceSub, bC.u, bN.u, bR.u, bD.u]
        subst hb'
        refine ((congrArg (fin _) (Run_lp Q _ _ _ _)).trans ?_)
        rw [hr, ← ih]
        exact congrArg (fin R58) (RunL_canon (canon_cong (Eq.trans (by kernel_rfl) (show [(0, MV.sl 2 (attrs a)), (1, .sl 2 (attrs b)), (12, .int .i64 (a.length : Int)), (13, .int .i64 ((i : Int) + 1))] = V58 a b a.length (i + 1 : Nat) from by rw [e]; rfl)) (by kernel_rfl) (by kernel_rfl)))
theorem c24 (a b : Dn) (hl : a.length < 1000000) (hl2 : b.length < 1000000) : Call Q 24 [.sl 2 (attrs a), .sl 2 (attrs b)] = some (.bool (decide (a = b))) := by
  have la := attrs_length a
  have lb := attrs_length b
  have h58 : Call Q 58 [.sl 2 (attrs a), .sl 2 (attrs b)] = some (.bool (decide (a = b))) := by
    rw [Call_fn Q (m := m58) rfl rfl]
    by_cases hb : b.length = a.length
    · rw [← c58_loop a b hl hb a b 0 rfl rfl (by omega)]
      simp (maxSteps := 99999999) (disch := first | decide | omega | exact ok_of (by kernel_rfl)) only [m58, la, lb, hb, Run_loop, Nat.reduceAdd, Nat.reduceMul, Nat.reduceLeDiff, Nat.reduceEqDiff, Nat.reduceLT, reduceCtorEq, cut, Int.reduceLE, Int.reduceLT, Int.reduceToNat, Int.reduceEq, Int.reduceNeg, Int.reduceMul, Int.reduceAdd, Int.reduceSub, bC.u, bN.u, bD.u]
      exact congrArg (fin R58) (RunL_canon (canon_cong (by kernel_rfl) (by kernel_rfl) (by kernel_rfl)))
    · have hne : decide (a = b) = false := by
        have : a ≠ b := fun h => hb (by rw [h])
        simp [this]
      have hn2 : ((a.length : Int) != (b.length : Int)) = true := by simp; omega
      rw [hne]
      simp (maxSteps := 99999999) (disch := first | decide | omega | exact ok_of (by kernel_rfl)) only [m58, la, lb, hn2, Nat.reduceAdd, Nat.reduceMul, Nat.reduceLeDiff, Nat.reduceEqDiff, Nat.reduceLT, reduceCtorEq, cut, Int.reduceLE, Int.reduceLT, Int.reduceToNat, Int.reduceEq, Int.reduceNeg, Int.reduceMul, Int.reduceAdd, Int.reduceSub, bC.u, bN.u, bD.u]
  rw [Call_fn Q (m := m24) rfl rfl]
  simp (maxSteps := 99999999) (disch := first | decide | omega | exact ok_of (by kernel_rfl)) only [m24, h58, Nat.reduceAdd, Nat.reduceMul, Nat.reduceLeDiff, Nat.reduceEqDiff, Nat.reduceLT, reduceCtorEq, cut, Int.reduceLE, Int.reduceLT, Int.reduceToNat, Int.reduceEq, Int.reduceNeg, Int.reduceMul, Int.reduceAdd, Int.reduceSub, bC.u, bN.u, bL.u, bD.u]
end Go.Mini
