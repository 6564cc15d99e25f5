/- General names: the document's over Mini: right? as values. -/
import Derived.Test.YtncpjcojnjbhlaaGreatDoorG10b
namespace Go.Mini
open Go Go.Proofs.YtncpjcojnjbhlaaGreatDoor
set_option maxRecDepth 10000
set_option maxHeartbeats 40000000
set_option linter.unusedSimpArgs false


def gM (k : Int) (t : List UInt8) (dv : MV) : MV := .agg [.int .i64 k, .str t, dv]
/-- A DN, or none. -/
def isDir (dv : MV) (d : Dn) : Prop := dv = .sl 2 (attrs d) ∨ dv = .nilsl ∧ d = []

/-! ### Masks -/
def oneB (x : UInt8) (j : Nat) : Bool := x >>> UInt8.ofNat j &&& 1 == 1
def maskR (m : List UInt8) : Nat → Bool → Nat → Bool
  | 0, _, _ => true
  | k + 1, over, i => if (oneB (m.getD (i / 8) 0) (7 - i % 8) && over) = true then false else maskR m k (over || !oneB (m.getD (i / 8) 0) (7 - i % 8)) (i + 1)
def maskB (m : List UInt8) : Bool := maskR m (8 * m.length) false 0
theorem odd_all : ∀ x : Fin 256, (((UInt8.ofNat x.val).toNat : Int) % 2 == 1) = (UInt8.ofNat x.val &&& 1 == 1) := by decide +kernel
theorem odd8 (x : UInt8) : ((x.toNat : Int) % 2 == 1) = (x &&& 1 == 1) := by
  have := odd_all ⟨x.toNat, x.toNat_lt⟩
  simp only [UInt8.ofNat_toNat] at this
  exact this

theorem wU (y : UInt8) : IntKind.i64.wrap (y.toNat : Int) = (y.toNat : Int) := w64 (by omega) (by have := y.toNat_lt; omega)
theorem odd8t (y : UInt8) : ((y.toNat : Int).tmod 2 == 1) = (y &&& 1 == 1) := by
  rw [Int.tmod_eq_emod_of_nonneg (by omega), odd8]

def rightB (k : Int) (t : List UInt8) (d : Dn) (lim : Bool) : Bool :=
  if k = 4 then lim || decide (0 < d.length)
  else if k = 7 then (if lim = true then (decide (t.length = 8) || decide (t.length = 32)) && maskB (t.drop (t.length / 2)) else decide (t.length = 4) || decide (t.length = 16))
  else (decide (0 < t.length) || lim) && decide (t.length ≤ 64) && !(t.any fun c => decide (128 ≤ c.toNat))
def kindB (k : Int) : Bool := k == 1 || k == 2 || k == 4 || k == 6 || k == 7
theorem c73 (k : Int) : Call Q 73 [.int .i64 k] = some (.bool (kindB k)) := by
  unfold kindB
  rw [Call_fn Q (m := m73) rfl rfl]
  cases h1 : (k == 1)
  · cases h2 : (k == 2)
    · cases h4 : (k == 4)
      · cases h6 : (k == 6)
        · simp (maxSteps := 99999999) (disch := first | decide | omega | exact ok_of (by kernel_rfl)) only [m73, h1, h2, h4, h6, Nat.reduceAdd, Nat.reduceMul, Nat.reduceLeDiff, Nat.reduceEqDiff, Nat.reduceLT, reduceCtorEq, cut, Int.reduceLE, Int.reduceLT, Int.reduceToNat, Int.reduceEq, Int.reduceNeg, Int.reduceMul, Int.reduceAdd, Int.reduceSub, bC.u, bB.u, bN.u, bD.u]
        · simp (maxSteps := 99999999) (disch := first | decide | omega | exact ok_of (by kernel_rfl)) only [m73, h1, h2, h4, h6, Nat.reduceAdd, Nat.reduceMul, Nat.reduceLeDiff, Nat.reduceEqDiff, Nat.reduceLT, reduceCtorEq, cut, Int.reduceLE, Int.reduceLT, Int.reduceToNat, Int.reduceEq, Int.reduceNeg, Int.reduceMul, Int.reduceAdd, Int.reduceSub, bC.u, bB.u, bN.u, bD.u]
      · simp (maxSteps := 99999999) (disch := first | decide | omega | exact ok_of (by kernel_rfl)) only [m73, h1, h2, h4, Nat.reduceAdd, Nat.reduceMul, Nat.reduceLeDiff, Nat.reduceEqDiff, Nat.reduceLT, reduceCtorEq, cut, Int.reduceLE, Int.reduceLT, Int.reduceToNat, Int.reduceEq, Int.reduceNeg, Int.reduceMul, Int.reduceAdd, Int.reduceSub, bC.u, bB.u, bN.u, bD.u]
    · simp (maxSteps := 99999999) (disch := first | decide | omega | exact ok_of (by kernel_rfl)) only [m73, h1, h2, Nat.reduceAdd, Nat.reduceMul, Nat.reduceLeDiff, Nat.reduceEqDiff, Nat.reduceLT, reduceCtorEq, cut, Int.reduceLE, Int.reduceLT, Int.reduceToNat, Int.reduceEq, Int.reduceNeg, Int.reduceMul, Int.reduceAdd, Int.reduceSub, bC.u, bB.u, bN.u, bD.u]
  · simp (maxSteps := 99999999) (disch := first | decide | omega | exact ok_of (by kernel_rfl)) only [m73, h1, Nat.reduceAdd, Nat.reduceMul, Nat.reduceLeDiff, Nat.reduceEqDiff, Nat.reduceLT, reduceCtorEq, cut, Int.reduceLE, Int.reduceLT, Int.reduceToNat, Int.reduceEq, Int.reduceNeg, Int.reduceMul, Int.reduceAdd, Int.reduceSub, bC.u, bB.u, bN.u, bD.u]
theorem c42 (k : Int) : Call Q 42 [.int .i64 k] = some (.bool (kindB k)) := by
  unfold kindB
  rw [Call_fn Q (m := m42) rfl rfl]
  cases h1 : (k == 1)
  · cases h2 : (k == 2)
    · cases h4 : (k == 4)
      · cases h6 : (k == 6)
        · simp (maxSteps := 99999999) (disch := first | decide | omega | exact ok_of (by kernel_rfl)) only [m42, h1, h2, h4, h6, Nat.reduceAdd, Nat.reduceMul, Nat.reduceLeDiff, Nat.reduceEqDiff, Nat.reduceLT, reduceCtorEq, cut, Int.reduceLE, Int.reduceLT, Int.reduceToNat, Int.reduceEq, Int.reduceNeg, Int.reduceMul, Int.reduceAdd, Int.reduceSub, bC.u, bB.u, bN.u, bD.u]
        · simp (maxSteps := 99999999) (disch := first | decide | omega | exact ok_of (by kernel_rfl)) only [m42, h1, h2, h4, h6, Nat.reduceAdd, Nat.reduceMul, Nat.reduceLeDiff, Nat.reduceEqDiff, Nat.reduceLT, reduceCtorEq, cut, Int.reduceLE, Int.reduceLT, Int.reduceToNat, Int.reduceEq, Int.reduceNeg, Int.reduceMul, Int.reduceAdd, Int.reduceSub, bC.u, bB.u, bN.u, bD.u]
      · simp (maxSteps := 99999999) (disch := first | decide | omega | exact ok_of (by kernel_rfl)) only [m42, h1, h2, h4, Nat.reduceAdd, Nat.reduceMul, Nat.reduceLeDiff, Nat.reduceEqDiff, Nat.reduceLT, reduceCtorEq, cut, Int.reduceLE, Int.reduceLT, Int.reduceToNat, Int.reduceEq, Int.reduceNeg, Int.reduceMul, Int.reduceAdd, Int.reduceSub, bC.u, bB.u, bN.u, bD.u]
    · simp (maxSteps := 99999999) (disch := first | decide | omega | exact ok_of (by kernel_rfl)) only [m42, h1, h2, Nat.reduceAdd, Nat.reduceMul, Nat.reduceLeDiff, Nat.reduceEqDiff, Nat.reduceLT, reduceCtorEq, cut, Int.reduceLE, Int.reduceLT, Int.reduceToNat, Int.reduceEq, Int.reduceNeg, Int.reduceMul, Int.reduceAdd, Int.reduceSub, bC.u, bB.u, bN.u, bD.u]
  · simp (maxSteps := 99999999) (disch := first | decide | omega | exact ok_of (by kernel_rfl)) only [m42, h1, Nat.reduceAdd, Nat.reduceMul, Nat.reduceLeDiff, Nat.reduceEqDiff, Nat.reduceLT, reduceCtorEq, cut, Int.reduceLE, Int.reduceLT, Int.reduceToNat, Int.reduceEq, Int.reduceNeg, Int.reduceMul, Int.reduceAdd, Int.reduceSub, bC.u, bB.u, bN.u, bD.u]

/-! ### Right? -/
def R74 : List (Nat × Option (Bool × Nat) × PK) := [(4, none, .other)]
def O74 (k : Int) (t : List UInt8) (dv : MV) : List (Nat × Obj) := [(0, .cells [.int .i64 k, .str t, dv])]
def V74 (n : Int) (over : Bool) (i : Int) : List (Nat × MV) := [(2, .ptr 0 0), (5, .int .i64 n), (6, .bool over), (7, .int .i64 i)]
def K74 : List Item := [.blk 0, .code (.seq (.rg [⟨some (.v 4), .mv (.c (.bool true)), none⟩]) .ret)]
theorem c74_mask (kk : Int) (t : List UInt8) (dv : MV) (dd : Dn) (hdv : isDir dv dd) (ht : t.length = 8 ∨ t.length = 32) (K : List Item) : ∀ (k : Nat) (over : Bool) (i : Nat), i + k = 4 * t.length →
    fin R74 (RunL Q m74k0 m74b0 (.blk 0 :: .code (.seq (.rg [⟨some (.v 4), .mv (.c (.bool true)), none⟩]) .ret) :: K) ⟨V74 t.length over i, [], O74 kk t dv, 2⟩) = some (.bool (maskR (t.drop (t.length / 2)) k over i))
  | 0, over, i, hi => by
    have hi' : i = 4 * t.length := by omega
    subst hi'
    have hlt : decide (((4 * t.length : Nat) : Int) < 4 * (t.length : Int)) = false := by simp
    obtain ⟨b', hb'⟩ : ∃ b', b' = m74b0 := ⟨_, rfl⟩
    rw [RunL_eq, show Item.lp m74k0 m74b0 = Item.lp m74k0 b' by rw [hb']]
    simp (maxSteps := 99999999) (disch := first | decide | omega | exact ok_of (by kernel_rfl)) only [m74b0, V74, O74, R74, hlt, Nat.reduceAdd, Nat.reduceMul, Nat.reduceLeDiff, Nat.reduceEqDiff, Nat.reduceLT, reduceCtorEq, cut, Int.reduceLE, Int.reduceLT, Int.reduceToNat, Int.reduceEq, Int.reduceNeg, Int.reduceMul, Int.reduceAdd, Int.reduceSub, bC.u, bN.u, bD.u]
    rfl
  | k + 1, over, i, hi => by
    have hlt : decide ((i : Int) < 4 * (t.length : Int)) = true := by simp; omega
    have i0 : (0 : Int) ≤ (i : Int) := by omega
    have e : ((i : Int) + 1) = ((i + 1 : Nat) : Int) := by omega
    have ei : (t.length : Int) / 2 + (i : Int) / 8 = ((t.length / 2 + i / 8 : Nat) : Int) := by omega
    have j0 : (0 : Int) ≤ ((t.length / 2 + i / 8 : Nat) : Int) := by omega
    have j1 : ((t.length / 2 + i / 8 : Nat) : Int) < (t.length : Int) := by omega
    have hgd : t.getD (t.length / 2 + i / 8) 0 = (t.drop (t.length / 2)).getD (i / 8) 0 := by
      rw [List.getD_eq_getElem?_getD, List.getD_eq_getElem?_getD, List.getElem?_drop]
    have es : (7 - (i : Int) % 8).toNat = 7 - i % 8 := by omega
    have i7 : (0 : Int) ≤ 7 - (i : Int) % 8 := by omega
    have i8 : 7 - (i : Int) % 8 < 8 := by omega
    have tm8 : (i : Int).tmod 8 = (i : Int) % 8 := Int.tmod_eq_emod_of_nonneg i0
    have tdl : (t.length : Int).tdiv 2 = (t.length : Int) / 2 := Int.tdiv_eq_ediv_of_nonneg (by omega)
    have tdi : (i : Int).tdiv 8 = (i : Int) / 8 := Int.tdiv_eq_ediv_of_nonneg i0
    unfold maskR oneB
    generalize hx : (t.drop (t.length / 2)).getD (i / 8) 0 = x at hgd
    have ih := fun over' => c74_mask kk t dv dd hdv ht K k over' (i + 1) (by omega)
    obtain ⟨b', hb'⟩ : ∃ b', b' = m74b0 := ⟨_, rfl⟩
    rw [RunL_eq, show Item.lp m74k0 m74b0 = Item.lp m74k0 b' by rw [hb']]
    cases h1 : (x >>> UInt8.ofNat (7 - i % 8) &&& 1 == 1)
    · rw [Bool.false_and, if_neg (by decide), Bool.not_false, Bool.or_true, ← ih true]
      cases over
      · simp (maxSteps := 99999999) (disch := first | decide | omega | exact ok_of (by kernel_rfl)) only [m74b0, V74, O74, R74, hlt, i0, ei, j0, j1, hgd, es, i7, i8, tm8, tdl, tdi, wU, odd8t, h1, Nat.reduceAdd, Nat.reduceMul, Nat.reduceLeDiff, Nat.reduceEqDiff, Nat.reduceLT, reduceCtorEq, cut, Int.reduceLE, Int.reduceLT, Int.reduceToNat, Int.reduceEq, Int.reduceNeg, Int.reduceMul, Int.reduceAdd, Int.reduceSub, shr8, shr8_128, asB, UInt8.ofNat_toNat, and8_127, eq8_1, eq8_0, eq8, w64, w8, and8, or8, xor8, bC.u, bB.u, bL.u, bD.u]
        subst hb'
        refine ((congrArg (fin _) (Run_lp Q _ _ _ _)).trans ?_)
        rcases hdv with rfl | ⟨rfl, rfl⟩ <;> exact congrArg (fin R74) (RunL_canon (canon_cong (Eq.trans (by kernel_rfl) (show [(2, MV.ptr 0 0), (5, .int .i64 (t.length : Int)), (6, .bool true), (7, .int .i64 ((i : Int) + 1))] = V74 t.length true (i + 1 : Nat) from by rw [e]; rfl)) (by kernel_rfl) (by kernel_rfl)))
      · simp (maxSteps := 99999999) (disch := first | decide | omega | exact ok_of (by kernel_rfl)) only [m74b0, V74, O74, R74, hlt, i0, ei, j0, j1, hgd, es, i7, i8, tm8, tdl, tdi, wU, odd8t, h1, Nat.reduceAdd, Nat.reduceMul, Nat.reduceLeDiff, Nat.reduceEqDiff, Nat.reduceLT, reduceCtorEq, cut, Int.reduceLE, Int.reduceLT, Int.reduceToNat, Int.reduceEq, Int.reduceNeg, Int.reduceMul, Int.reduceAdd, Int.reduceSub, shr8, shr8_128, asB, UInt8.ofNat_toNat, and8_127, eq8_1, eq8_0, eq8, w64, w8, and8, or8, xor8, bC.u, bB.u, bL.u, bD.u]
        subst hb'
        refine ((congrArg (fin _) (Run_lp Q _ _ _ _)).trans ?_)
        rcases hdv with rfl | ⟨rfl, rfl⟩ <;> exact congrArg (fin R74) (RunL_canon (canon_cong (Eq.trans (by kernel_rfl) (show [(2, MV.ptr 0 0), (5, .int .i64 (t.length : Int)), (6, .bool true), (7, .int .i64 ((i : Int) + 1))] = V74 t.length true (i + 1 : Nat) from by rw [e]; rfl)) (by kernel_rfl) (by kernel_rfl)))
    · cases over
      · rw [Bool.and_false, if_neg (by decide), Bool.not_true, Bool.or_false, ← ih false]
        simp (maxSteps := 99999999) (disch := first | decide | omega | exact ok_of (by kernel_rfl)) only [m74b0, V74, O74, R74, hlt, i0, ei, j0, j1, hgd, es, i7, i8, tm8, tdl, tdi, wU, odd8t, h1, Nat.reduceAdd, Nat.reduceMul, Nat.reduceLeDiff, Nat.reduceEqDiff, Nat.reduceLT, reduceCtorEq, cut, Int.reduceLE, Int.reduceLT, Int.reduceToNat, Int.reduceEq, Int.reduceNeg, Int.reduceMul, Int.reduceAdd, Int.reduceSub, shr8, shr8_128, asB, UInt8.ofNat_toNat, and8_127, eq8_1, eq8_0, eq8, w64, w8, and8, or8, xor8, bC.u, bB.u, bL.u, bD.u]
        subst hb'
        refine ((congrArg (fin _) (Run_lp Q _ _ _ _)).trans ?_)
        rcases hdv with rfl | ⟨rfl, rfl⟩ <;> exact congrArg (fin R74) (RunL_canon (canon_cong (Eq.trans (by kernel_rfl) (show [(2, MV.ptr 0 0), (5, .int .i64 (t.length : Int)), (6, .bool false), (7, .int .i64 ((i : Int) + 1))] = V74 t.length false (i + 1 : Nat) from by rw [e]; rfl)) (by kernel_rfl) (by kernel_rfl)))
      · rw [Bool.and_true, if_pos rfl]
        simp (maxSteps := 99999999) (disch := first | decide | omega | exact ok_of (by kernel_rfl)) only [m74b0, V74, O74, R74, hlt, i0, ei, j0, j1, hgd, es, i7, i8, tm8, tdl, tdi, wU, odd8t, h1, Nat.reduceAdd, Nat.reduceMul, Nat.reduceLeDiff, Nat.reduceEqDiff, Nat.reduceLT, reduceCtorEq, cut, Int.reduceLE, Int.reduceLT, Int.reduceToNat, Int.reduceEq, Int.reduceNeg, Int.reduceMul, Int.reduceAdd, Int.reduceSub, shr8, shr8_128, asB, UInt8.ofNat_toNat, and8_127, eq8_1, eq8_0, eq8, w64, w8, and8, or8, xor8, bC.u, bB.u, bL.u, bD.u]
end Go.Mini
