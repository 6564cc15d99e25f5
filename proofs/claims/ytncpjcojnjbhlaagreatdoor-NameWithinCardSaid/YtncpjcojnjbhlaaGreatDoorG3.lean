/- A URI's host: the document's over Mini. -/
import Derived.Test.YtncpjcojnjbhlaaGreatDoorG2
namespace Go.Mini
open Go Go.Proofs.YtncpjcojnjbhlaaGreatDoor
set_option maxRecDepth 10000
set_option maxHeartbeats 40000000
set_option linter.unusedSimpArgs false


def stopB (c : UInt8) : Bool := c == 47 || c == 58 || c == 63 || c == 35
def till : List UInt8 → Nat
  | [] => 0
  | c :: r => if stopB c = true then 0 else till r + 1
theorem till_le : ∀ r, till r ≤ r.length
  | [] => Nat.le_refl _
  | c :: r => by
    have := till_le r
    unfold till
    split
    · omega
    · simp; omega
theorem ne47 (x : UInt8) : ((x.toNat : Int) != 47) = !(x == 47) := by rw [bne, show ((x.toNat : Int) == 47) = (x == 47) from eq8 x 47]
theorem ne58 (x : UInt8) : ((x.toNat : Int) != 58) = !(x == 58) := by rw [bne, show ((x.toNat : Int) == 58) = (x == 58) from eq8 x 58]
theorem ne63 (x : UInt8) : ((x.toNat : Int) != 63) = !(x == 63) := by rw [bne, show ((x.toNat : Int) == 63) = (x == 63) from eq8 x 63]
theorem ne35 (x : UInt8) : ((x.toNat : Int) != 35) = !(x == 35) := by rw [bne, show ((x.toNat : Int) == 35) = (x == 35) from eq8 x 35]
def V40 (s : List UInt8) (i : Int) : List (Nat × MV) := [(0, .str s), (4, .int .i64 i)]
def W40 (s : List UInt8) (i e : Int) : List (Nat × MV) := [(0, .str s), (4, .int .i64 i), (5, .int .i64 e)]
theorem c40_stop (s : List UInt8) (hs : s.length < 1000000) (k : Int) (K : List Item) : ∀ (r : List UInt8) (i : Nat), s.drop i = r → i + r.length = s.length →
    RunL Q m40k1 m40b1 (.blk 2 :: K) ⟨W40 s k i, [], [], 1⟩ = Run Q K ⟨(48, .bool false) :: W40 s k (i + till r : Nat), [], [], 113⟩
  | [], i, hd, hi => by
    have hi' : i = s.length := by simpa using hi
    subst hi'
    have hlt : decide ((s.length : Int) < (s.length : Int)) = false := by simp
    obtain ⟨b', hb'⟩ : ∃ b', b' = m40b1 := ⟨_, rfl⟩
    rw [RunL_eq, show Item.lp m40k1 m40b1 = Item.lp m40k1 b' by rw [hb']]
    simp (maxSteps := 99999999) (disch := first | decide | omega | exact ok_of (by kernel_rfl)) only [m40b1, W40, hlt, Nat.reduceAdd, Nat.reduceMul, Nat.reduceLeDiff, Nat.reduceEqDiff, Nat.reduceLT, reduceCtorEq, cut, Int.reduceLE, Int.reduceLT, Int.reduceToNat, Int.reduceEq, Int.reduceNeg, Int.reduceMul, Int.reduceAdd, Int.reduceSub, bC.u, bB.u, bD.u]
    rfl
  | c :: r, i, hd, hi => by
    simp only [List.length_cons] at hi
    have hlt : decide ((i : Int) < (s.length : Int)) = true := by simp; omega
    have i0 : (0 : Int) ≤ (i : Int) := by omega
    have i1 : (i : Int) < (s.length : Int) := by omega
    have hg : s[i]? = some c := by
      have := congrArg (·[0]?) hd
      simpa [List.getElem?_drop] using this
    have hg' : s.getD i 0 = c := by rw [List.getD_eq_getElem?_getD, hg]; rfl
    have hd' : s.drop (i + 1) = r := by
      have := congrArg (List.drop 1) hd
      simpa [List.drop_drop] using this
    have ih := c40_stop s hs k K r (i + 1) hd' (by omega)
    have e : ((i : Int) + 1) = ((i + 1 : Nat) : Int) := by omega
    unfold till
    have hsb : stopB c = (c == 47 || c == 58 || c == 63 || c == 35) := rfl
    rw [hsb]
    obtain ⟨b', hb'⟩ : ∃ b', b' = m40b1 := ⟨_, rfl⟩
    rw [RunL_eq, show Item.lp m40k1 m40b1 = Item.lp m40k1 b' by rw [hb']]
    cases x1 : c == 47
    · cases x2 : c == 58
      · cases x3 : c == 63
        · cases x4 : c == 35
          · rw [if_neg (by decide), show i + (till r + 1) = i + 1 + till r by omega, ← ih]
            obtain ⟨rhs, hr⟩ : ∃ z, z = RunL Q m40k1 m40b1 (.blk 2 :: K) ⟨W40 s k (i + 1 : Nat), [], [], 1⟩ := ⟨_, rfl⟩
            rw [← hr]
            simp (maxSteps := 99999999) (disch := first | decide | omega | exact ok_of (by kernel_rfl)) only [m40b1, W40, i0, i1, hg', ne47, ne58, ne63, ne35, hlt, x1, x2, x3, x4, Nat.reduceAdd, Nat.reduceMul, Nat.reduceLeDiff, Nat.reduceEqDiff, Nat.reduceLT, reduceCtorEq, cut, Int.reduceLE, Int.reduceLT, Int.reduceToNat, Int.reduceEq, Int.reduceNeg, Int.reduceMul, Int.reduceAdd, Int.reduceSub, bC.u, bB.u, bN.u, bL.u, bD.u]
            subst hb'
            rw [Run_lp, hr]
            exact RunL_canon (canon_cong (Eq.trans (by kernel_rfl) (show [(0, MV.str s), (4, .int .i64 k), (5, .int .i64 ((i : Int) + 1))] = W40 s k (i + 1 : Nat) from by rw [e]; rfl)) (by kernel_rfl) (by kernel_rfl))
          · rw [if_pos (by simp), Nat.add_zero]
            simp (maxSteps := 99999999) (disch := first | decide | omega | exact ok_of (by kernel_rfl)) only [m40b1, W40, i0, i1, hg', ne47, ne58, ne63, ne35, hlt, x1, x2, x3, x4, Nat.reduceAdd, Nat.reduceMul, Nat.reduceLeDiff, Nat.reduceEqDiff, Nat.reduceLT, reduceCtorEq, cut, Int.reduceLE, Int.reduceLT, Int.reduceToNat, Int.reduceEq, Int.reduceNeg, Int.reduceMul, Int.reduceAdd, Int.reduceSub, bC.u, bB.u, bN.u, bL.u, bD.u]
        · rw [if_pos (by simp), Nat.add_zero]
          simp (maxSteps := 99999999) (disch := first | decide | omega | exact ok_of (by kernel_rfl)) only [m40b1, W40, i0, i1, hg', ne47, ne58, ne63, ne35, hlt, x1, x2, x3, Nat.reduceAdd, Nat.reduceMul, Nat.reduceLeDiff, Nat.reduceEqDiff, Nat.reduceLT, reduceCtorEq, cut, Int.reduceLE, Int.reduceLT, Int.reduceToNat, Int.reduceEq, Int.reduceNeg, Int.reduceMul, Int.reduceAdd, Int.reduceSub, bC.u, bB.u, bN.u, bL.u, bD.u]
      · rw [if_pos (by simp), Nat.add_zero]
        simp (maxSteps := 99999999) (disch := first | decide | omega | exact ok_of (by kernel_rfl)) only [m40b1, W40, i0, i1, hg', ne47, ne58, ne63, ne35, hlt, x1, x2, Nat.reduceAdd, Nat.reduceMul, Nat.reduceLeDiff, Nat.reduceEqDiff, Nat.reduceLT, reduceCtorEq, cut, Int.reduceLE, Int.reduceLT, Int.reduceToNat, Int.reduceEq, Int.reduceNeg, Int.reduceMul, Int.reduceAdd, Int.reduceSub, bC.u, bB.u, bN.u, bL.u, bD.u]
    · rw [if_pos (by simp), Nat.add_zero]
      simp (maxSteps := 99999999) (disch := first | decide | omega | exact ok_of (by kernel_rfl)) only [m40b1, W40, i0, i1, hg', ne47, ne58, ne63, ne35, hlt, x1, Nat.reduceAdd, Nat.reduceMul, Nat.reduceLeDiff, Nat.reduceEqDiff, Nat.reduceLT, reduceCtorEq, cut, Int.reduceLE, Int.reduceLT, Int.reduceToNat, Int.reduceEq, Int.reduceNeg, Int.reduceMul, Int.reduceAdd, Int.reduceSub, bC.u, bB.u, bN.u, bL.u, bD.u]

def R40 : List (Nat × Option (Bool × Nat) × PK) := [(2, none, .other), (3, none, .other)]
def K40 : List Item := [.blk 0, .code (.seq (.rg [⟨some (.v 2), .mv (.c (.str [])), none⟩, ⟨some (.v 3), .mv (.c (.bool false)), none⟩]) .ret)]
def hostA (r : List UInt8) : MV := if Lib.index r [58, 47, 47] = -1 then .tup [.str [], .bool false] else .tup [.str ((r.drop ((Lib.index r [58, 47, 47]).toNat + 3)).take (till (r.drop ((Lib.index r [58, 47, 47]).toNat + 3)))), .bool true]
theorem hostA_next (a b c : UInt8) (r : List UInt8) (h : [a, b, c] ≠ [58, 47, 47]) : hostA (a :: b :: c :: r) = hostA (b :: c :: r) := by
  have hp : ([58, 47, 47] : List UInt8).isPrefixOf (a :: b :: c :: r) = false := by
    cases hx : ([58, 47, 47] : List UInt8).isPrefixOf (a :: b :: c :: r)
    · rfl
    · exfalso
      simp [List.isPrefixOf] at hx
      exact h (by rw [← hx.1, ← hx.2.1, ← hx.2.2])
  have hix : Lib.index (a :: b :: c :: r) [58, 47, 47] = if Lib.index (b :: c :: r) [58, 47, 47] == -1 then -1 else Lib.index (b :: c :: r) [58, 47, 47] + 1 := by rw [Lib.index, hp]; simp
  have hge := Lib.index_ge (b :: c :: r) [58, 47, 47]
  unfold hostA
  by_cases hm : Lib.index (b :: c :: r) [58, 47, 47] = -1
  · rw [hix, if_pos (beq_iff_eq.2 hm), if_pos rfl, if_pos hm]
  · obtain ⟨j, hj⟩ : ∃ j : Nat, Lib.index (b :: c :: r) [58, 47, 47] = j := ⟨(Lib.index (b :: c :: r) [58, 47, 47]).toNat, by omega⟩
    rw [hix, if_neg (fun e => hm (beq_iff_eq.1 e)), if_neg (by omega), if_neg hm, hj, show ((j : Int) + 1).toNat + 3 = (j + 3) + 1 by omega, Int.toNat_natCast, List.drop_succ_cons]
theorem hostA_hit (r : List UInt8) : hostA (58 :: 47 :: 47 :: r) = .tup [.str (r.take (till r)), .bool true] := by
  have hix : Lib.index (58 :: 47 :: 47 :: r) [58, 47, 47] = 0 := by rw [Lib.index]; simp [List.isPrefixOf]
  unfold hostA
  rw [hix, if_neg (by decide)]
  rfl
theorem hostA_short (r : List UInt8) (h : r.length < 3) : hostA r = .tup [.str [], .bool false] := by
  have : Lib.index r [58, 47, 47] = -1 := by
    match r, h with
    | [], _ => rfl
    | [a], _ => simp [Lib.index, List.isPrefixOf]
    | [a, b], _ => simp [Lib.index, List.isPrefixOf]
  unfold hostA
  rw [if_pos this]
theorem c40_loop (s : List UInt8) (hs : s.length < 1000000) : ∀ (n : Nat) (r : List UInt8) (i : Nat), r.length = n → s.drop i = r → i + r.length = s.length →
    fin R40 (RunL Q m40k0 m40b0 K40 ⟨V40 s i, [], [], 1⟩) = some (hostA r) := by
  intro n
  induction n with
  | zero =>
    intro r i hn hd hi
    rw [hostA_short r (by omega)]
    have hle : decide ((i : Int) + 3 ≤ (s.length : Int)) = false := by simp; omega
    obtain ⟨b', hb'⟩ : ∃ b', b' = m40b0 := ⟨_, rfl⟩
    rw [RunL_eq, show Item.lp m40k0 m40b0 = Item.lp m40k0 b' by rw [hb']]
    simp (maxSteps := 99999999) (disch := first | decide | omega | exact ok_of (by kernel_rfl)) only [m40b0, V40, R40, K40, hle, Nat.reduceAdd, Nat.reduceMul, Nat.reduceLeDiff, Nat.reduceEqDiff, Nat.reduceLT, reduceCtorEq, cut, Int.reduceLE, Int.reduceLT, Int.reduceToNat, Int.reduceEq, Int.reduceNeg, Int.reduceMul, Int.reduceAdd, Int.reduceSub, bC.u, bN.u, bD.u]
  | succ n ih =>
    intro r i hn hd hi
    by_cases h3 : r.length < 3
    · rw [hostA_short r h3]
      have hle : decide ((i : Int) + 3 ≤ (s.length : Int)) = false := by simp; omega
      obtain ⟨b', hb'⟩ : ∃ b', b' = m40b0 := ⟨_, rfl⟩
      rw [RunL_eq, show Item.lp m40k0 m40b0 = Item.lp m40k0 b' by rw [hb']]
      simp (maxSteps := 99999999) (disch := first | decide | omega | exact ok_of (by kernel_rfl)) only [m40b0, V40, R40, K40, hle, Nat.reduceAdd, Nat.reduceMul, Nat.reduceLeDiff, Nat.reduceEqDiff, Nat.reduceLT, reduceCtorEq, cut, Int.reduceLE, Int.reduceLT, Int.reduceToNat, Int.reduceEq, Int.reduceNeg, Int.reduceMul, Int.reduceAdd, Int.reduceSub, bC.u, bN.u, bD.u]
    · obtain ⟨a, b, c, q, rfl⟩ : ∃ a b c q, r = a :: b :: c :: q := by
        match r, h3 with
        | a :: b :: c :: q, _ => exact ⟨a, b, c, q, rfl⟩
        | [], h => simp at h
        | [a], h => simp at h
        | [a, b], h => simp at h
      simp only [List.length_cons] at hi hn
      have hle : decide ((i : Int) + 3 ≤ (s.length : Int)) = true := by simp; omega
      have e : ((i : Int) + 1) = ((i + 1 : Nat) : Int) := by omega
      have hc : cut s (some (.int .i64 (i : Int))) (some (.int .i64 ((i : Int) + 3))) = some [a, b, c] := by
        simp only [cut]
        rw [if_pos ⟨by omega, by omega, by omega⟩, Int.toNat_natCast, hd, show ((i : Int) + 3).toNat - i = 3 by omega]
        rfl
      have hd1 : s.drop (i + 1) = b :: c :: q := by
        have := congrArg (List.drop 1) hd
        simpa [List.drop_drop] using this
      have hd3 : s.drop (i + 3) = q := by
        have := congrArg (List.drop 3) hd
        simpa [List.drop_drop] using this
      obtain ⟨b', hb'⟩ : ∃ b', b' = m40b0 := ⟨_, rfl⟩
      rw [RunL_eq, show Item.lp m40k0 m40b0 = Item.lp m40k0 b' by rw [hb']]
      by_cases hx : [a, b, c] = [58, 47, 47]
      · have x1 : ([a, b, c] == [58, 47, 47]) = true := by rw [hx]; rfl
        have es : ((i : Int) + 3) = ((i + 3 : Nat) : Int) := by omega
        have hst := till_le q
        have hc2 : cut s (some (.int .i64 ((i : Int) + 3))) (some (.int .i64 ((i + 3 + till q : Nat) : Int))) = some (q.take (till q)) := by
          simp only [cut]
          rw [if_pos ⟨by omega, by omega, by omega⟩, es]
          simp only [Int.toNat_natCast]
          rw [hd3, show i + 3 + till q - (i + 3) = till q by omega]
        obtain ⟨rfl, rfl, rfl⟩ : a = 58 ∧ b = 47 ∧ c = 47 := by
          injection hx with h1 h2
          injection h2 with h2 h3
          injection h3 with h3 _
          exact ⟨h1, h2, h3⟩
        rw [hostA_hit]
        obtain ⟨rhs, hr⟩ : ∃ z, z = some (MV.tup [.str (q.take (till q)), .bool true]) := ⟨_, rfl⟩
        rw [← hr]
        simp (maxSteps := 99999999) (disch := first | decide | omega | exact ok_of (by kernel_rfl)) only [m40b0, V40, K40, hle, hc, x1, Run_loop, Nat.reduceAdd, Nat.reduceMul, Nat.reduceLeDiff, Nat.reduceEqDiff, Nat.reduceLT, reduceCtorEq, Int.reduceLE, Int.reduceLT, Int.reduceToNat, Int.reduceEq, Int.reduceNeg, Int.reduceMul, Int.reduceAdd, Int.reduceSub, bC.u, bN.u, bD.u]
        refine (congrArg (fin _) (RunL_canon (canon_cong (V := W40 s i (i + 3 : Nat)) (O := []) (nx := 1) (Eq.trans (by kernel_rfl) (show [(0, MV.str s), (4, .int .i64 (i : Int)), (5, .int .i64 ((i : Int) + 3))] = W40 s i (i + 3 : Nat) from by rw [es]; rfl)) (by kernel_rfl) (by kernel_rfl)))).trans ?_
        rw [c40_stop s hs (i : Int) _ q (i + 3) hd3 (by omega), hr]
        simp (maxSteps := 99999999) (disch := first | decide | omega | exact ok_of (by kernel_rfl)) only [W40, R40, hc2, Nat.reduceAdd, Nat.reduceMul, Nat.reduceLeDiff, Nat.reduceEqDiff, Nat.reduceLT, reduceCtorEq, Int.reduceLE, Int.reduceLT, Int.reduceToNat, Int.reduceEq, Int.reduceNeg, Int.reduceMul, Int.reduceAdd, Int.reduceSub, bC.u, bN.u, bD.u]
      · have x1 : ([a, b, c] == [58, 47, 47]) = false := by rw [beq_eq_false_iff_ne]; exact hx
        rw [hostA_next a b c q hx]
        have ih' := ih (b :: c :: q) (i + 1) (by simp; omega) hd1 (by simp; omega)
        obtain ⟨rhs, hr⟩ : ∃ z, z = some (hostA (b :: c :: q)) := ⟨_, rfl⟩
        rw [← hr]
        simp (maxSteps := 99999999) (disch := first | decide | omega | exact ok_of (by kernel_rfl)) only [m40b0, V40, R40, K40, hle, hc, x1, Nat.reduceAdd, Nat.reduceMul, Nat.reduceLeDiff, Nat.reduceEqDiff, Nat.reduceLT, reduceCtorEq, Int.reduceLE, Int.reduceLT, Int.reduceToNat, Int.reduceEq, Int.reduceNeg, Int.reduceMul, Int.reduceAdd, Int.reduceSub, bC.u, bN.u, bD.u]
        subst hb'
        refine ((congrArg (fin _) (Run_lp Q _ _ _ _)).trans ?_)
        rw [hr, ← ih']
        exact congrArg (fin R40) (RunL_canon (canon_cong (Eq.trans (by kernel_rfl) (show [(0, MV.str s), (4, .int .i64 ((i : Int) + 1))] = V40 s (i + 1 : Nat) from by rw [e]; rfl)) (by kernel_rfl) (by kernel_rfl)))

theorem c40 (s : List UInt8) (hs : s.length < 1000000) : Call Q 40 [.str s] = some (hostA s) := by
  rw [Call_fn Q (m := m40) rfl rfl, ← c40_loop s hs s.length s 0 rfl rfl (by omega)]
  simp (maxSteps := 99999999) (disch := first | decide | omega | exact ok_of (by kernel_rfl)) only [m40, Run_loop, Nat.reduceAdd, Nat.reduceMul, Nat.reduceLeDiff, Nat.reduceEqDiff, Nat.reduceLT, reduceCtorEq, cut, Int.reduceLE, Int.reduceLT, Int.reduceToNat, Int.reduceEq, Int.reduceNeg, Int.reduceMul, Int.reduceAdd, Int.reduceSub, bC.u, bN.u, bD.u]
  exact congrArg (fin R40) (RunL_canon (canon_cong (by kernel_rfl) (by kernel_rfl) (by kernel_rfl)))
end Go.Mini
