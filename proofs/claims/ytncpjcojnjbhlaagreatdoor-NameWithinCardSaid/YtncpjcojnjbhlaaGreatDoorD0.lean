/- Oids of texts over Mini: what the function answers. -/
import Derived.Test.YtncpjcojnjbhlaaGreatDoorP
namespace Go.Mini
open Go Go.Proofs.YtncpjcojnjbhlaaGreatDoor
set_option maxRecDepth 10000
set_option linter.unusedSimpArgs false

/-! ### What is said -/
def zero5 : List MV := [.int .i64 0, .int .i64 0, .bool false, .nilsl, .nilsl]
/-- A part's number. -/
def numP (p : List UInt8) : Option Int := match Lib.atoiAll p with
  | .ok n => if 0 ≤ n ∧ n < 1099511627776 ∧ itoaL n = p then some n else none
  | _ => none
def numsP : List (List UInt8) → Option (List Int)
  | [] => some []
  | p :: r => match numP p, numsP r with
    | some n, some l => some (n :: l)
    | _, _ => none
/-- A number in groups of seven bits. -/
def part (n d : Int) : List UInt8 := if 0 < n / d then [UInt8.ofNat (n / d % 128).toNat ||| 128] else []
def encD (n : Int) : List Int → List UInt8
  | [] => [UInt8.ofNat (n % 128).toNat]
  | d :: r => part n d ++ encD n r
def enc (n : Int) : List UInt8 := encD n [34359738368, 268435456, 2097152, 16384, 128]
def encs (l : List Int) : List UInt8 := l.flatMap enc
def oidN (l : List Int) : Option (List UInt8) := match l with
  | n0 :: n1 :: r => if 2 < n0 ∨ n0 < 2 ∧ 39 < n1 ∨ n0 = 2 ∧ 1099511627776 ≤ n1 + 80 then none else some (encs ((n1 + 40 * n0) :: r))
  | _ => none
def oidS (s : List UInt8) : Option (List UInt8) :=
  let ps := Lib.splitK [46] 0 (Lib.count s [46]) s
  if ps.length < 2 ∨ 20 < ps.length then none else match numsP ps with
    | some l => oidN l
    | none => none

theorem canon_cong {keep : List (Nat × KMode)} {st : DS} {V : List (Nat × MV)} {O : List (Nat × Obj)} {nx : Nat} (h1 : (canon keep st).V = V) (h2 : (canon keep st).O = O) (h3 : (canon keep st).nx = nx) : canon keep st = ⟨V, [], O, nx⟩ := by
  subst h1; subst h2; subst h3; rfl

/-! ### The numbers -/
def ints (l : List Int) : List MV := l.map fun n => .int .i64 n
theorem ints_length (l : List Int) : (ints l).length = l.length := by simp [ints]
def V53 (a : Nat) (ps : List (List UInt8)) (l : List Int) (i : Int) : List (Nat × MV) := [(2, .ptr 0 0), (5, .own a l.length), (26, .sl 1 (ps.map .str)), (27, .int .i64 (ps.length : Int)), (28, .int .i64 i)]
def O53 (a : Nat) (l : List Int) : List (Nat × Obj) := [(0, .cells zero5), (a, .el 1 (ints l) false)]
def R53 : List (Nat × Option (Bool × Nat) × PK) := [(2, some (true, 5), .other), (3, none, .other)]
def bad53 : MV := .tup [.agg zero5, .bool false]

theorem Vapp (ps : List (List UInt8)) (l : List Int) (n i : Int) : [(2, MV.ptr 0 0), (5, .own 1 (l.length + 1)), (26, .sl 1 (ps.map .str)), (27, .int .i64 (ps.length : Int)), (28, .int .i64 i)] = V53 1 ps (l ++ [n]) i := by simp [V53]
theorem Oapp (l : List Int) (n : Int) : [(0, Obj.cells zero5), (1, .el 1 (ints l ++ [.int .i64 n]) false)] = O53 1 (l ++ [n]) := by simp [O53, ints]

theorem numP_itoa {p : List UInt8} {n : Int} (h : numP p = some n) : 0 ≤ n ∧ n < 1099511627776 := by
  unfold numP at h
  split at h
  · split at h
    · rename_i hc; cases h; exact ⟨hc.1, hc.2.1⟩
    · cases h
  · cases h

theorem atoi_ok {p : List UInt8} {n : Int} (hp : p.length < 1000000) (h : Lib.atoiAll p = .ok n) (h0 : -9223372036854775808 ≤ n ∧ n ≤ 9223372036854775807) : Call Q 63 [.str p] = some (.tup [.int .i64 n, .nilif]) := by
  rw [Call_prim Q (g := pAtoi) rfl]
  simp only [pAtoi, h]
  rw [if_pos (by omega), if_pos h0]
theorem atoi_no {p : List UInt8} (hp : p.length < 1000000) (h : ∀ n, Lib.atoiAll p ≠ .ok n) : ∃ n, Call Q 63 [.str p] = some (.tup [.int .i64 n, .iface atoiErr (.cptr [])]) := by
  rw [Call_prim Q (g := pAtoi) rfl]
  simp only [pAtoi]
  rw [if_pos (by omega)]
  cases h1 : Lib.atoiAll p with
  | ok n => exact (h n h1).elim
  | range => exact ⟨_, rfl⟩
  | _ => exact ⟨_, rfl⟩
theorem itoa_ok (n : Int) : Call Q 61 [.int .i64 n] = some (.str (itoaL n)) := Call_prim Q (g := pItoa) rfl

/-- One round. -/
theorem c53_step (a : Nat) (ha : a = 1 ∨ a = 2) (ps : List (List UInt8)) (l : List Int) (i : Int) (h0 : 0 ≤ i) (hi : i < ps.length) (hps : ps.length ≤ 20) (hl : l.length ≤ 20) (p : List UInt8) (hp : ps[i.toNat]? = some p) (hpl : p.length < 1000000) (K : List Item) :
    fin R53 (RunL Q m53k0 m53b0 (.blk 0 :: K) ⟨V53 a ps l i, [], O53 a l, 3⟩) = match numP p with
      | some n => fin R53 (RunL Q m53k0 m53b0 (.blk 0 :: K) ⟨V53 1 ps (l ++ [n]) (i + 1), [], O53 1 (l ++ [n]), 3⟩)
      | none => some bad53 := by
  have hlt : decide (i < (ps.length : Int)) = true := by simp; omega
  have hlen : ((ps.map MV.str).length : Int) = (ps.length : Int) := by simp
  have hget : (ps.map MV.str)[i.toNat]? = some (.str p) := by rw [List.getElem?_map, hp]; rfl
  have hil := ints_length l
  have step : ∀ (b' : MCode) (n : Int) (V : List (Nat × MV)) (O : List (Nat × Obj)) (nx : Nat), b' = m53b0 → canon m53k0 ⟨V, [], O, nx⟩ = ⟨V53 1 ps (l ++ [n]) (i + 1), [], O53 1 (l ++ [n]), 3⟩ →
      fin R53 (Run Q (.lp m53k0 b' :: .blk 0 :: K) ⟨V, [], O, nx⟩) = fin R53 (RunL Q m53k0 m53b0 (.blk 0 :: K) ⟨V53 1 ps (l ++ [n]) (i + 1), [], O53 1 (l ++ [n]), 3⟩) := by
    intro b' n V O nx hb hc
    subst hb
    rw [Run_lp, hc]
  obtain ⟨b', hb'⟩ : ∃ b', b' = m53b0 := ⟨_, rfl⟩
  rw [RunL_eq, show Item.lp m53k0 m53b0 = Item.lp m53k0 b' by rw [hb']]
  have hcap : (l.length + 1) * 8 ≤ 2 ^ 47 := by omega
  by_cases hok : ∃ n, Lib.atoiAll p = .ok n
  · obtain ⟨n, hn⟩ := hok
    have hz := atoi_ok hpl hn (Lib.atoiAll_bounds hn)
    have hi2 := itoa_ok n
    have numeq : numP p = if 0 ≤ n ∧ n < 1099511627776 ∧ itoaL n = p then some n else none := by simp only [numP, hn]
    by_cases c1 : n < 0
    · have d1 : decide (n < 0) = true := by simp; omega
      rw [numeq, if_neg (by omega)]
      rcases ha with rfl | rfl <;>
      simp (maxSteps := 99999999) (disch := first | decide | omega | exact ok_of (by kernel_rfl)) only [m53b0, V53, O53, R53, bad53, hlt, hlen, hget, h0, hi, zero5, hz, hi2, d1, Nat.reduceAdd, Nat.reduceMul, Nat.reduceLeDiff, Nat.reduceEqDiff, Nat.reduceLT, reduceCtorEq, cut, Int.reduceLE, Int.reduceLT, Int.reduceToNat, Int.reduceEq, Int.reduceNeg, Int.reduceMul, Int.reduceAdd, Int.reduceSub, bC.u, bN.u, bL.u, bR.u, bD.u]
    · have d1 : decide (n < 0) = false := by simp; omega
      by_cases c2 : 1099511627776 ≤ n
      · have d2 : decide (1099511627776 ≤ n) = true := by simp; omega
        rw [numeq, if_neg (by omega)]
        rcases ha with rfl | rfl <;>
        simp (maxSteps := 99999999) (disch := first | decide | omega | exact ok_of (by kernel_rfl)) only [m53b0, V53, O53, R53, bad53, hlt, hlen, hget, h0, hi, zero5, hz, hi2, d1, d2, Nat.reduceAdd, Nat.reduceMul, Nat.reduceLeDiff, Nat.reduceEqDiff, Nat.reduceLT, reduceCtorEq, cut, Int.reduceLE, Int.reduceLT, Int.reduceToNat, Int.reduceEq, Int.reduceNeg, Int.reduceMul, Int.reduceAdd, Int.reduceSub, bC.u, bN.u, bL.u, bR.u, bD.u]
      · have d2 : decide (1099511627776 ≤ n) = false := by simp; omega
        by_cases c3 : itoaL n = p
        · have d3 : (p == p) = true := by simp
          rw [numeq, if_pos ⟨by omega, by omega, c3⟩]
          show _ = fin R53 (RunL Q m53k0 m53b0 (.blk 0 :: K) ⟨V53 1 ps (l ++ [n]) (i + 1), [], O53 1 (l ++ [n]), 3⟩)
          obtain ⟨rhs, hr⟩ : ∃ r, r = fin R53 (RunL Q m53k0 m53b0 (.blk 0 :: K) ⟨V53 1 ps (l ++ [n]) (i + 1), [], O53 1 (l ++ [n]), 3⟩) := ⟨_, rfl⟩
          rw [← hr]
          rcases ha with rfl | rfl <;>
          simp (maxSteps := 99999999) (disch := first | decide | omega | exact ok_of (by kernel_rfl)) only [m53b0, V53, O53, R53, bad53, hlt, hlen, hget, h0, hi, zero5, hz, hi2, d1, d2, c3, hil, hcap, List.set, Nat.reduceAdd, Nat.reduceMul, Nat.reduceLeDiff, Nat.reduceEqDiff, Nat.reduceLT, reduceCtorEq, cut, Int.reduceLE, Int.reduceLT, Int.reduceToNat, Int.reduceEq, Int.reduceNeg, Int.reduceMul, Int.reduceAdd, Int.reduceSub, bC.u, bN.u, bL.u, bR.u, bD.u]
          all_goals (rw [hr]; exact step b' n _ _ _ hb' (canon_cong (Eq.trans (by kernel_rfl) (Vapp ps l n (i + 1))) (Eq.trans (by kernel_rfl) (Oapp l n)) (by kernel_rfl)))
        · have d3 : (itoaL n == p) = false := by simpa using c3
          rw [numeq, if_neg (fun h => c3 h.2.2)]
          rcases ha with rfl | rfl <;>
          simp (maxSteps := 99999999) (disch := first | decide | omega | exact ok_of (by kernel_rfl)) only [m53b0, V53, O53, R53, bad53, hlt, hlen, hget, h0, hi, zero5, hz, hi2, d1, d2, d3, Nat.reduceAdd, Nat.reduceMul, Nat.reduceLeDiff, Nat.reduceEqDiff, Nat.reduceLT, reduceCtorEq, cut, Int.reduceLE, Int.reduceLT, Int.reduceToNat, Int.reduceEq, Int.reduceNeg, Int.reduceMul, Int.reduceAdd, Int.reduceSub, bC.u, bN.u, bL.u, bR.u, bD.u]
  · have hnum : numP p = none := by
      unfold numP
      split
      · rename_i n hn; exact (hok ⟨n, hn⟩).elim
      · rfl
    rw [hnum]
    obtain ⟨z, hz⟩ := atoi_no hpl (fun n hn => hok ⟨n, hn⟩)
    rcases ha with rfl | rfl <;>
    simp (maxSteps := 99999999) (disch := first | decide | omega | exact ok_of (by kernel_rfl)) only [m53b0, V53, O53, R53, bad53, hlt, hlen, hget, h0, hi, hz, zero5, Nat.reduceAdd, Nat.reduceMul, Nat.reduceLeDiff, Nat.reduceEqDiff, Nat.reduceLT, reduceCtorEq, cut, Int.reduceLE, Int.reduceLT, Int.reduceToNat, Int.reduceEq, Int.reduceNeg, Int.reduceMul, Int.reduceAdd, Int.reduceSub, bC.u, bN.u, bL.u, bR.u, bD.u]

theorem numsP_cons (p : List UInt8) (r : List (List UInt8)) : numsP (p :: r) = match numP p, numsP r with
    | some n, some l => some (n :: l)
    | _, _ => none := rfl

/-- All rounds. -/
theorem c53_nums (ps : List (List UInt8)) (hps : ps.length ≤ 20) (hpl : ∀ p ∈ ps, p.length < 1000000) (K : List Item) : ∀ (r : List (List UInt8)) (a : Nat) (l : List Int) (i : Nat), (a = 1 ∨ a = 2) → (a = 2 → r ≠ []) → ps.drop i = r → i + r.length = ps.length → l.length = i →
    fin R53 (RunL Q m53k0 m53b0 (.blk 0 :: K) ⟨V53 a ps l i, [], O53 a l, 3⟩) = match numsP r with
      | some ns => fin R53 (Run Q K ⟨(29, .bool false) :: V53 1 ps (l ++ ns) ps.length, [], O53 1 (l ++ ns), 7⟩)
      | none => some bad53
  | [], a, l, i, ha, ha2, hd, hi, hl => by
    obtain rfl : a = 1 := by
      rcases ha with h | h
      · exact h
      · exact (ha2 h rfl).elim
    have hi' : i = ps.length := by simpa using hi
    subst hi'
    have hlt : decide ((ps.length : Int) < (ps.length : Int)) = false := by simp
    obtain ⟨b', hb'⟩ : ∃ b', b' = m53b0 := ⟨_, rfl⟩
    show _ = fin R53 (Run Q K ⟨(29, .bool false) :: V53 1 ps (l ++ []) ps.length, [], O53 1 (l ++ []), 7⟩)
    rw [List.append_nil, RunL_eq, show Item.lp m53k0 m53b0 = Item.lp m53k0 b' by rw [hb']]
    simp (maxSteps := 99999999) (disch := first | decide | omega | exact ok_of (by kernel_rfl)) only [m53b0, V53, O53, hlt, Nat.reduceAdd, Nat.reduceMul, Nat.reduceLeDiff, Nat.reduceEqDiff, Nat.reduceLT, reduceCtorEq, cut, Int.reduceLE, Int.reduceLT, Int.reduceToNat, Int.reduceEq, Int.reduceNeg, Int.reduceMul, Int.reduceAdd, Int.reduceSub, bC.u, bD.u]
  | p :: r, a, l, i, ha, ha2, hd, hi, hl => by
    simp only [List.length_cons] at hi
    have hlt : i < ps.length := by omega
    have hp : ps[i]? = some p := by
      have := congrArg (·[0]?) hd
      simpa [List.getElem?_drop] using this
    have hd' : ps.drop (i + 1) = r := by
      have := congrArg (List.drop 1) hd
      simpa [List.drop_drop] using this
    rw [c53_step a ha ps l i (by omega) (by omega) hps (by omega) p (by simpa using hp) (hpl p (List.mem_of_getElem? hp)) K, numsP_cons]
    cases hn : numP p with
    | none => rfl
    | some n =>
      have ih := c53_nums ps hps hpl K r 1 (l ++ [n]) (i + 1) (.inl rfl) (fun h => by omega) hd' (by omega) (by simp [hl])
      have e : ((i : Int) + 1) = ((i + 1 : Nat) : Int) := by omega
      rw [e]
      simp only
      rw [ih]
      cases numsP r with
      | none => rfl
      | some ns => simp only [List.append_assoc, List.cons_append, List.nil_append]

theorem numsP_length : ∀ {r : List (List UInt8)} {ns : List Int}, numsP r = some ns → ns.length = r.length ∧ ∀ n ∈ ns, 0 ≤ n ∧ n < 1099511627776
  | [], ns, h => by simp only [numsP, Option.some.injEq] at h; subst h; simp
  | p :: r, ns, h => by
    rw [numsP_cons] at h
    split at h
    · rename_i n l h1 h2
      cases h
      have ⟨a, b⟩ := numsP_length h2
      refine ⟨by simp [a], fun m hm => ?_⟩
      rcases List.mem_cons.1 hm with rfl | hm
      · exact numP_itoa h1
      · exact b m hm
    · cases h
end Go.Mini
