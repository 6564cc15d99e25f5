/- Library functions as Lean functions, by the shelf's contracts. -/
import Derived.Test.YtncpjcojnjbhlaaGreatDoorM1
import Derived.Test.YtncpjcojnjbhlaaGreatDoorQ
import Derived.Test.YtncpjcojnjbhlaaGreatDoorSh
namespace Go.Proofs.YtncpjcojnjbhlaaGreatDoor
open Go Go.Mini Go.Proofs

theorem gPow : Tryz.prog.globalNamed "internal/strconv.uint64pow10" = some 5 := by kernel_rfl

theorem var_heap {P : Program} {w w' : World} {n : String} {g : Nat} (hg : P.globalNamed n = some g) (h : w'.heap[g]? = w.heap[g]?) : w'.var? P n = w.var? P n := by
  unfold World.var?
  rw [hg]
  simp only [Option.bind_some, h]

/-- What the library's functions lean on: a table, a number. -/
def Gd : Mini.Ground where
  lim := 6
  G E := (∃ m, E.w.cell? ⟨2, 0, none⟩ = some (.int .i64 m)) ∧ Lib.TabIs Tryz.prog E.w "internal/strconv.uint64pow10" .u64 Lib.pow10Tab
  lo E h := by
    have h2 := h.2
    unfold Lib.TabIs World.var? at h2
    rw [gPow] at h2
    simp only [Option.bind_some] at h2
    split at h2
    · rename_i hh; exact (Array.getElem?_eq_some_iff.1 hh).1
    · cases h2
  st E E' _ _ hk _ h := by
    obtain ⟨⟨m, hm⟩, ht⟩ := h
    refine ⟨⟨m, ?_⟩, (var_heap gPow (hk 5 (by decide))).trans ht⟩
    unfold World.cell? at hm ⊢
    simp only at hm ⊢
    rw [hk 2 (by decide)]; exact hm

theorem enters {f : FuncId} {fn : Func} (hf : Tryz.prog.funcs[f]? = some fn) (hb0 : fn.body.isSome = true) (hn : (fn.name == "runtime.NumGoroutine") = false) (args : Array Value) (w : World) : (callFunc f args).run Tryz.prog w = .ok (.enter f args) w := by
  have hn : fn.name ≠ "runtime.NumGoroutine" := by simpa using hn
  have hb : fn.body ≠ none := by intro e; rw [e] at hb0; cases hb0
  simp [callFunc, hf, hn, hb]

/-! ### Numbers as texts -/
def decF : Nat → Nat → List UInt8
  | 0, n => [UInt8.ofNat (48 + n)]
  | k + 1, n => if n < 10 then [UInt8.ofNat (48 + n)] else decF k (n / 10) ++ [UInt8.ofNat (48 + n % 10)]
def itoaL (n : Int) : List UInt8 := if n < 0 then 45 :: decF 19 n.natAbs else decF 19 n.toNat

theorem decF_eq : ∀ (k n : Nat), n < 10 ^ (k + 1) → decF k n = Lib.decDigits n
  | 0, n, h => by
    rw [Lib.decDigits, dif_pos (by omega)]; rfl
  | k + 1, n, h => by
    unfold decF
    rw [Lib.decDigits]
    by_cases h1 : n < 10
    · rw [if_pos h1, dif_pos h1]
    · rw [if_neg h1, dif_neg h1, decF_eq k (n / 10) (by rw [Nat.pow_succ] at h; omega)]

theorem itoaL_eq {n : Int} (h0 : -9223372036854775808 ≤ n) (h1 : n ≤ 9223372036854775807) : itoaL n = Lib.itoa n := by
  unfold itoaL Lib.itoa
  have e : (10 : Nat) ^ (19 + 1) = 100000000000000000000 := by decide
  split
  · rw [decF_eq 19 _ (by omega)]
  · rw [decF_eq 19 _ (by omega)]

def strs : List MV → Option (List (List UInt8))
  | [] => some []
  | .str s :: r => (strs r).map (s :: ·)
  | _ => none

theorem strs_eq : ∀ {l : List MV} {xs : List (List UInt8)}, strs l = some xs → l = xs.map .str
  | [], xs, h => by simp only [strs, Option.some.injEq] at h; subst h; rfl
  | .str s :: r, xs, h => by
    simp only [strs, Option.map_eq_some_iff] at h
    obtain ⟨ys, hy, rfl⟩ := h
    rw [strs_eq hy]; rfl

def pItoa : List MV → Option MV
  | [.int .i64 n] => some (.str (itoaL n))
  | _ => none

theorem i64_range {n : Int} (h0 : IntKind.i64.min ≤ n) (h1 : n ≤ IntKind.i64.max) : -9223372036854775808 ≤ n ∧ n ≤ 9223372036854775807 := by
  have e1 : IntKind.i64.min = -9223372036854775808 := by decide
  have e2 : IntKind.i64.max = 9223372036854775807 := by decide
  omega

theorem decF_len : ∀ (k n : Nat), (decF k n).length ≤ k + 1
  | 0, n => by simp [decF]
  | k + 1, n => by
    unfold decF
    split
    · simp
    · have := decF_len k (n / 10)
      simp; omega

theorem itoaL_len (n : Int) : (itoaL n).length ≤ 21 := by
  unfold itoaL
  split
  · have := decF_len 19 n.natAbs; simp; omega
  · have := decF_len 19 n.toNat; omega

theorem pItoa_ok {args : List MV} {r : MV} (h : pItoa args = some r) : FunOK Tryz.prog Gd 61 args r := by
  unfold pItoa at h
  split at h
  · rename_i n
    cases h
    refine FunOK.pure (by simp) .str fun E vs hG good hr => ?_
    cases hr with
    | cons h1 h2 =>
      cases h2
      cases h1 with
      | int a b =>
        have ⟨a', b'⟩ := i64_range a b
        refine .inl ⟨enters Tryz.func61 (by kernel_rfl) (by kernel_rfl) _ _, Calls.mono (Tryz.strconv_Itoa n a' b' E.w hG.2) ?_⟩
        rintro e w' ⟨rfl, k, os, rfl⟩
        refine ⟨_, rfl, (Kept.drewN _ k).trans (Kept.grow _ os), ?_⟩
        rw [← itoaL_eq a' b']
        exact .str (by have := itoaL_len n; omega)
  · cases h

/-! ### Joined -/
def pJoin : List MV → Option MV
  | [.sl 1 l, .str sep] => match strs l with
    | some xs => if (Lib.join xs sep).length ≤ 140737488355328 ∧ xs.length ≤ 140737488355328 then some (.str (Lib.join xs sep)) else none
    | none => none
  | _ => none

theorem flat_str (xs : List (List UInt8)) : (xs.map MV.str).flatMap MV.cells = xs.map .str := by
  induction xs with
  | nil => rfl
  | cons x xs ih => simp only [List.map_cons, List.flatMap_cons, ih]; rfl

theorem rel_strs {E : Env} : ∀ {xs : List (List UInt8)} {vs : List Value}, RelL E (xs.map .str) vs → vs = xs.map fun x => .string ⟨x.toArray⟩
  | [], vs, h => by cases h; rfl
  | x :: xs, vs, h => by
    cases h with
    | cons h1 h2 => cases h1; rw [rel_strs h2]; rfl

theorem pJoin_ok {args : List MV} {r : MV} (h : pJoin args = some r) : FunOK Tryz.prog Gd 62 args r := by
  unfold pJoin at h
  split at h
  · rename_i l sep
    split at h
    · rename_i xs hxs
      split at h
      · rename_i hc
        cases h
        obtain rfl := strs_eq hxs
        refine FunOK.pure (by simp) .str fun E vs hG good hr => ?_
        cases hr with
        | cons h1 h2 =>
          cases h2 with
          | cons h2 h3 =>
            cases h3
            cases h2
            cases h1 with
            | sl hc1 hl h0 hu hrel hcell =>
              rename_i a cap cs
              rw [flat_str] at hrel
              obtain rfl := rel_strs hrel
              refine .inl ⟨enters Tryz.func62 (by kernel_rfl) (by kernel_rfl) _ _, ?_⟩
              by_cases hne : xs = []
              · subst hne
                refine Calls.mono (Tryz.strings_Join_none a cap ⟨sep.toArray⟩ E.w) ?_
                rintro e w' ⟨rfl, rfl⟩
                exact ⟨_, rfl, Kept.refl _, .str (by show (Lib.join [] sep).length < _; simp [Lib.join_nil])⟩
              · obtain ⟨ad, rfl, hcs⟩ := hcell (by simpa using hne)
                obtain ⟨bk, o, sp⟩ := ad
                have hsp : sp = none := hcs.spot
                subst hsp
                have hpos : 0 < E.C bk := by
                  have h1 := hcs.com
                  have h2 : 0 < xs.length := List.length_pos_iff.2 hne
                  simp only [List.length_map] at h1
                  omega
                have ctr := Tryz.strings_Join bk o cap (xs.map fun x => ⟨x.toArray⟩) ⟨sep.toArray⟩ E.w (fun j x hj => by
                  refine hcs.cell j (.string x) ?_
                  rw [List.getElem?_map] at hj ⊢
                  cases hx : xs[j]? with
                  | none => rw [hx] at hj; cases hj
                  | some y => rw [hx] at hj; cases hj; rfl) (good bk hpos) (by simpa using hc.2) (by simpa using hc1) (by simpa [Function.comp_def] using hc.1)
                rw [show (xs.map fun x => (⟨x.toArray⟩ : ByteArray)).length = (xs.map MV.str).length by simp] at ctr
                refine Calls.mono ctr ?_
                rintro e w' ⟨rfl, hb⟩
                refine ⟨_, rfl, Kept.below hb, ?_⟩
                simp only [List.map_map, Function.comp_def, List.map_id']
                exact .str (by omega)
      · cases h
    · cases h
  · cases h

/-! ### Split -/
def pSplit : List MV → Option MV
  | [.str s, .str sep] => if 1 ≤ sep.length ∧ s.length < 4294967281 then some (.sl 1 ((Lib.splitK sep 0 (Lib.count s sep) s).map .str)) else none
  | _ => none

theorem splitK_len (sep : List UInt8) : ∀ (k : Nat) (s : List UInt8), ∀ p ∈ Lib.splitK sep 0 k s, p.length ≤ s.length
  | 0, s, p, h => by simp [Lib.splitK] at h; subst h; exact Nat.le_refl _
  | k + 1, s, p, h => by
    unfold Lib.splitK at h
    split at h
    · simp at h; subst h; exact Nat.le_refl _
    · rcases List.mem_cons.1 h with rfl | h
      · simp; omega
      · have := splitK_len sep k _ p h
        simp at this; omega

theorem pSplit_ok {args : List MV} {r : MV} (h : pSplit args = some r) : FunOK Tryz.prog Gd 64 args r := by
  unfold pSplit at h
  split at h
  · rename_i s sep
    split at h
    · rename_i hc
      cases h
      have hlen : (Lib.splitK sep 0 (Lib.count s sep) s).length = Lib.count s sep + 1 := by
        have h1 := Lib.splitB_all ⟨sep.toArray⟩ hc.1 0 _ ⟨s.toArray⟩ rfl
        have h2 := congrArg List.length (Lib.splitB_data ⟨sep.toArray⟩ 0 (Lib.countB ⟨s.toArray⟩ ⟨sep.toArray⟩) ⟨s.toArray⟩)
        rw [List.length_map, h1] at h2
        exact h2.symm
      have hcnt : Lib.count s sep ≤ s.length := Lib.countB_le ⟨sep.toArray⟩ hc.1 _ ⟨s.toArray⟩ (Nat.le_refl _)
      refine FunOK.newCells (by decide) (fun e he => ?_) (by simp only [List.length_map]; omega) fun E vs hG good hr => ?_
      · obtain ⟨p, _, rfl⟩ := List.mem_map.1 he
        refine ⟨rfl, ?_, .str⟩
        intro c hc
        have : c = .str p := by simpa [MV.cells] using hc
        subst this; rfl
      · cases hr with
        | cons h1 h2 =>
          cases h2 with
          | cons h2 h3 =>
            cases h3
            cases h1
            cases h2
            obtain ⟨m, hm⟩ := hG.1
            refine .inl ⟨enters Tryz.func64 (by kernel_rfl) (by kernel_rfl) _ _, Calls.mono (Tryz.strings_Split ⟨s.toArray⟩ ⟨sep.toArray⟩ m E.w hc.2 hm hc.1) ?_⟩
            rintro e w' ⟨rfl, rfl⟩
            have hd : (Lib.splitB ⟨sep.toArray⟩ 0 (Lib.countB ⟨s.toArray⟩ ⟨sep.toArray⟩) ⟨s.toArray⟩).map Value.string = (Lib.splitK sep 0 (Lib.count s sep) s).map fun x => .string ⟨x.toArray⟩ := by
              rw [← Lib.splitB_data ⟨sep.toArray⟩ 0 (Lib.count s sep) ⟨s.toArray⟩, List.map_map]
              rfl
            refine ⟨_, rfl, Kept.alloc _ _, E.w.heap.size, 0, Lib.count s sep + 1, (Lib.splitK sep 0 (Lib.count s sep) s).map fun x => .string ⟨x.toArray⟩, ?_, by simp only [List.length_map]; omega, Nat.le_refl _, ?_, ?_, fun i v hv => ?_⟩
            · simp only [List.length_map, hlen]
            · show _ < (E.w.heap.push _).size
              rw [Array.size_push]; omega
            · rw [flat_str]
              have : ∀ ps : List (List UInt8), (∀ p ∈ ps, p.length ≤ s.length) → RelL E (ps.map .str) (ps.map fun x => Value.string ⟨x.toArray⟩) := by
                intro ps
                induction ps with
                | nil => intro _; exact .nil
                | cons p ps ih => intro h; exact .cons (.str (by have := h p (by simp); omega)) (ih fun q hq => h q (by simp [hq]))
              exact this _ (splitK_len sep _ s)
            · rw [hd]
              have hnew : (E.w.alloc (.cells ((Lib.splitK sep 0 (Lib.count s sep) s).map fun x => Value.string ⟨x.toArray⟩).toArray 9)).heap[E.w.heap.size]? = some (.cells ((Lib.splitK sep 0 (Lib.count s sep) s).map fun x => Value.string ⟨x.toArray⟩).toArray 9) := by
                show (E.w.heap.push _)[E.w.heap.size]? = _
                rw [Array.getElem?_push, if_pos rfl]
              unfold World.cell?
              simp only [hnew]
              simpa using hv
    · cases h
  · cases h

/-! ### Texts as numbers -/
def pAtoi : List MV → Option MV
  | [.str s] => if s.length ≤ 18 then match Lib.atoi s with
    | some n => if -9223372036854775808 ≤ n ∧ n ≤ 9223372036854775807 then some (.tup [.int .i64 n, .nilif]) else none
    | none => none
    else none
  | _ => none

theorem Kept.freeze (w : World) {b n k : Nat} (hb : w.heap.size ≤ b) (w0 : World) (hk : Kept w w0) : Kept w (w0.freeze ⟨b, n, none⟩ k) := by
  refine ⟨?_, ?_, ?_, ?_, fun i hi => ?_⟩
  · unfold World.freeze; split <;> exact hk.os
  · unfold World.freeze; split <;> exact hk.tape
  · unfold World.freeze; split <;> exact hk.output
  · have := hk.size
    unfold World.freeze; split
    · exact this
    · simpa using this
  · unfold World.freeze; split
    · exact hk.block i hi
    · show (w0.heap.modify b _)[i]? = _
      rw [Array.getElem?_modify, if_neg (by omega)]
      exact hk.block i hi

theorem pAtoi_ok {args : List MV} {r : MV} (h : pAtoi args = some r) : FunOK Tryz.prog Gd 63 args r := by
  unfold pAtoi at h
  split at h
  · rename_i s
    split at h
    · rename_i hl
      split at h
      · rename_i n hn
        split at h
        · rename_i hr'
          cases h
          refine FunOK.pures (fun v hv => ?_) fun E vs hG good hr => ?_
          · rcases List.mem_cons.1 hv with rfl | hv
            · exact .int
            · rcases List.mem_cons.1 hv with rfl | hv
              · exact .nilif
              · cases hv
          · cases hr with
            | cons h1 h2 =>
              cases h2
              cases h1
              refine .inl ⟨enters Tryz.func63 (by kernel_rfl) (by kernel_rfl) _ _, Calls.mono (Tryz.strconv_Atoi ⟨s.toArray⟩ n hl hn E.w) ?_⟩
              rintro e w' ⟨rfl, t, rfl⟩
              refine ⟨_, rfl, ?_, [.int .i64 n, .nilIface], rfl, .cons (.int ?_ ?_) (.cons .nilif .nil)⟩
              · unfold Lib.bytesWorld
                exact Kept.freeze E.w (Nat.le_refl _) _ ((Kept.drew _).trans (Kept.alloc _ _))
              · have e1 : IntKind.i64.min = -9223372036854775808 := by decide
                omega
              · have e2 : IntKind.i64.max = 9223372036854775807 := by decide
                omega
        · cases h
      · cases h
    · cases h
  · cases h

/-! ### Repeated texts -/
def pRepeat : List MV → Option MV
  | [.str s, .int .i64 c] => if 0 ≤ c ∧ c ≤ 9223372036854775807 ∧ s.length * c.toNat ≤ 140737488355328 then some (.str (Lib.repeatL s c.toNat)) else none
  | _ => none

theorem pRepeat_ok {args : List MV} {r : MV} (h : pRepeat args = some r) : FunOK Tryz.prog Gd 88 args r := by
  unfold pRepeat at h
  split at h
  · rename_i s c
    split at h
    · rename_i hc
      cases h
      obtain ⟨k, rfl⟩ := Int.eq_ofNat_of_zero_le hc.1
      simp only [Int.toNat_natCast] at hc ⊢
      refine FunOK.pure (by simp) .str fun E vs hG good hr => ?_
      cases hr with
      | cons h1 h2 =>
        cases h2 with
        | cons h2 h3 =>
          cases h3
          cases h1
          cases h2
          refine .inl ⟨enters Tryz.func88 (by kernel_rfl) (by kernel_rfl) _ _, Calls.mono (Tryz.strings_Repeat ⟨s.toArray⟩ k E.w (by omega) hc.2.2) ?_⟩
          rintro e w' ⟨rfl, hb⟩
          refine ⟨_, rfl, Kept.below hb, ?_⟩
          exact .str (by have h1 := hc.2.2; rw [Lib.repeatL_length, Nat.mul_comm]; omega)
    · cases h
  · cases h

/-! ### Cut texts -/
def pCut : List MV → Option MV
  | [.str s, .str sep] => if s.length < 4294967281 then some (.tup [.str (Lib.cut s sep).1, .str (Lib.cut s sep).2.1, .bool (Lib.cut s sep).2.2]) else none
  | _ => none

theorem cut_len (s sep : List UInt8) : (Lib.cut s sep).1.length ≤ s.length ∧ (Lib.cut s sep).2.1.length ≤ s.length := by
  unfold Lib.cut
  split
  · simp; omega
  · simp

theorem pCut_ok {args : List MV} {r : MV} (h : pCut args = some r) : FunOK Tryz.prog Gd 31 args r := by
  unfold pCut at h
  split at h
  · rename_i s sep
    split at h
    · rename_i hc
      cases h
      refine FunOK.pures (fun v hv => ?_) fun E vs hG good hr => ?_
      · simp only [List.mem_cons, List.not_mem_nil, or_false] at hv
        rcases hv with rfl | rfl | rfl
        · exact .str
        · exact .str
        · exact .bool
      · cases hr with
        | cons h1 h2 =>
          cases h2 with
          | cons h2 h3 =>
            cases h3
            cases h1
            cases h2
            obtain ⟨m, hm⟩ := hG.1
            refine .inl ⟨enters Tryz.func31 (by kernel_rfl) (by kernel_rfl) _ _, Calls.mono (Tryz.strings_Cut ⟨s.toArray⟩ ⟨sep.toArray⟩ m E.w hc hm) ?_⟩
            rintro e w' ⟨rfl, n, rfl⟩
            have hl := cut_len s sep
            exact ⟨_, rfl, Kept.drewN _ _, [.string ⟨(Lib.cut s sep).1.toArray⟩, .string ⟨(Lib.cut s sep).2.1.toArray⟩, .bool (Lib.cut s sep).2.2], rfl, .cons (.str (by omega)) (.cons (.str (by omega)) (.cons .bool .nil))⟩
    · cases h
  · cases h

def prims : FuncId → Option (List MV → Option MV)
  | 61 => some pItoa
  | 62 => some pJoin
  | 63 => some pAtoi
  | 64 => some pSplit
  | 31 => some pCut
  | 88 => some pRepeat
  | _ => none

def Q : Mini.Prog := ⟨code, prims⟩

theorem hQ : ProgOK Tryz.prog Gd Q where
  fn f m _ h := code_ok f m h
  prim f g h args r hr := by
    unfold Q prims at h
    simp only at h
    split at h
    · obtain rfl := Option.some.inj h; exact pItoa_ok hr
    · obtain rfl := Option.some.inj h; exact pJoin_ok hr
    · obtain rfl := Option.some.inj h; exact pAtoi_ok hr
    · obtain rfl := Option.some.inj h; exact pSplit_ok hr
    · obtain rfl := Option.some.inj h; exact pCut_ok hr
    · obtain rfl := Option.some.inj h; exact pRepeat_ok hr
    · cases h

theorem anchor_true : Mini.Call Q 8 [] = some (.bool true) := Call_iff.2 ⟨3000, by kernel_rfl⟩

end Go.Proofs.YtncpjcojnjbhlaaGreatDoor
