/- Library functions as Lean functions, by the shelf's contracts. -/
import Derived.Test.YtncpjcojnjbhlaaGreatDoorM2
import Derived.Test.YtncpjcojnjbhlaaGreatDoorQ
import Derived.Test.YtncpjcojnjbhlaaGreatDoorSh
namespace Go.Proofs.YtncpjcojnjbhlaaGreatDoor
open Go Go.Mini Go.Proofs

theorem gPow : Tryz.prog.globalNamed "internal/strconv.uint64pow10" = some 5 := by kernel_rfl

theorem var_heap {P : Program} {w w' : World} {n : String} {g : Nat} (hg : P.globalNamed n = some g) (h : w'.heap[g]? = w.heap[g]?) : w'.var? P n = w.var? P n := by
  unfold World.var?
  rw [hg]
  simp only [Option.bind_some, h]

/-- What the library's functions lean on: tables, a number, two errors. -/
structure Tabs (w : World) : Prop where
  len : ∃ m, w.cell? ⟨2, 0, none⟩ = some (.int .i64 m)
  pow : Lib.TabIs Tryz.prog w "internal/strconv.uint64pow10" .u64 Lib.pow10Tab
  bad : ∃ ev, w.cell? ⟨3, 0, none⟩ = some ev ∧ (ev = .nilIface ∨ ∃ te pe, ev = .iface te pe)
  far : ∃ ev, w.cell? ⟨4, 0, none⟩ = some ev ∧ (ev = .nilIface ∨ ∃ te pe, ev = .iface te pe)
  utf : Lib.Utf8Tabs 0 1 w

def Gd : Mini.Ground where
  lim := 6
  G E := Tabs E.w
  lo E h := by
    have h2 := h.pow
    unfold Lib.TabIs World.var? at h2
    rw [gPow] at h2
    simp only [Option.bind_some] at h2
    split at h2
    · rename_i hh; exact (Array.getElem?_eq_some_iff.1 hh).1
    · cases h2
  st E E' _ _ hk _ h := by
    have cell : ∀ b, b < 6 → ∀ i, E'.w.cell? ⟨b, i, none⟩ = E.w.cell? ⟨b, i, none⟩ := by
      intro b hb i
      unfold World.cell?
      simp only
      rw [hk b hb]
    refine ⟨?_, (var_heap gPow (hk 5 (by decide))).trans h.pow, ?_, ?_, ?_, ?_⟩
    · obtain ⟨m, hm⟩ := h.len; exact ⟨m, (cell 2 (by decide) 0).trans hm⟩
    · obtain ⟨m, hm, h'⟩ := h.bad; exact ⟨m, (cell 3 (by decide) 0).trans hm, h'⟩
    · obtain ⟨m, hm, h'⟩ := h.far; exact ⟨m, (cell 4 (by decide) 0).trans hm, h'⟩
    · intro c hc; rw [cell 0 (by decide)]; exact h.utf.1 c hc
    · intro i hi; rw [cell 1 (by decide), cell 1 (by decide)]; exact h.utf.2 i hi

theorem enters {f : FuncId} {fn : Func} (hf : Tryz.prog.funcs[f]? = some fn) (hb0 : fn.body.isSome = true) (hn : (fn.name == "runtime.NumGoroutine") = false) (args : Array Value) (w : World) : (callFunc f args).run Tryz.prog w = .ok (.enter f args) w := by
  have hn : fn.name ≠ "runtime.NumGoroutine" := by simpa using hn
  have hb : fn.body ≠ none := by intro e; rw [e] at hb0; cases hb0
  simp [callFunc, hf, hn, hb]

/-! ### Numbers as texts -/
def decF : Nat → Nat → List UInt8
  | 0, n => [UInt8.ofNat (48 + n)]
  | k + 1, n => if n < 10 then [UInt8.ofNat (48 + n)] else decF k (n / 10) ++ [UInt8.ofNat (48 + n % 10)]
def itoaL (n : Int) : List UInt8 := if n < 0 then 45 :: decF 19 n.natAbs else decF 19 n.toNat

theorem decF_eq : ∀ (k n : Nat), n < 10 ^ (k + 1) → decF k n = Lib.decDigits n
  | 0, n, h => by
    rw [Lib.decDigits, dif_pos (by omega)]; rfl
  | k + 1, n, h => by
    unfold decF
    rw [Lib.decDigits]
    by_cases h1 : n < 10
    · rw [if_pos h1, dif_pos h1]
    · rw [if_neg h1, dif_neg h1, decF_eq k (n / 10) (by rw [Nat.pow_succ] at h; omega)]

theorem itoaL_eq {n : Int} (h0 : -9223372036854775808 ≤ n) (h1 : n ≤ 9223372036854775807) : itoaL n = Lib.itoa n := by
  unfold itoaL Lib.itoa
  have e : (10 : Nat) ^ (19 + 1) = 100000000000000000000 := by decide
  split
  · rw [decF_eq 19 _ (by omega)]
  · rw [decF_eq 19 _ (by omega)]

def strs : List MV → Option (List (List UInt8))
  | [] => some []
  | .str s :: r => (strs r).map (s :: ·)
  | _ => none

theorem strs_eq : ∀ {l : List MV} {xs : List (List UInt8)}, strs l = some xs → l = xs.map .str
  | [], xs, h => by simp only [strs, Option.some.injEq] at h; subst h; rfl
  | .str s :: r, xs, h => by
    simp only [strs, Option.map_eq_some_iff] at h
    obtain ⟨ys, hy, rfl⟩ := h
    rw [strs_eq hy]; rfl

def pItoa : List MV → Option MV
  | [.int .i64 n] => some (.str (itoaL n))
  | _ => none

theorem i64_range {n : Int} (h0 : IntKind.i64.min ≤ n) (h1 : n ≤ IntKind.i64.max) : -9223372036854775808 ≤ n ∧ n ≤ 9223372036854775807 := by
  have e1 : IntKind.i64.min = -9223372036854775808 := by decide
  have e2 : IntKind.i64.max = 9223372036854775807 := by decide
  omega

theorem decF_len : ∀ (k n : Nat), (decF k n).length ≤ k + 1
  | 0, n => by simp [decF]
  | k + 1, n => by
    unfold decF
    split
    · simp
    · have := decF_len k (n / 10)
      simp; omega

theorem itoaL_len (n : Int) : (itoaL n).length ≤ 21 := by
  unfold itoaL
  split
  · have := decF_len 19 n.natAbs; simp; omega
  · have := decF_len 19 n.toNat; omega

theorem pItoa_ok {args : List MV} {r : MV} (h : pItoa args = some r) : FunOK Tryz.prog Gd 61 args r := by
  unfold pItoa at h
  split at h
  · rename_i n
    cases h
    refine FunOK.pure (by simp) .str fun E vs hG good hr => ?_
    cases hr with
    | cons h1 h2 =>
      cases h2
      cases h1 with
      | int a b =>
        have ⟨a', b'⟩ := i64_range a b
        refine .inl ⟨enters Tryz.func61 (by kernel_rfl) (by kernel_rfl) _ _, Calls.mono (Tryz.strconv_Itoa n a' b' E.w hG.pow) ?_⟩
        rintro e w' ⟨rfl, k, os, rfl⟩
        refine ⟨_, rfl, (Kept.drewN _ k).trans (Kept.grow _ os), ?_⟩
        rw [← itoaL_eq a' b']
        exact .str (by have := itoaL_len n; omega)
  · cases h

/-! ### Joined -/
def pJoin : List MV → Option MV
  | [.sl 1 l, .str sep] => match strs l with
    | some xs => if (Lib.join xs sep).length ≤ 140737488355328 ∧ xs.length ≤ 140737488355328 then some (.str (Lib.join xs sep)) else none
    | none => none
  | _ => none

theorem flat_str (xs : List (List UInt8)) : (xs.map MV.str).flatMap MV.cells = xs.map .str := by
  induction xs with
  | nil => rfl
  | cons x xs ih => simp only [List.map_cons, List.flatMap_cons, ih]; rfl

theorem rel_strs {E : Env} : ∀ {xs : List (List UInt8)} {vs : List Value}, RelL E (xs.map .str) vs → vs = xs.map fun x => .string ⟨x.toArray⟩
  | [], vs, h => by cases h; rfl
  | x :: xs, vs, h => by
    cases h with
    | cons h1 h2 => cases h1; rw [rel_strs h2]; rfl

theorem pJoin_ok {args : List MV} {r : MV} (h : pJoin args = some r) : FunOK Tryz.prog Gd 62 args r := by
  unfold pJoin at h
  split at h
  · rename_i l sep
    split at h
    · rename_i xs hxs
      split at h
      · rename_i hc
        cases h
        obtain rfl := strs_eq hxs
        refine FunOK.pure (by simp) .str fun E vs hG good hr => ?_
        cases hr with
        | cons h1 h2 =>
          cases h2 with
          | cons h2 h3 =>
            cases h3
            cases h2
            cases h1 with
            | sl hc1 hl h0 hu hrel hcell =>
              rename_i a cap cs
              rw [flat_str] at hrel
              obtain rfl := rel_strs hrel
              refine .inl ⟨enters Tryz.func62 (by kernel_rfl) (by kernel_rfl) _ _, ?_⟩
              by_cases hne : xs = []
              · subst hne
                refine Calls.mono (Tryz.strings_Join_none a cap ⟨sep.toArray⟩ E.w) ?_
                rintro e w' ⟨rfl, rfl⟩
                exact ⟨_, rfl, Kept.refl _, .str (by show (Lib.join [] sep).length < _; simp [Lib.join_nil])⟩
              · obtain ⟨ad, rfl, hcs⟩ := hcell (by simpa using hne)
                obtain ⟨bk, o, sp⟩ := ad
                have hsp : sp = none := hcs.spot
                subst hsp
                have hpos : 0 < E.C bk := by
                  have h1 := hcs.com
                  have h2 : 0 < xs.length := List.length_pos_iff.2 hne
                  simp only [List.length_map] at h1
                  omega
                have ctr := Tryz.strings_Join bk o cap (xs.map fun x => ⟨x.toArray⟩) ⟨sep.toArray⟩ E.w (fun j x hj => by
                  refine hcs.cell j (.string x) ?_
                  rw [List.getElem?_map] at hj ⊢
                  cases hx : xs[j]? with
                  | none => rw [hx] at hj; cases hj
                  | some y => rw [hx] at hj; cases hj; rfl) (good bk hpos) (by simpa using hc.2) (by simpa using hc1) (by simpa [Function.comp_def] using hc.1)
                rw [show (xs.map fun x => (⟨x.toArray⟩ : ByteArray)).length = (xs.map MV.str).length by simp] at ctr
                refine Calls.mono ctr ?_
                rintro e w' ⟨rfl, hb⟩
                refine ⟨_, rfl, Kept.below hb, ?_⟩
                simp only [List.map_map, Function.comp_def, List.map_id']
                exact .str (by omega)
      · cases h
    · cases h
  · cases h

/-! ### Split -/
def pSplit : List MV → Option MV
  | [.str s, .str sep] => if 1 ≤ sep.length ∧ s.length < 4294967281 then some (.sl 1 ((Lib.splitK sep 0 (Lib.count s sep) s).map .str)) else none
  | _ => none

theorem splitK_len (sep : List UInt8) : ∀ (k : Nat) (s : List UInt8), ∀ p ∈ Lib.splitK sep 0 k s, p.length ≤ s.length
  | 0, s, p, h => by simp [Lib.splitK] at h; subst h; exact Nat.le_refl _
  | k + 1, s, p, h => by
    unfold Lib.splitK at h
    split at h
    · simp at h; subst h; exact Nat.le_refl _
    · rcases List.mem_cons.1 h with rfl | h
      · simp; omega
      · have := splitK_len sep k _ p h
        simp at this; omega

theorem pSplit_ok {args : List MV} {r : MV} (h : pSplit args = some r) : FunOK Tryz.prog Gd 64 args r := by
  unfold pSplit at h
  split at h
  · rename_i s sep
    split at h
    · rename_i hc
      cases h
      have hlen : (Lib.splitK sep 0 (Lib.count s sep) s).length = Lib.count s sep + 1 := by
        have h1 := Lib.splitB_all ⟨sep.toArray⟩ hc.1 0 _ ⟨s.toArray⟩ rfl
        have h2 := congrArg List.length (Lib.splitB_data ⟨sep.toArray⟩ 0 (Lib.countB ⟨s.toArray⟩ ⟨sep.toArray⟩) ⟨s.toArray⟩)
        rw [List.length_map, h1] at h2
        exact h2.symm
      have hcnt : Lib.count s sep ≤ s.length := Lib.countB_le ⟨sep.toArray⟩ hc.1 _ ⟨s.toArray⟩ (Nat.le_refl _)
      refine FunOK.newCells (by decide) (fun e he => ?_) (by simp only [List.length_map]; omega) fun E vs hG good hr => ?_
      · obtain ⟨p, _, rfl⟩ := List.mem_map.1 he
        refine ⟨rfl, ?_, .str⟩
        intro c hc
        have : c = .str p := by simpa [MV.cells] using hc
        subst this; rfl
      · cases hr with
        | cons h1 h2 =>
          cases h2 with
          | cons h2 h3 =>
            cases h3
            cases h1
            cases h2
            obtain ⟨m, hm⟩ := hG.len
            refine .inl ⟨enters Tryz.func64 (by kernel_rfl) (by kernel_rfl) _ _, Calls.mono (Tryz.strings_Split ⟨s.toArray⟩ ⟨sep.toArray⟩ m E.w hc.2 hm hc.1) ?_⟩
            rintro e w' ⟨rfl, rfl⟩
            have hd : (Lib.splitB ⟨sep.toArray⟩ 0 (Lib.countB ⟨s.toArray⟩ ⟨sep.toArray⟩) ⟨s.toArray⟩).map Value.string = (Lib.splitK sep 0 (Lib.count s sep) s).map fun x => .string ⟨x.toArray⟩ := by
              rw [← Lib.splitB_data ⟨sep.toArray⟩ 0 (Lib.count s sep) ⟨s.toArray⟩, List.map_map]
              rfl
            refine ⟨_, rfl, Kept.alloc _ _, E.w.heap.size, 0, Lib.count s sep + 1, (Lib.splitK sep 0 (Lib.count s sep) s).map fun x => .string ⟨x.toArray⟩, ?_, by simp only [List.length_map]; omega, Nat.le_refl _, ?_, ?_, fun i v hv => ?_⟩
            · simp only [List.length_map, hlen]
            · show _ < (E.w.heap.push _).size
              rw [Array.size_push]; omega
            · rw [flat_str]
              have : ∀ ps : List (List UInt8), (∀ p ∈ ps, p.length ≤ s.length) → RelL E (ps.map .str) (ps.map fun x => Value.string ⟨x.toArray⟩) := by
                intro ps
                induction ps with
                | nil => intro _; exact .nil
                | cons p ps ih => intro h; exact .cons (.str (by have := h p (by simp); omega)) (ih fun q hq => h q (by simp [hq]))
              exact this _ (splitK_len sep _ s)
            · rw [hd]
              have hnew : (E.w.alloc (.cells ((Lib.splitK sep 0 (Lib.count s sep) s).map fun x => Value.string ⟨x.toArray⟩).toArray 9)).heap[E.w.heap.size]? = some (.cells ((Lib.splitK sep 0 (Lib.count s sep) s).map fun x => Value.string ⟨x.toArray⟩).toArray 9) := by
                show (E.w.heap.push _)[E.w.heap.size]? = _
                rw [Array.getElem?_push, if_pos rfl]
              unfold World.cell?
              simp only [hnew]
              simpa using hv
    · cases h
  · cases h

/-! ### Texts as numbers -/
/-- The type of Atoi's errors. -/
def atoiErr : TypeId := 156
def pAtoi : List MV → Option MV
  | [.str s] => if s.length ≤ 281474976710656 then match Lib.atoiAll s with
    | .ok n => if -9223372036854775808 ≤ n ∧ n ≤ 9223372036854775807 then some (.tup [.int .i64 n, .nilif]) else none
    | .range => some (.tup [.int .i64 (Lib.atoiSat s), .iface atoiErr (.cptr [])])
    | _ => some (.tup [.int .i64 0, .iface atoiErr (.cptr [])])
    else none
  | _ => none

theorem Kept.freeze (w : World) {b n k : Nat} (hb : w.heap.size ≤ b) (w0 : World) (hk : Kept w w0) : Kept w (w0.freeze ⟨b, n, none⟩ k) := by
  refine ⟨?_, ?_, ?_, ?_, fun i hi => ?_⟩
  · unfold World.freeze; split <;> exact hk.os
  · unfold World.freeze; split <;> exact hk.tape
  · unfold World.freeze; split <;> exact hk.output
  · have := hk.size
    unfold World.freeze; split
    · exact this
    · simpa using this
  · unfold World.freeze; split
    · exact hk.block i hi
    · show (w0.heap.modify b _)[i]? = _
      rw [Array.getElem?_modify, if_neg (by omega)]
      exact hk.block i hi

theorem rel_err {E : Env} (N : Nat) : RelV E (.iface atoiErr (.cptr [])) (.iface atoiErr (.pointer (some ⟨N, 0, none⟩))) :=
  .iface (.cptr .nil (fun c hc => by cases hc) ⟨rfl, Nat.zero_le _, fun i v hv => by simp at hv⟩) (.cptr fun e he => by cases he)

theorem atoiSat_range (s : List UInt8) : IntKind.i64.min ≤ Lib.atoiSat s ∧ Lib.atoiSat s ≤ IntKind.i64.max := by
  have e1 : IntKind.i64.min = -9223372036854775808 := by decide
  have e2 : IntKind.i64.max = 9223372036854775807 := by decide
  rw [e1, e2]
  unfold Lib.atoiSat
  split <;> omega

theorem pAtoi_ok {args : List MV} {r : MV} (h : pAtoi args = some r) : FunOK Tryz.prog Gd 63 args r := by
  unfold pAtoi at h
  have e1 : IntKind.i64.min = -9223372036854775808 := by decide
  have e2 : IntKind.i64.max = 9223372036854775807 := by decide
  have pureE : ∀ n, ∀ v ∈ [MV.int .i64 n, .iface atoiErr (.cptr [])], Pure v := by
    intro n v hv
    simp only [List.mem_cons, List.not_mem_nil, or_false] at hv
    rcases hv with rfl | rfl
    · exact .int
    · exact .iface (.cptr fun e he => by cases he)
  split at h
  · rename_i s
    split at h
    · rename_i hl
      split at h
      · rename_i n hn
        split at h
        · rename_i hr'
          cases h
          refine FunOK.pures (fun v hv => ?_) fun E vs hG good hr => ?_
          · simp only [List.mem_cons, List.not_mem_nil, or_false] at hv
            rcases hv with rfl | rfl
            · exact .int
            · exact .nilif
          · cases hr with
            | cons h1 h2 =>
              cases h2
              cases h1
              refine .inl ⟨enters Tryz.func63 (by kernel_rfl) (by kernel_rfl) _ _, Calls.mono (Tryz.strconv_Atoi_ok ⟨s.toArray⟩ (by show s.length ≤ _; omega) n hn E.w) ?_⟩
              rintro e w' ⟨rfl, hw⟩
              refine ⟨_, rfl, ?_, [.int .i64 n, .nilIface], rfl, .cons (.int (by omega) (by omega)) (.cons .nilif .nil)⟩
              rcases hw with rfl | ⟨t, rfl⟩
              · exact Kept.refl _
              · unfold Lib.bytesWorld
                exact Kept.freeze E.w (Nat.le_refl _) _ ((Kept.drew _).trans (Kept.alloc _ _))
        · cases h
      · rename_i hn
        cases h
        refine FunOK.pures (pureE _) fun E vs hG good hr => ?_
        cases hr with
        | cons h1 h2 =>
          cases h2
          cases h1
          obtain ⟨ev, hv, hev⟩ := hG.far
          refine .inl ⟨enters Tryz.func63 (by kernel_rfl) (by kernel_rfl) _ _, Calls.mono (Tryz.strconv_Atoi_range ⟨s.toArray⟩ hl hn ev E.w hv hev) ?_⟩
          rintro e w' ⟨N, rfl, _, _, hb⟩
          have hr := atoiSat_range s
          exact ⟨_, rfl, Kept.below hb, [.int .i64 (Lib.atoiSat s), .iface atoiErr (.pointer (some ⟨N, 0, none⟩))], rfl, .cons (.int hr.1 hr.2) (.cons (rel_err N) .nil)⟩
      · rename_i hx hy
        have hn : Lib.atoiAll s = Lib.atoiAll [] := by
          cases hz : Lib.atoiAll s with
          | ok n => exact (hx n hz).elim
          | range => exact (hy hz).elim
          | _ => rfl
        cases h
        refine FunOK.pures (pureE _) fun E vs hG good hr => ?_
        cases hr with
        | cons h1 h2 =>
          cases h2
          cases h1
          obtain ⟨ev, hv, hev⟩ := hG.bad
          refine .inl ⟨enters Tryz.func63 (by kernel_rfl) (by kernel_rfl) _ _, Calls.mono (Tryz.strconv_Atoi_syntax ⟨s.toArray⟩ hl hn ev E.w hv hev) ?_⟩
          rintro e w' ⟨N, rfl, _, _, hb⟩
          exact ⟨_, rfl, Kept.below hb, [.int .i64 0, .iface atoiErr (.pointer (some ⟨N, 0, none⟩))], rfl, .cons (.int (by omega) (by omega)) (.cons (rel_err N) .nil)⟩
    · cases h
  · cases h

/-! ### Is a text valid? Where is a byte? -/
def pValid : List MV → Option MV
  | [.str s] => if s.length ≤ 9223372036854775807 then some (.bool (Lib.validD s)) else none
  | _ => none

theorem pValid_ok {args : List MV} {r : MV} (h : pValid args = some r) : FunOK Tryz.prog Gd 80 args r := by
  unfold pValid at h
  split at h
  · rename_i s
    split at h
    · rename_i hc
      cases h
      refine FunOK.pure (by simp) .bool fun E vs hG good hr => ?_
      cases hr with
      | cons h1 h2 =>
        cases h2
        cases h1
        refine .inl ⟨enters Tryz.func80 (by kernel_rfl) (by kernel_rfl) _ _, Calls.mono (Any.utf8_ValidString Tryz.laysValid ⟨s.toArray⟩ E.w hc hG.utf) ?_⟩
        rintro e w' ⟨rfl, hb⟩
        exact ⟨_, rfl, Kept.below hb, .bool⟩
    · cases h
  · cases h

def pIndexByte : List MV → Option MV
  | [.bs (b :: l), .int .u8 c] => some (.int .i64 (Lib.indexByte (b :: l) (UInt8.ofNat c.toNat)))
  | _ => none

theorem indexByte_range (l : List UInt8) (c : UInt8) : -1 ≤ Lib.indexByte l c ∧ Lib.indexByte l c ≤ l.length := by
  refine ⟨Lib.indexByte_ge l c, ?_⟩
  induction l with
  | nil => show (-1 : Int) ≤ 0; decide
  | cons b l ih =>
    unfold Lib.indexByte
    simp only [List.length_cons]
    split
    · omega
    · split <;> omega

theorem pIndexByte_ok {args : List MV} {r : MV} (h : pIndexByte args = some r) : FunOK Tryz.prog Gd 107 args r := by
  unfold pIndexByte at h
  split at h
  · rename_i b l c
    cases h
    refine FunOK.pure (by simp) .int fun E vs hG good hr => ?_
    cases hr with
    | cons h1 h2 =>
      cases h2 with
      | cons h2 h3 =>
        cases h3
        cases h2
        cases h1 with
        | bs hc hl hcell =>
          rename_i a cap
          obtain ⟨ad, rfl, hcs⟩ := hcell (by simp)
          have hx : Lib.bytesOf ((b :: l).map fun x => (x.toNat : Int)) = b :: l := by
            unfold Lib.bytesOf
            rw [List.map_map]
            conv => rhs; rw [← List.map_id (b :: l)]
            congr 1
            funext x
            simp
          have ctr := Tryz.bytes_IndexByte_at ad (b :: l).length cap ((b :: l).map fun x => (x.toNat : Int)) c E.w (by simp) (fun i hi => by
            have hg : ((b :: l).map byteV)[i]? = some (byteV ((b :: l).getD i 0)) := by
              rw [List.getElem?_map, List.getElem?_eq_getElem hi]
              simp [List.getD_eq_getElem?_getD, List.getElem?_eq_getElem hi]
            have h1 := hcs.cell i _ hg
            have e3 : ((b :: l).map fun x => (x.toNat : Int)).getD i 0 = (((b :: l).getD i 0).toNat : Int) := by
              rw [List.getD_eq_getElem?_getD, List.getElem?_map, List.getElem?_eq_getElem hi, List.getD_eq_getElem?_getD, List.getElem?_eq_getElem hi]; rfl
            rw [e3]
            obtain ⟨x, y, sp⟩ := ad
            have : sp = none := hcs.spot
            subst this
            rw [Mini.add_mk]
            exact h1)
          rw [hx] at ctr
          refine .inl ⟨enters Tryz.func107 (by kernel_rfl) (by kernel_rfl) _ _, Calls.mono ctr ?_⟩
          rintro e w' ⟨rfl, rfl⟩
          have hr := indexByte_range (b :: l) (UInt8.ofNat c.toNat)
          have e1 : IntKind.i64.min = -9223372036854775808 := by decide
          have e2 : IntKind.i64.max = 9223372036854775807 := by decide
          exact ⟨_, rfl, Kept.refl _, .int (by rw [e1]; omega) (by rw [e2]; omega)⟩
  · cases h

def ascii (l : List UInt8) : Bool := l.all fun b => decide (b.toNat < 128)
theorem ascii_get {l : List UInt8} (h : ascii l = true) : ∀ (j : Nat) b, l[j]? = some b → b.toNat < 128 := by
  intro j b hj
  have := List.all_eq_true.1 h b (List.mem_of_getElem? hj)
  simpa using this

def pIndexAny : List MV → Option MV
  | [.str s, .str cs] => if s.length < 4294967281 ∧ cs.length < 4294967281 ∧ ascii s = true ∧ ascii cs = true then some (.int .i64 (Lib.indexAny s cs)) else none
  | _ => none

theorem indexAny_range (l cs : List UInt8) : -1 ≤ Lib.indexAny l cs ∧ Lib.indexAny l cs ≤ l.length := by
  refine ⟨Lib.indexAny_ge cs l, ?_⟩
  induction l with
  | nil => unfold Lib.indexAny; decide
  | cons b l ih =>
    unfold Lib.indexAny
    simp only [List.length_cons]
    split
    · omega
    · split <;> omega

theorem pIndexAny_ok {args : List MV} {r : MV} (h : pIndexAny args = some r) : FunOK Tryz.prog Gd 33 args r := by
  unfold pIndexAny at h
  split at h
  · rename_i s cs
    split at h
    · rename_i hc
      cases h
      refine FunOK.pure (by simp) .int fun E vs hG good hr => ?_
      cases hr with
      | cons h1 h2 =>
        cases h2 with
        | cons h2 h3 =>
          cases h3
          cases h1
          cases h2
          refine .inl ⟨enters Tryz.func33 (by kernel_rfl) (by kernel_rfl) _ _, Calls.mono (Tryz.strings_IndexAny (fun w => by kernel_rfl) ⟨s.toArray⟩ ⟨cs.toArray⟩ E.w hc.1 hc.2.1 (ascii_get hc.2.2.1) (ascii_get hc.2.2.2)) ?_⟩
          rintro e w' ⟨rfl, hb⟩
          have hr := indexAny_range s cs
          have e1 : IntKind.i64.min = -9223372036854775808 := by decide
          have e2 : IntKind.i64.max = 9223372036854775807 := by decide
          exact ⟨_, rfl, Kept.below hb, .int (by rw [e1]; omega) (by rw [e2]; omega)⟩
    · cases h
  · cases h

/-! ### Repeated texts -/
def pRepeat : List MV → Option MV
  | [.str s, .int .i64 c] => if 0 ≤ c ∧ c ≤ 9223372036854775807 ∧ s.length * c.toNat ≤ 140737488355328 then some (.str (Lib.repeatL s c.toNat)) else none
  | _ => none

theorem pRepeat_ok {args : List MV} {r : MV} (h : pRepeat args = some r) : FunOK Tryz.prog Gd 88 args r := by
  unfold pRepeat at h
  split at h
  · rename_i s c
    split at h
    · rename_i hc
      cases h
      obtain ⟨k, rfl⟩ := Int.eq_ofNat_of_zero_le hc.1
      simp only [Int.toNat_natCast] at hc ⊢
      refine FunOK.pure (by simp) .str fun E vs hG good hr => ?_
      cases hr with
      | cons h1 h2 =>
        cases h2 with
        | cons h2 h3 =>
          cases h3
          cases h1
          cases h2
          refine .inl ⟨enters Tryz.func88 (by kernel_rfl) (by kernel_rfl) _ _, Calls.mono (Tryz.strings_Repeat ⟨s.toArray⟩ k E.w (by omega) hc.2.2) ?_⟩
          rintro e w' ⟨rfl, hb⟩
          refine ⟨_, rfl, Kept.below hb, ?_⟩
          exact .str (by have h1 := hc.2.2; rw [Lib.repeatL_length, Nat.mul_comm]; omega)
    · cases h
  · cases h

/-! ### Cut texts -/
def pCut : List MV → Option MV
  | [.str s, .str sep] => if s.length < 4294967281 then some (.tup [.str (Lib.cut s sep).1, .str (Lib.cut s sep).2.1, .bool (Lib.cut s sep).2.2]) else none
  | _ => none

theorem cut_len (s sep : List UInt8) : (Lib.cut s sep).1.length ≤ s.length ∧ (Lib.cut s sep).2.1.length ≤ s.length := by
  unfold Lib.cut
  split
  · simp; omega
  · simp

theorem pCut_ok {args : List MV} {r : MV} (h : pCut args = some r) : FunOK Tryz.prog Gd 31 args r := by
  unfold pCut at h
  split at h
  · rename_i s sep
    split at h
    · rename_i hc
      cases h
      refine FunOK.pures (fun v hv => ?_) fun E vs hG good hr => ?_
      · simp only [List.mem_cons, List.not_mem_nil, or_false] at hv
        rcases hv with rfl | rfl | rfl
        · exact .str
        · exact .str
        · exact .bool
      · cases hr with
        | cons h1 h2 =>
          cases h2 with
          | cons h2 h3 =>
            cases h3
            cases h1
            cases h2
            obtain ⟨m, hm⟩ := hG.len
            refine .inl ⟨enters Tryz.func31 (by kernel_rfl) (by kernel_rfl) _ _, Calls.mono (Tryz.strings_Cut ⟨s.toArray⟩ ⟨sep.toArray⟩ m E.w hc hm) ?_⟩
            rintro e w' ⟨rfl, n, rfl⟩
            have hl := cut_len s sep
            exact ⟨_, rfl, Kept.drewN _ _, [.string ⟨(Lib.cut s sep).1.toArray⟩, .string ⟨(Lib.cut s sep).2.1.toArray⟩, .bool (Lib.cut s sep).2.2], rfl, .cons (.str (by omega)) (.cons (.str (by omega)) (.cons .bool .nil))⟩
    · cases h
  · cases h

def prims : FuncId → Option (List MV → Option MV)
  | 61 => some pItoa
  | 62 => some pJoin
  | 63 => some pAtoi
  | 64 => some pSplit
  | 31 => some pCut
  | 88 => some pRepeat
  | 80 => some pValid
  | 107 => some pIndexByte
  | 33 => some pIndexAny
  | _ => none

def Q : Mini.Prog := ⟨code, prims⟩

theorem hQ : ProgOK Tryz.prog Gd Q where
  fn f m _ h := code_ok f m h
  prim f g h args r hr := by
    unfold Q prims at h
    simp only at h
    split at h
    · obtain rfl := Option.some.inj h; exact pItoa_ok hr
    · obtain rfl := Option.some.inj h; exact pJoin_ok hr
    · obtain rfl := Option.some.inj h; exact pAtoi_ok hr
    · obtain rfl := Option.some.inj h; exact pSplit_ok hr
    · obtain rfl := Option.some.inj h; exact pCut_ok hr
    · obtain rfl := Option.some.inj h; exact pRepeat_ok hr
    · obtain rfl := Option.some.inj h; exact pValid_ok hr
    · obtain rfl := Option.some.inj h; exact pIndexByte_ok hr
    · obtain rfl := Option.some.inj h; exact pIndexAny_ok hr
    · cases h

theorem anchor_true : Mini.Call Q 8 [] = some (.bool true) := Call_iff.2 ⟨3000, by kernel_rfl⟩

end Go.Proofs.YtncpjcojnjbhlaaGreatDoor
