/- no chain of more than six, no pool of more than thirty-two: the law by that interpreter (part 7): what the program's functions answer, or plain laws of it; no conditions. -/
import Derived.Test.YtaehaajckndejaaGreatDoorB04
import Derived.Test.YtaehaajckndejaaGreatDoorB02
import Derived.Test.YtaehaajckndejaaGreatDoorB06
import Derived.Test.YtaehaajckndejaaGreatDoorB05
set_option linter.all false
namespace Go.Proofs.YtaehaajckndejaaGreatDoor
open Go Go.Mini Go.Proofs
theorem gPow : Tryz.prog.globalNamed "internal/strconv.uint64pow10" = some 7 := by kernel_rfl
theorem var_heap {P : Program} {w w' : World} {n : String} {g : Nat} (hg : P.globalNamed n = some g) (h : w'.heap[g]? = w.heap[g]?) : w'.var? P n = w.var? P n := by
 unfold World.var?
 rw [hg]
 simp only [Option.bind_some,h]
structure Tabs (w : World) : Prop where
 len : ∃ m,w.cell? ⟨0,0,none⟩ = some (.int .i64 m)
 pow : Lib.TabIs Tryz.prog w "internal/strconv.uint64pow10" .u64 Lib.pow10Tab
 bad : ∃ ev,w.cell? ⟨4,0,none⟩ = some ev ∧ (ev = .nilIface ∨ ∃ te pe,ev = .iface te pe)
 far : ∃ ev,w.cell? ⟨5,0,none⟩ = some ev ∧ (ev = .nilIface ∨ ∃ te pe,ev = .iface te pe)
 utf : Lib.Utf8Tabs 1 2 w
def Gd : Mini.Ground where
 lim := 8
 G E := Tabs E.w ∧ 256 ≤ E.C 1 ∧ 32 ≤ E.C 2
 lo E h := by
  have h2 := h.1.pow
  unfold Lib.TabIs World.var? at h2
  rw [gPow] at h2
  simp only [Option.bind_some] at h2
  split at h2
  ·rename_i hh; exact (Array.getElem?_eq_some_iff.1 hh).1
  ·cases h2
 st E E' hC _ hk _ h := by
  obtain ⟨h,hc0,hc1⟩ := h
  refine ⟨?_,Nat.le_trans hc0 (hC 1),Nat.le_trans hc1 (hC 2)⟩
  have cell : ∀ b,b < 8→∀ i,E'.w.cell? ⟨b,i,none⟩ = E.w.cell? ⟨b,i,none⟩ := by
   intro b hb i
   unfold World.cell?
   simp only
   rw [hk b hb]
  refine ⟨?_,(var_heap gPow (hk 7 (by decide))).trans h.pow,?_,?_,?_,?_⟩
  ·obtain ⟨m,hm⟩ := h.len; exact ⟨m,(cell 0 (by decide) 0).trans hm⟩
  ·obtain ⟨m,hm,h'⟩ := h.bad; exact ⟨m,(cell 4 (by decide) 0).trans hm,h'⟩
  ·obtain ⟨m,hm,h'⟩ := h.far; exact ⟨m,(cell 5 (by decide) 0).trans hm,h'⟩
  ·intro c hc; rw [cell 1 (by decide)]; exact h.utf.1 c hc
  ·intro i hi; rw [cell 2 (by decide),cell 2 (by decide)]; exact h.utf.2 i hi
theorem enters {f : FuncId} {fn : Func} (hf : Tryz.prog.funcs[f]? = some fn) (hb0 : fn.body.isSome = true) (hn : (fn.name == "runtime.NumGoroutine") = false) (args : Array Value) (w : World) : (callFunc f args).run Tryz.prog w = .ok (.enter f args) w := by
 have hn : fn.name ≠ "runtime.NumGoroutine" := by simpa using hn
 have hb : fn.body ≠ none := by intro e; rw [e] at hb0; cases hb0
 simp [callFunc,hf,hn,hb]
theorem i64_range {n : Int} (h0 : IntKind.i64.min ≤ n) (h1 : n ≤ IntKind.i64.max) : -9223372036854775808 ≤ n ∧ n ≤ 9223372036854775807 := by
 have e1 : IntKind.i64.min = -9223372036854775808 := by decide
 have e2 : IntKind.i64.max = 9223372036854775807 := by decide
 omega
theorem pItoa_ok {args : List MV} {r : MV} (h : pItoa args = some r) : FunOK Tryz.prog Gd 125 args r := by
 unfold pItoa at h
 split at h
 ·rename_i n
  cases h
  refine FunOK.pure (by simp) .str fun E vs hG good hr=>?_
  cases hr with
  | cons h1 h2 =>
   cases h2
   cases h1 with
   | int a b =>
    have ⟨a',b'⟩ := i64_range a b
    refine .inl ⟨enters Tryz.func125 (by kernel_rfl) (by kernel_rfl) _ _,Calls.mono (Tryz.strconv_Itoa n a' b' E.w hG.1.pow) ?_⟩
    rintro e w' ⟨rfl,k,os,rfl⟩
    refine ⟨_,rfl,(Kept.drewN _ k).trans (Kept.grow _ os),?_⟩
    rw [← itoaL_eq a' b']
    exact .str (by have := itoaL_len n; omega)
 ·cases h
theorem flat_str (xs : List (List UInt8)) : (xs.map MV.str).flatMap MV.cells = xs.map .str := by
 induction xs with
 | nil=>rfl
 | cons x xs ih=>simp only [List.map_cons,List.flatMap_cons,ih]; rfl
theorem pSplit_ok {args : List MV} {r : MV} (h : pSplit args = some r) : FunOK Tryz.prog Gd 58 args r := by
 unfold pSplit at h
 split at h
 ·rename_i s sep
  split at h
  ·rename_i hc
   cases h
   have hlen : (Lib.splitK sep 0 (Lib.count s sep) s).length = Lib.count s sep + 1 := by
    have h1 := Lib.splitB_all ⟨sep.toArray⟩ hc.1 0 _ ⟨s.toArray⟩ rfl
    have h2 := congrArg List.length (Lib.splitB_data ⟨sep.toArray⟩ 0 (Lib.countB ⟨s.toArray⟩ ⟨sep.toArray⟩) ⟨s.toArray⟩)
    rw [List.length_map,h1] at h2
    exact h2.symm
   have hcnt : Lib.count s sep ≤ s.length := Lib.countB_le ⟨sep.toArray⟩ hc.1 _ ⟨s.toArray⟩ (Nat.le_refl _)
   refine FunOK.newCells (by decide) (fun e he=>?_) (by simp only [List.length_map]; omega) fun E vs hG good hr=>?_
   ·obtain ⟨p,_,rfl⟩ := List.mem_map.1 he
    refine ⟨rfl,?_,.str⟩
    intro c hc
    have : c = .str p := by simpa [MV.cells] using hc
    subst this; rfl
   ·cases hr with
    | cons h1 h2 =>
     cases h2 with
     | cons h2 h3 =>
      cases h3
      cases h1
      cases h2
      obtain ⟨m,hm⟩ := hG.1.len
      refine .inl ⟨enters Tryz.func58 (by kernel_rfl) (by kernel_rfl) _ _,Calls.mono (Tryz.strings_Split ⟨s.toArray⟩ ⟨sep.toArray⟩ m E.w hc.2 hm hc.1) ?_⟩
      rintro e w' ⟨rfl,rfl⟩
      have hd : (Lib.splitB ⟨sep.toArray⟩ 0 (Lib.countB ⟨s.toArray⟩ ⟨sep.toArray⟩) ⟨s.toArray⟩).map Value.string = (Lib.splitK sep 0 (Lib.count s sep) s).map fun x=>.string ⟨x.toArray⟩ := by
       rw [← Lib.splitB_data ⟨sep.toArray⟩ 0 (Lib.count s sep) ⟨s.toArray⟩,List.map_map]
       rfl
      refine ⟨_,rfl,Kept.alloc _ _,E.w.heap.size,0,Lib.count s sep + 1,(Lib.splitK sep 0 (Lib.count s sep) s).map fun x=>.string ⟨x.toArray⟩,?_,by simp only [List.length_map]; omega,Nat.le_refl _,?_,?_,fun i v hv=>?_⟩
      ·simp only [List.length_map,hlen]
      ·show _ < (E.w.heap.push _).size
       rw [Array.size_push]; omega
      ·rw [flat_str]
       have : ∀ ps : List (List UInt8),(∀ p ∈ ps,p.length ≤ s.length)→RelL E (ps.map .str) (ps.map fun x=>Value.string ⟨x.toArray⟩) := by
        intro ps
        induction ps with
        | nil=>intro _; exact .nil
        | cons p ps ih=>intro h; exact .cons (.str (by have := h p (by simp); omega)) (ih fun q hq=>h q (by simp [hq]))
       exact this _ (splitK_len sep _ s)
      ·rw [hd]
       have hnew : (E.w.alloc (.cells ((Lib.splitK sep 0 (Lib.count s sep) s).map fun x=>Value.string ⟨x.toArray⟩).toArray 9)).heap[E.w.heap.size]? = some (.cells ((Lib.splitK sep 0 (Lib.count s sep) s).map fun x=>Value.string ⟨x.toArray⟩).toArray 9) := by
        show (E.w.heap.push _)[E.w.heap.size]? = _
        rw [Array.getElem?_push,if_pos rfl]
       unfold World.cell?
       simp only [hnew]
       simpa using hv
  ·cases h
 ·cases h
theorem Kept.freeze (w : World) {b n k : Nat} (hb : w.heap.size ≤ b) (w0 : World) (hk : Kept w w0) : Kept w (w0.freeze ⟨b,n,none⟩ k) := by
 refine ⟨?_,?_,?_,?_,fun i hi=>?_⟩
 ·unfold World.freeze; split <;> exact hk.os
 ·unfold World.freeze; split <;> exact hk.tape
 ·unfold World.freeze; split <;> exact hk.output
 ·have := hk.size
  unfold World.freeze; split
  ·exact this
  ·simpa using this
 ·unfold World.freeze; split
  ·exact hk.block i hi
  ·show (w0.heap.modify b _)[i]? = _
   rw [Array.getElem?_modify,if_neg (by omega)]
   exact hk.block i hi
theorem rel_err {E : Env} (N : Nat) : RelV E (.iface atoiErr (.cptr [])) (.iface atoiErr (.pointer (some ⟨N,0,none⟩))) :=
 .iface (.cptr .nil (fun c hc=>by cases hc) ⟨rfl,Nat.zero_le _,fun i v hv=>by simp at hv⟩) (.cptr fun e he=>by cases he)
theorem atoiSat_range (s : List UInt8) : IntKind.i64.min ≤ Lib.atoiSat s ∧ Lib.atoiSat s ≤ IntKind.i64.max := by
 have e1 : IntKind.i64.min = -9223372036854775808 := by decide
 have e2 : IntKind.i64.max = 9223372036854775807 := by decide
 rw [e1,e2]
 unfold Lib.atoiSat
 split <;> omega
theorem pAtoi_ok {args : List MV} {r : MV} (h : pAtoi args = some r) : FunOK Tryz.prog Gd 124 args r := by
 unfold pAtoi at h
 have e1 : IntKind.i64.min = -9223372036854775808 := by decide
 have e2 : IntKind.i64.max = 9223372036854775807 := by decide
 have pureE : ∀ n,∀ v ∈ [MV.int .i64 n,.iface atoiErr (.cptr [])],Pure v := by
  intro n v hv
  simp only [List.mem_cons,List.not_mem_nil,or_false] at hv
  rcases hv with rfl | rfl
  ·exact .int
  ·exact .iface (.cptr fun e he=>by cases he)
 split at h
 ·rename_i s
  split at h
  ·rename_i hl
   split at h
   ·rename_i n hn
    split at h
    ·rename_i hr'
     cases h
     refine FunOK.pures (fun v hv=>?_) fun E vs hG good hr=>?_
     ·simp only [List.mem_cons,List.not_mem_nil,or_false] at hv
      rcases hv with rfl | rfl
      ·exact .int
      ·exact .nilif
     ·cases hr with
      | cons h1 h2 =>
       cases h2
       cases h1
       refine .inl ⟨enters Tryz.func124 (by kernel_rfl) (by kernel_rfl) _ _,Calls.mono (Tryz.strconv_Atoi_ok ⟨s.toArray⟩ (by show s.length ≤ _; omega) n hn E.w) ?_⟩
       rintro e w' ⟨rfl,hw⟩
       refine ⟨_,rfl,?_,[.int .i64 n,.nilIface],rfl,.cons (.int (by omega) (by omega)) (.cons .nilif .nil)⟩
       rcases hw with rfl | ⟨t,rfl⟩
       ·exact Kept.refl _
       ·unfold Lib.bytesWorld
        exact Kept.freeze E.w (Nat.le_refl _) _ ((Kept.drew _).trans (Kept.alloc _ _))
    ·cases h
   ·rename_i hn
    cases h
    refine FunOK.pures (pureE _) fun E vs hG good hr=>?_
    cases hr with
    | cons h1 h2 =>
     cases h2
     cases h1
     obtain ⟨ev,hv,hev⟩ := hG.1.far
     refine .inl ⟨enters Tryz.func124 (by kernel_rfl) (by kernel_rfl) _ _,Calls.mono (Tryz.strconv_Atoi_range ⟨s.toArray⟩ hl hn ev E.w hv hev) ?_⟩
     rintro e w' ⟨N,rfl,_,_,hb⟩
     have hr := atoiSat_range s
     exact ⟨_,rfl,Kept.below hb,[.int .i64 (Lib.atoiSat s),.iface atoiErr (.pointer (some ⟨N,0,none⟩))],rfl,.cons (.int hr.1 hr.2) (.cons (rel_err N) .nil)⟩
   ·rename_i hx hy
    have hn : Lib.atoiAll s = Lib.atoiAll [] := by
     cases hz : Lib.atoiAll s with
     | ok n=>exact (hx n hz).elim
     | range=>exact (hy hz).elim
     | _=>rfl
    cases h
    refine FunOK.pures (pureE _) fun E vs hG good hr=>?_
    cases hr with
    | cons h1 h2 =>
     cases h2
     cases h1
     obtain ⟨ev,hv,hev⟩ := hG.1.bad
     refine .inl ⟨enters Tryz.func124 (by kernel_rfl) (by kernel_rfl) _ _,Calls.mono (Tryz.strconv_Atoi_syntax ⟨s.toArray⟩ hl hn ev E.w hv hev) ?_⟩
     rintro e w' ⟨N,rfl,_,_,hb⟩
     exact ⟨_,rfl,Kept.below hb,[.int .i64 0,.iface atoiErr (.pointer (some ⟨N,0,none⟩))],rfl,.cons (.int (by omega) (by omega)) (.cons (rel_err N) .nil)⟩
  ·cases h
 ·cases h
theorem pValid_ok {args : List MV} {r : MV} (h : pValid args = some r) : FunOK Tryz.prog Gd 128 args r := by
 unfold pValid at h
 split at h
 ·rename_i s
  split at h
  ·rename_i hc
   cases h
   refine FunOK.pure (by simp) .bool fun E vs hG good hr=>?_
   cases hr with
   | cons h1 h2 =>
    cases h2
    cases h1
    refine .inl ⟨enters Tryz.func128 (by kernel_rfl) (by kernel_rfl) _ _,Calls.mono (Any.utf8_ValidString Tryz.laysValid ⟨s.toArray⟩ E.w hc hG.1.utf) ?_⟩
    rintro e w' ⟨rfl,hb⟩
    exact ⟨_,rfl,Kept.below hb,.bool⟩
  ·cases h
 ·cases h
theorem indexByte_range (l : List UInt8) (c : UInt8) : -1 ≤ Lib.indexByte l c ∧ Lib.indexByte l c ≤ l.length := by
 refine ⟨Lib.indexByte_ge l c,?_⟩
 induction l with
 | nil=>show (-1 : Int) ≤ 0; decide
 | cons b l ih =>
  unfold Lib.indexByte
  simp only [List.length_cons]
  split
  ·omega
  ·split <;> omega
theorem pIndexByte_ok {args : List MV} {r : MV} (h : pIndexByte args = some r) : FunOK Tryz.prog Gd 184 args r := by
 unfold pIndexByte at h
 split at h
 ·rename_i b l c
  cases h
  refine FunOK.pure (by simp) .int fun E vs hG good hr=>?_
  cases hr with
  | cons h1 h2 =>
   cases h2 with
   | cons h2 h3 =>
    cases h3
    cases h2
    cases h1 with
    | bs hc hl hcell =>
     rename_i a cap
     obtain ⟨ad,rfl,hcs⟩ := hcell (by simp)
     have hx : Lib.bytesOf ((b :: l).map fun x=>(x.toNat : Int)) = b :: l := by
      unfold Lib.bytesOf
      rw [List.map_map]
      conv=>rhs; rw [← List.map_id (b :: l)]
      congr 1
      funext x
      simp
     have ctr := Tryz.bytes_IndexByte_at ad (b :: l).length cap ((b :: l).map fun x=>(x.toNat : Int)) c E.w (by simp) (fun i hi=>by
      have hg : ((b :: l).map byteV)[i]? = some (byteV ((b :: l).getD i 0)) := by
       rw [List.getElem?_map,List.getElem?_eq_getElem hi]
       simp [List.getD_eq_getElem?_getD,List.getElem?_eq_getElem hi]
      have h1 := hcs.cell i _ hg
      have e3 : ((b :: l).map fun x=>(x.toNat : Int)).getD i 0 = (((b :: l).getD i 0).toNat : Int) := by
       rw [List.getD_eq_getElem?_getD,List.getElem?_map,List.getElem?_eq_getElem hi,List.getD_eq_getElem?_getD,List.getElem?_eq_getElem hi]; rfl
      rw [e3]
      obtain ⟨x,y,sp⟩ := ad
      have : sp = none := hcs.spot
      subst this
      rw [Mini.add_mk]
      exact h1)
     rw [hx] at ctr
     refine .inl ⟨enters Tryz.func184 (by kernel_rfl) (by kernel_rfl) _ _,Calls.mono ctr ?_⟩
     rintro e w' ⟨rfl,rfl⟩
     have hr := indexByte_range (b :: l) (UInt8.ofNat c.toNat)
     have e1 : IntKind.i64.min = -9223372036854775808 := by decide
     have e2 : IntKind.i64.max = 9223372036854775807 := by decide
     exact ⟨_,rfl,Kept.refl _,.int (by rw [e1]; omega) (by rw [e2]; omega)⟩
 ·cases h
theorem indexAny_range (l cs : List UInt8) : -1 ≤ Lib.indexAny l cs ∧ Lib.indexAny l cs ≤ l.length := by
 refine ⟨Lib.indexAny_ge cs l,?_⟩
 induction l with
 | nil=>unfold Lib.indexAny; decide
 | cons b l ih =>
  unfold Lib.indexAny
  simp only [List.length_cons]
  split
  ·omega
  ·split <;> omega
theorem pIndexAny_ok {args : List MV} {r : MV} (h : pIndexAny args = some r) : FunOK Tryz.prog Gd 41 args r := by
 unfold pIndexAny at h
 split at h
 ·rename_i s cs
  split at h
  ·rename_i hc
   cases h
   refine FunOK.pure (by simp) .int fun E vs hG good hr=>?_
   cases hr with
   | cons h1 h2 =>
    cases h2 with
    | cons h2 h3 =>
     cases h3
     cases h1
     cases h2
     refine .inl ⟨enters Tryz.func41 (by kernel_rfl) (by kernel_rfl) _ _,Calls.mono (Tryz.strings_IndexAny (fun w=>by kernel_rfl) ⟨s.toArray⟩ ⟨cs.toArray⟩ E.w hc.1 hc.2.1 (ascii_get hc.2.2.1) (ascii_get hc.2.2.2)) ?_⟩
     rintro e w' ⟨rfl,hb⟩
     have hr := indexAny_range s cs
     have e1 : IntKind.i64.min = -9223372036854775808 := by decide
     have e2 : IntKind.i64.max = 9223372036854775807 := by decide
     exact ⟨_,rfl,Kept.below hb,.int (by rw [e1]; omega) (by rw [e2]; omega)⟩
  ·cases h
 ·cases h
theorem pRepeat_ok {args : List MV} {r : MV} (h : pRepeat args = some r) : FunOK Tryz.prog Gd 305 args r := by
 unfold pRepeat at h
 split at h
 ·rename_i s c
  split at h
  ·rename_i hc
   cases h
   obtain ⟨k,rfl⟩ := Int.eq_ofNat_of_zero_le hc.1
   simp only [Int.toNat_natCast] at hc ⊢
   refine FunOK.pure (by simp) .str fun E vs hG good hr=>?_
   cases hr with
   | cons h1 h2 =>
    cases h2 with
    | cons h2 h3 =>
     cases h3
     cases h1
     cases h2
     refine .inl ⟨enters Tryz.func305 (by kernel_rfl) (by kernel_rfl) _ _,Calls.mono (Tryz.strings_Repeat ⟨s.toArray⟩ k E.w (by omega) hc.2.2) ?_⟩
     rintro e w' ⟨rfl,hb⟩
     refine ⟨_,rfl,Kept.below hb,?_⟩
     exact .str (by have h1 := hc.2.2; rw [Lib.repeatL_length,Nat.mul_comm]; omega)
  ·cases h
 ·cases h
theorem pCut_ok {args : List MV} {r : MV} (h : pCut args = some r) : FunOK Tryz.prog Gd 39 args r := by
 unfold pCut at h
 split at h
 ·rename_i s sep
  split at h
  ·rename_i hc
   cases h
   refine FunOK.pures (fun v hv=>?_) fun E vs hG good hr=>?_
   ·simp only [List.mem_cons,List.not_mem_nil,or_false] at hv
    rcases hv with rfl | rfl | rfl
    ·exact .str
    ·exact .str
    ·exact .bool
   ·cases hr with
    | cons h1 h2 =>
     cases h2 with
     | cons h2 h3 =>
      cases h3
      cases h1
      cases h2
      obtain ⟨m,hm⟩ := hG.1.len
      refine .inl ⟨enters Tryz.func39 (by kernel_rfl) (by kernel_rfl) _ _,Calls.mono (Tryz.strings_Cut ⟨s.toArray⟩ ⟨sep.toArray⟩ m E.w hc hm) ?_⟩
      rintro e w' ⟨rfl,n,rfl⟩
      have hl := cut_len s sep
      exact ⟨_,rfl,Kept.drewN _ _,[.string ⟨(Lib.cut s sep).1.toArray⟩,.string ⟨(Lib.cut s sep).2.1.toArray⟩,.bool (Lib.cut s sep).2.2],rfl,.cons (.str (by omega)) (.cons (.str (by omega)) (.cons .bool .nil))⟩
  ·cases h
 ·cases h
theorem tab0_get : ∀ i : Fin 256,(tabZ 0)[i.val]? = some (Lib.firstT i.val : Int) := by decide +kernel
theorem tab1_get : ∀ i : Fin 32,(tabZ 1)[i.val]? = some (if i.val % 2 = 0 then (Lib.accLo (i.val / 2) : Int) else (Lib.accHi (i.val / 2) : Int)) := by decide +kernel
theorem tabs_at : TabsAt Tryz.prog Gd := by
 intro E hG k g hk hg
 obtain ⟨hT,hc0,hc1⟩ := hG
 have hk : k = 0 ∨ k = 1 := by omega
 rcases hk with rfl | rfl
 ·have h0 : Tryz.prog.globalNamed (tabN 0) = some 1 := by kernel_rfl
  rw [h0] at hg
  cases hg
  have hl : ((tabZ 0).map (Value.int .u8)).length = 256 := by decide +kernel
  refine ⟨rfl,by rw [hl]; simpa using hc0,fun i v hv=>?_⟩
  have hi : i < 256 := by rw [← hl]; exact (List.getElem?_eq_some_iff.1 hv).1
  rw [List.getElem?_map,tab0_get ⟨i,hi⟩] at hv
  cases hv
  rw [Nat.zero_add]
  exact hT.utf.1 i hi
 ·have h0 : Tryz.prog.globalNamed (tabN 1) = some 2 := by kernel_rfl
  rw [h0] at hg
  cases hg
  have hl : ((tabZ 1).map (Value.int .u8)).length = 32 := by decide +kernel
  refine ⟨rfl,by rw [hl]; simpa using hc1,fun i v hv=>?_⟩
  have hi : i < 32 := by rw [← hl]; exact (List.getElem?_eq_some_iff.1 hv).1
  rw [List.getElem?_map,tab1_get ⟨i,hi⟩] at hv
  cases hv
  rw [Nat.zero_add]
  have h2 := hT.utf.2 (i / 2) (by omega)
  by_cases hm : i % 2 = 0
  ·rw [if_pos hm]
   rw [show 2 * (i / 2) = i by omega] at h2
   exact h2.1
  ·rw [if_neg hm]
   rw [show 2 * (i / 2) + 1 = i by omega] at h2
   exact h2.2
theorem hQ0 : ProgOK Tryz.prog Gd Q0 where
 fn f m _ h := code_ok f m h
 fnH f m h := code_ok f m h
 tab := tabs_at
 prim f g h args r hr := by
  unfold Q0 prims0 at h
  simp only at h
  split at h
  ·obtain rfl := Option.some.inj h; exact pAtoi_ok hr
  ·obtain rfl := Option.some.inj h; exact pItoa_ok hr
  ·obtain rfl := Option.some.inj h; exact pSplit_ok hr
  ·obtain rfl := Option.some.inj h; exact pValid_ok hr
  ·obtain rfl := Option.some.inj h; exact pIndexByte_ok hr
  ·obtain rfl := Option.some.inj h; exact pRepeat_ok hr
  ·obtain rfl := Option.some.inj h; exact pCut_ok hr
  ·obtain rfl := Option.some.inj h; exact pIndexAny_ok hr
  ·cases h
end Go.Proofs.YtaehaajckndejaaGreatDoor
namespace Go.Proofs
open Go.RowKit Go.Shelf
attribute [local go_sem] Oper.semAt_some
set_option maxHeartbeats 4000000
set_option maxRecDepth 100000
theorem Tryz.validate_45 (F : Fence) (n : Nat) (h6 : F.fn 6) (hro : F.round = none) (a : Option Addr) (len cap : Nat) (h : len = 0 ∨ 6 < len) (hl : len < 4000000000) (ra : Option Addr) (rl rc : Nat) (w : World) :
  CallsIn F n Tryz.prog 6 #[.slice a len cap,.slice ra rl rc,.int .i64 0] w fun e W'=>e = .returned (.int .i64 45) ∧ Below w.heap.size w W' := by
 refine callsIn_of_wp_marks Tryz.func6 rfl h6 ?_ hro
 simp only [Tryz.ntmps6,List.size_toArray,List.length_cons,List.length_nil,Nat.reduceAdd,Nat.reduceSub,Array.replicate_succ,Array.replicate_zero,List.push_toArray,List.append_toArray,List.nil_append,List.cons_append]
 gi_wp2
 all_goals
  refine ⟨.int .i64 45,?_,rfl,(((Below.refl _ w).alloc (Nat.le_refl _) _).alloc (by simp <;> omega) _).alloc (by simp <;> omega) _⟩
  have b6 := Boxed.new ((w.alloc (.cells #[.slice a len cap] 23)).alloc (.cells #[.int .i64 0] 3)) 24 (.int .i64 45)
  simp only [World.size_alloc] at b6
  have hc5 := b6.cell
  simp [results,Tryz.f6,go_sem,hc5]
end Go.Proofs
namespace Go.Proofs.YtaehaajckndejaaGreatDoor
open Go Go.Mini Go.Proofs
open Go.RowKit
set_option maxRecDepth 100000
def zcl : List MV := [.int .i64 0,.int .i64 0,.nilsl,.nilsl,.int .i64 0,.int .i64 0,.int .i64 0,.nilsl,.bool false,.int .i64 0,.int .i64 0,.nilsl,.nilsl,.nilsl,.nilsl]
theorem flat_get : ∀ (n k j : Nat),k < n→j < 15→((List.replicate n zc).flatMap MV.cells)[k * 15 + j]? = zcl[j]?
 | n + 1,0,j,_,hj=>by
  rw [List.replicate_succ,List.flatMap_cons,List.getElem?_append_left (by show 0 * 15 + j < 15; omega),Nat.zero_mul,Nat.zero_add]
  rfl
 | n + 1,k + 1,j,hk,hj=>by
  rw [List.replicate_succ,List.flatMap_cons,List.getElem?_append_right (by show 15 ≤ _; omega),show (k + 1) * 15 + j - zc.cells.length = k * 15 + j by show _ - 15 = _; omega]
  exact flat_get n k j (by omega) hj
theorem z_val {E : Env} {j : Nat} {m : MV} {x v : Value} (h1 : zcl[j]? = some m) (h2 : Tryz.zv[j]? = some v) (h : RelV E m x) : x = v := by
 have hj : j < 15 := (List.getElem?_eq_some_iff.1 h1).1
 have key : (m = .int .i64 0 ∧ v = .int .i64 0) ∨ (m = .nilsl ∧ v = .slice none 0 0) ∨ (m = .bool false ∧ v = .bool false) := by
  rcases j with _ | _ | _ | _ | _ | _ | _ | _ | _ | _ | _ | _ | _ | _ | _ | j
  all_goals first | omega | (cases h1; cases h2; simp [Tryz.zv])
 rcases key with ⟨rfl,rfl⟩ | ⟨rfl,rfl⟩ | ⟨rfl,rfl⟩ <;> cases h <;> rfl
theorem noughts {E : Env} {n b o : Nat} {vs : List Value} (hr : RelL E ((List.replicate n zc).flatMap MV.cells) vs) (hc : Cells E ⟨b,o,none⟩ vs) : Tryz.Noughts E.w b o n := by
 intro k hk j v hv
 have hj : j < 15 := (Array.getElem?_eq_some_iff.1 hv).1
 have hm : zcl[j]? = some (zcl.getD j .undef) := by
  rw [List.getD_eq_getElem?_getD,List.getElem?_eq_getElem (show j < zcl.length from hj)]; rfl
 obtain ⟨x,hx,hxr⟩ := hr.get ((flat_get n k j hk hj).trans hm)
 have e := z_val hm hv hxr
 subst e
 have := hc.cell _ _ hx
 rw [← Nat.add_assoc] at this
 exact this
theorem pure_zc : Pure zc := .agg fun e he=>by
 simp only [List.mem_cons,List.not_mem_nil,or_false] at he
 rcases he with h | h | h | h | h | h | h | h | h | h | h | h | h | h | h <;> subst h <;> constructor
theorem rel_zc (E : Env) : RelV E zc (.agg Tryz.zv) := by
 have i : RelV E (.int .i64 0) (.int .i64 0) := .int (by decide) (by decide)
 refine .agg (vs := Tryz.zv.toList) (.cons i (.cons i (.cons .nilsl (.cons .nilsl (.cons i (.cons i (.cons i (.cons .nilsl (.cons .bool (.cons i (.cons i (.cons .nilsl (.cons .nilsl (.cons .nilsl (.cons .nilsl .nil))))))))))))))) fun c hc=>?_
 simp only [List.mem_cons,List.not_mem_nil,or_false] at hc
 rcases hc with h | h | h | h | h | h | h | h | h | h | h | h | h | h | h <;> subst h <;> exact ⟨rfl,by constructor⟩
theorem isZc_eq {v : MV} (h : isZc v = true) : v = zc := by
 unfold isZc at h
 split at h
 ·simp only [Bool.and_eq_true,beq_iff_eq,Bool.not_eq_true'] at h
  obtain ⟨⟨⟨⟨⟨⟨⟨rfl,rfl⟩,rfl⟩,rfl⟩,rfl⟩,rfl⟩,rfl⟩,rfl⟩ := h
  rfl
 ·cases h
theorem all_zc {l : List MV} (h : l.all isZc = true) : l = List.replicate l.length zc :=
 List.eq_replicate_iff.2 ⟨rfl,fun v hv=>isZc_eq (List.all_eq_true.1 h v hv)⟩
theorem zcs_val {E : Env} {c : MV} {n : Nat} {x : Value} (h : zcs c = some n) (hr : RelV E c x) : Pure c ∧ ∃ a cap,x = .slice a n cap ∧ n < 1000000 ∧ (n ≠ 0→∃ b o,a = some ⟨b,o,none⟩ ∧ Tryz.Noughts E.w b o n ∧ 0 < E.C b) := by
 unfold zcs at h
 split at h
 ·cases h; cases hr
  exact ⟨.nilsl,_,_,rfl,by decide,fun h=>(h rfl).elim⟩
 ·rename_i l
  split at h
  ·rename_i hl0
   have hl : l = List.replicate l.length zc ∧ l.length < 1000000 := ⟨all_zc hl0.1,hl0.2⟩
   cases h
   have hp : Pure (.sl 15 l) := .sl fun e he=>by
    rw [hl.1] at he
    rw [List.eq_of_mem_replicate he]
    exact pure_zc
   cases hr with
   | @sl _ _ a cap vs hc hl2 h0 hs hrl hcs =>
    refine ⟨hp,a,cap,rfl,hl.2,fun hn=>?_⟩
    obtain ⟨⟨b,o,sp⟩,rfl,hcell⟩ := hcs (by intro e; rw [e] at hn; exact hn rfl)
    have hsp : sp = none := hcell.spot
    subst hsp
    have hrl' := hrl
    rw [hl.1] at hrl'
    refine ⟨b,o,rfl,noughts hrl' hcell,?_⟩
    have hlen := hrl.length
    have hpos : 0 < (l.flatMap MV.cells).length := by
     rw [hl.1]
     obtain ⟨k,hk⟩ : ∃ k,l.length = k + 1 := ⟨l.length - 1,by omega⟩
     rw [hk,List.replicate_succ,List.flatMap_cons,List.length_append]
     show 0 < 15 + _
     omega
    have := hcell.com
    simp only at this
    omega
  ·cases h
 ·cases h
theorem zcC_val {E : Env} {c : MV} {n : Nat} {x : Value} (h : zcC c = some n) (hr : RelV E c x) : ∃ a cap,x = .slice a n cap ∧ n < 1000000 ∧ (n ≠ 0→∃ b o,a = some ⟨b,o,none⟩ ∧ Tryz.Noughts E.w b o n ∧ 0 < E.C b) := by
 unfold zcC at h
 split at h
 ·cases hr with
  | fsl hr=>exact (zcs_val h hr).2
 ·exact (zcs_val h hr).2
theorem pVal_ok {e : Nat→Option Int} (he : ∀ m v,e m = some v→v ≠ 0 ∧ IntKind.i64.min ≤ v ∧ v ≤ IntKind.i64.max ∧ ∀ R,zcs R = some m→FunOK Tryz.prog Gd 16 [zc,R,.int .i64 46] (.int .i64 v)) {args : List MV} {r : MV} (h : pVal e args = some r) : FunOK Tryz.prog Gd 6 args r := by
 unfold pVal at h
 split at h
 ·rename_i c rr
  split at h
  ·rename_i n m hn hm
   have ent : ∀ (vs : Array Value) (w : World),(callFunc 6 vs).run Tryz.prog w = .ok (.enter 6 vs) w := enters Tryz.func6 (by kernel_rfl) (by kernel_rfl)
   split at h
   ·rename_i hnm
    cases h
    refine FunOK.pure (by simp) .int fun E vs hG good hr=>?_
    cases hr with
    | cons h1 h2 =>
     cases h2 with
     | cons h2 h3 =>
      cases h3 with
      | cons h3 h4 =>
       cases h4
       cases h3
       obtain ⟨a,cap,rfl,hlt,_⟩ := zcC_val hn h1
       obtain ⟨_,ra,rc,rfl,_,_⟩ := zcs_val hm h2
       refine .inl ⟨ent _ _,Calls.mono (callsIn_wide.1 (Tryz.validate_45 Fence.wide 10 trivial rfl a n cap hnm (by omega) ra m rc E.w)) ?_⟩
       rintro e w' ⟨rfl,hb⟩
       exact ⟨_,rfl,Kept.below hb,.int (by decide) (by decide)⟩
   ·rename_i hnm
    simp only [Option.map_eq_some_iff] at h
    obtain ⟨v,hv,rfl⟩ := h
    obtain ⟨v0,v1,v2,hI⟩ := he m v hv
    have q1 : n ≠ 0 := fun h=>hnm (.inl h)
    have q2 : 1 ≤ n := Nat.pos_of_ne_zero q1
    have q3 : n ≤ 6 := Nat.not_lt.1 fun h=>hnm (.inr h)
    have hF := hI rr hm
    refine FunOK.pure (by simp) .int fun E vs hG good hr=>?_
    cases hr with
    | cons h1 h2 =>
     cases h2 with
     | cons h2 h3 =>
      cases h3 with
      | cons h3 h4 =>
       cases h4
       cases h3
       obtain ⟨a,cap,rfl,hlt,hmem⟩ := zcC_val hn h1
       obtain ⟨hpr,ra,rc,e2,_,_⟩ := zcs_val hm h2
       subst e2
       obtain ⟨b,o,rfl,hz,hC⟩ := hmem q1
       have hb := good b hC
       refine .inl ⟨ent _ _,Calls.mono (callsIn_wide.1 (Tryz.validate_in Fence.wide 10 trivial trivial trivial trivial rfl (Nat.le_refl _) b o n cap q2 q3 ra m rc v v0 E.w hb hz fun W hB=>callsIn_wide.2 ?_)) ?_⟩
       ·have hK := Kept.below hB
        have mv := hK.move good (C := E.C) fun _ _=>rfl
        have hG2 : Gd.G (E.next E.C W) := Gd.st E _ mv.C mv.cell (fun k hk=>hK.block k (Nat.lt_of_lt_of_le hk (Gd.lo E hG))) mv.size hG
        have hc := hF (E.next E.C W) [.agg Tryz.zv,.slice ra m rc,.int .i64 46] hG2 (fun b hb=>Nat.lt_of_lt_of_le (good b hb) hK.size) (.cons (rel_zc _) (.cons (h2.ext mv.toExt) (.cons (.int (by decide) (by decide)) .nil))) (fun u hu=>by
         simp only [List.mem_cons,List.not_mem_nil,or_false] at hu
         rcases hu with rfl | rfl | rfl
         ·exact pure_zc
         ·exact hpr
         ·exact .int)
        rcases hc with ⟨_,hc⟩ | ⟨x,w',hx,_⟩
        ·refine Calls.mono hc ?_
         rintro e w' ⟨x,rfl,C,m2,_,hret⟩
         obtain ⟨bo,hret⟩ := hret
         cases hret with
         | pure h p =>
          cases h
          exact ⟨rfl,m2.os,m2.tape,m2.output,m2.size,fun k hk=>m2.block k hk (by show ¬ W.heap.size ≤ k; omega)⟩
        ·have := enters Tryz.func16 (by kernel_rfl) (by kernel_rfl) #[.agg Tryz.zv,.slice ra m rc,.int .i64 46] W
         have hx' : (callFunc 16 #[.agg Tryz.zv,.slice ra m rc,.int .i64 46]).run Tryz.prog W = _ := hx
         rw [this] at hx'
         cases hx'
       ·rintro e w' ⟨rfl,hb⟩
        exact ⟨_,rfl,Kept.below hb,.int v1 v2⟩
  ·cases h
 ·cases h
end Go.Proofs.YtaehaajckndejaaGreatDoor
