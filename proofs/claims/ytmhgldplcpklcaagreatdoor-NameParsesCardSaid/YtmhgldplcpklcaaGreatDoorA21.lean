/- any value's DN and any DN's value are the document's: the law by that interpreter (part 21): what the program's functions answer, or plain laws of it; no conditions. -/
import Derived.Test.YtmhgldplcpklcaaGreatDoorA04
import Derived.Lib.BytesEntry
import Derived.Laws.Externs
import Derived.Lib.Bytealg
import Derived.Test.YtmhgldplcpklcaaGreatDoorA20
import Derived.Test.YtmhgldplcpklcaaGreatDoorA19
set_option linter.all false
namespace Go.Mini.V8
open Go Go.Proofs Go.Proofs.YtmhgldplcpklcaaGreatDoor
set_option maxRecDepth 100000
set_option maxHeartbeats 8000000
theorem cba_get (l:List UInt8) (i:Nat):(ByteArray.mk l.toArray)[i]! = l.getD i 0:=by
 by_cases h:i<l.length
 ·have e1:(ByteArray.mk l.toArray)[i]! = l[i]:=getElem!_pos (ByteArray.mk l.toArray) i h
  rw[e1]
  simp[List.getD,List.getElem?_eq_getElem h]
 ·have e1:(ByteArray.mk l.toArray)[i]! = default:=getElem!_neg (ByteArray.mk l.toArray) i h
  rw[e1,List.getD_eq_getElem?_getD,List.getElem?_eq_none (by omega)]
  rfl
def cmpF (a b:List UInt8):Int:=match(List.range (min a.length b.length)).find? (fun i=>a.getD i 0 != b.getD i 0)with
 |some i=>if a.getD i 0<b.getD i 0 then -1 else 1
 |none=>if a.length<b.length then -1 else if b.length<a.length then 1 else 0
theorem cmp_list (a b:List UInt8):Extern.BytealgCompare.cmp ⟨a.toArray⟩ ⟨b.toArray⟩=cmpF a b:=by
 unfold Extern.BytealgCompare.cmp cmpF
 have hs:∀l:List UInt8,(ByteArray.mk l.toArray).size=l.length:=fun _=>rfl
 simp only[hs]
 have e:(fun i=>(ByteArray.mk a.toArray)[i]! != (ByteArray.mk b.toArray)[i]!)=fun i=>a.getD i 0 != b.getD i 0:=by
  funext i;rw[cba_get,cba_get]
 rw[e]
 cases(List.range (min a.length b.length)).find? fun i=>a.getD i 0 != b.getD i 0 with
 |none=>rfl
 |some i=>
  simp only[cba_get]
theorem cmpF_cons (x y:UInt8) (a b:List UInt8):cmpF (x::a) (y::b)=if x<y then -1 else if y<x then 1 else cmpF a b:=by
 unfold cmpF
 rw[List.length_cons,List.length_cons,Nat.add_min_add_right,List.range_succ_eq_map,List.find?_cons]
 by_cases h:x=y
 ·subst h
  have hx:¬x<x:=UInt8.lt_irrefl x
  have e:((x::a).getD 0 0 != (x::b).getD 0 0)=false:=by simp
  rw[e,if_neg hx,if_neg hx]
  simp only
  rw[List.find?_map]
  have e2:((fun i=>(x::a).getD i 0 != (x::b).getD i 0)∘Nat.succ)=fun i=>a.getD i 0 != b.getD i 0:=by
   funext i;simp
  rw[e2]
  cases(List.range (min a.length b.length)).find? fun i=>a.getD i 0 != b.getD i 0 with
  |none=>simp
  |some i=>simp
 ·have e:((x::a).getD 0 0 != (y::b).getD 0 0)=true:=by simpa using h
  rw[e]
  simp only[List.getD_cons_zero]
  by_cases hl:x<y
  ·rw[if_pos hl,if_pos hl]
  ·have hg:y<x:=by
    rw[UInt8.lt_iff_toNat_lt]at hl ⊢
    have:x.toNat≠y.toNat:=fun hh=>h (UInt8.toNat_inj.1 hh)
    omega
   rw[if_neg hl,if_neg hl,if_pos hg]
theorem cmpF_eq:∀a b:List UInt8,cmpF a b=cmpL a b
 | [],[]=>rfl
 | [],y::b=>by simp[cmpF,cmpL]
 |x::a,[]=>by simp[cmpF,cmpL]
 |x::a,y::b=>by rw[cmpF_cons,cmpL,cmpF_eq a b]
theorem cmpL_rng:∀a b:List UInt8,-1≤cmpL a b∧cmpL a b≤1
 | [],[]=>by simp[cmpL]
 | [],y::b=>by simp[cmpL]
 |x::a,[]=>by simp[cmpL]
 |x::a,y::b=>by
  rw[cmpL]
  have:=cmpL_rng a b
  split
  ·omega
  ·split
   ·omega
   ·exact this
theorem run_bytes {P:Program} {E:Env} {l:List UInt8} {x:Value} (h:RelV E (.bs l) x):(Extern.Bytes.bytesOf x).run P E.w= .ok ⟨l.toArray⟩ E.w:=by
 cases h with
 |bs hc hl hcs=>
  rename_i a cap
  by_cases hne:l=[]
  ·subst hne
   cases a with
   |none=>simp[Extern.Bytes.bytesOf];rfl
   |some ad=>simp[Extern.Bytes.bytesOf,Extern.Bytes.loadBytes];rfl
  ·obtain⟨ad,rfl,hcells⟩:=hcs hne
   obtain⟨b,o,sp⟩:=ad
   have hsp:sp=none:=hcells.spot
   subst hsp
   have hb:Lib.bytesOf (l.map fun x=>(x.toNat:Int))=l:=by
    unfold Lib.bytesOf
    rw[List.map_map]
    conv=>rhs;rw[←List.map_id l]
    congr 1
    funext x
    simp
   have:=Lib.run_loadBytesX (P:=P) E.w (l.map fun x=>(x.toNat:Int)) ⟨b,o,none⟩ .empty (fun j x hj=>by
    rw[Mini.add_mk]
    refine hcells.cell j _ ?_
    rw[List.getElem?_map]at hj ⊢
    cases hx:l[j]? with
    |none=>rw[hx]at hj;cases hj
    |some y=>rw[hx]at hj;cases hj;rfl)
   rw[hb,List.length_map]at this
   unfold Extern.Bytes.bytesOf
   rw[this]
   congr 1
   exact ByteArray.ext (by simp)
def pCmpE:List MV→Option MV
 | [.bs a,.bs b]=>some (.int .i64 (cmpL a b))
 |_=>none
theorem pCmpE_ok {Gd:Ground} {args:List MV} {r:MV} (h:pCmpE args=some r):FunOK Tryz.prog Gd 132 args r:=by
 unfold pCmpE at h
 split at h
 ·rename_i a b
  cases h
  refine FunOK.pure (by simp) .int fun E vs hG good hr=>?_
  cases hr with
  |cons h1 h2=>
   cases h2 with
   |cons h2 h3=>
    cases h3
    rename_i x y
    refine .inr ⟨.int .i64 (cmpL a b),E.w,?_,Kept.refl _,?_⟩
    ·rw[run_callFunc_extern (e:=Extern.BytealgCompare.compare) Tryz.func132 kr kr kr (by rfl)]
     have e:Extern.BytealgCompare.compare [x,y].toArray=(do let a ←Extern.Bytes.bytesOf x;let b ←Extern.Bytes.bytesOf y;pure (goInt (Extern.BytealgCompare.cmp a b))):=rfl
     rw[e]
     simp only[Sem.run_bind,run_bytes h1,run_bytes h2,Result.andThen_ok,Sem.run_pure,cmp_list,cmpF_eq]
     rfl
    ·have:=cmpL_rng a b
     have e1:IntKind.i64.min= -9223372036854775808:=by decide
     have e2:IntKind.i64.max=9223372036854775807:=by decide
     exact .int (by rw[e1];omega) (by rw[e2];omega)
 ·cases h
def Qc:Mini.Prog:=⟨codeX,fun f=>if f=132 then some pCmpE else none⟩
theorem v_cmp (a b:List UInt8):Call Qc 98 [.bs a,.bs b]=some (.int .i64 (cmpL a b)):=by
 have h:Call Qc 132 [.bs a,.bs b]=some (.int .i64 (cmpL a b)):=Call_prim Qc (g:=pCmpE) rfl
 rw[Call_fn Qc (m:=m98) rfl rfl]
 apply hide;intro rhs hrhs
 simp(maxSteps:=4000000)(disch:=first|exact dz|fail)only[bB.u,seval,cut,m98,h]
 repeat'((with_reducible first|refine sp ?_ ?_|fail)<;>intro hx<;>(try simp only[bI.u]at hx)<;>(first|exact xz|(try simp(maxSteps:=4000000)(disch:=first|exact dz|fail)only[bB.u,seval,cut,hx,m98,h])))
 all_goals first|exact xz|(subst hrhs;rfl)
end Go.Mini.V8
namespace Go.Proofs.YtmhgldplcpklcaaGreatDoor
open Go Go.Mini Go.Mini.V8 Go.Proofs
theorem gPow:Tryz.prog.globalNamed "internal/strconv.uint64pow10" = some 5:=by kernel_rfl
theorem var_heap {P:Program} {w w':World} {n:String} {g:Nat} (hg:P.globalNamed n=some g) (h:w'.heap[g]? = w.heap[g]?):w'.var? P n=w.var? P n:=by
 unfold World.var?
 rw[hg]
 simp only[Option.bind_some,h]
structure Tabs (w:World):Prop where
 len:∃m,w.cell? ⟨4,0,none⟩=some (.int .i64 m)
 pow:Lib.TabIs Tryz.prog w "internal/strconv.uint64pow10" .u64 Lib.pow10Tab
 bad:∃ev,w.cell? ⟨2,0,none⟩=some ev∧(ev= .nilIface∨∃te pe,ev= .iface te pe)
 far:∃ev,w.cell? ⟨3,0,none⟩=some ev∧(ev= .nilIface∨∃te pe,ev= .iface te pe)
 utf:Lib.Utf8Tabs 0 1 w
def Gd:Mini.Ground where
 lim:=6
 G E:=Tabs E.w∧256≤E.C 0∧32≤E.C 1
 lo E h:=by
  have h2:=h.1.pow
  unfold Lib.TabIs World.var? at h2
  rw[gPow]at h2
  simp only[Option.bind_some]at h2
  split at h2
  ·rename_i hh;exact(Array.getElem?_eq_some_iff.1 hh).1
  ·cases h2
 st E E' hC _ hk _ h:=by
  obtain⟨h,hc0,hc1⟩:=h
  refine⟨?_,Nat.le_trans hc0 (hC 0),Nat.le_trans hc1 (hC 1)⟩
  have cell:∀b,b<6→∀i,E'.w.cell? ⟨b,i,none⟩=E.w.cell? ⟨b,i,none⟩:=by
   intro b hb i
   unfold World.cell?
   simp only
   rw[hk b hb]
  refine⟨?_,(var_heap gPow (hk 5 (by decide))).trans h.pow,?_,?_,?_,?_⟩
  ·obtain⟨m,hm⟩:=h.len;exact⟨m,(cell 4 (by decide) 0).trans hm⟩
  ·obtain⟨m,hm,h'⟩:=h.bad;exact⟨m,(cell 2 (by decide) 0).trans hm,h'⟩
  ·obtain⟨m,hm,h'⟩:=h.far;exact⟨m,(cell 3 (by decide) 0).trans hm,h'⟩
  ·intro c hc;rw[cell 0 (by decide)];exact h.utf.1 c hc
  ·intro i hi;rw[cell 1 (by decide),cell 1 (by decide)];exact h.utf.2 i hi
theorem enters {f:FuncId} {fn:Func} (hf:Tryz.prog.funcs[f]? = some fn) (hb0:fn.body.isSome=true) (hn:(fn.name== "runtime.NumGoroutine")=false) (args:Array Value) (w:World):(callFunc f args).run Tryz.prog w= .ok (.enter f args) w:=by
 have hn:fn.name≠ "runtime.NumGoroutine" :=by simpa using hn
 have hb:fn.body≠none:=by intro e;rw[e]at hb0;cases hb0
 simp[callFunc,hf,hn,hb]
theorem i64_range {n:Int} (h0:IntKind.i64.min≤n) (h1:n≤IntKind.i64.max): -9223372036854775808≤n∧n≤9223372036854775807:=by
 have e1:IntKind.i64.min= -9223372036854775808:=by decide
 have e2:IntKind.i64.max=9223372036854775807:=by decide
 omega
theorem pItoa_ok {args:List MV} {r:MV} (h:pItoa args=some r):FunOK Tryz.prog Gd 34 args r:=by
 unfold pItoa at h
 split at h
 ·rename_i n
  cases h
  refine FunOK.pure (by simp) .str fun E vs hG good hr=>?_
  cases hr with
  |cons h1 h2=>
   cases h2
   cases h1 with
   |int a b=>
    have⟨a',b'⟩:=i64_range a b
    refine .inl ⟨enters Tryz.func34 kr kr _ _,Calls.mono (Tryz.strconv_Itoa n a' b' E.w hG.1.pow) ?_⟩
    rintro e w' ⟨rfl,k,os,rfl⟩
    refine⟨_,rfl,(Kept.drewN _ k).trans (Kept.grow _ os),?_⟩
    rw[←itoaL_eq a' b']
    exact .str (by have:=itoaL_len n;omega)
 ·cases h
theorem flat_str (xs:List (List UInt8)):(xs.map MV.str).flatMap MV.cells=xs.map .str:=by
 induction xs with
 |nil=>rfl
 |cons x xs ih=>simp only[List.map_cons,List.flatMap_cons,ih];rfl
theorem rel_strs {E:Env}:∀ {xs:List (List UInt8)} {vs:List Value},RelL E (xs.map .str) vs→vs=xs.map fun x=>.string ⟨x.toArray⟩
 | [],vs,h=>by cases h;rfl
 |x::xs,vs,h=>by
  cases h with
  |cons h1 h2=>cases h1;rw[rel_strs h2];rfl
theorem pJoin_ok {args:List MV} {r:MV} (h:pJoin args=some r):FunOK Tryz.prog Gd 35 args r:=by
 unfold pJoin at h
 split at h
 ·rename_i l sep
  split at h
  ·rename_i xs hxs
   split at h
   ·rename_i hc
    cases h
    obtain rfl:=strs_eq hxs
    refine FunOK.pure (by simp) .str fun E vs hG good hr=>?_
    cases hr with
    |cons h1 h2=>
     cases h2 with
     |cons h2 h3=>
      cases h3
      cases h2
      cases h1 with
      |sl hc1 hl h0 hu hrel hcell=>
       rename_i a cap cs
       rw[flat_str]at hrel
       obtain rfl:=rel_strs hrel
       refine .inl ⟨enters Tryz.func35 kr kr _ _,?_⟩
       by_cases hne:xs=[]
       ·subst hne
        refine Calls.mono (Tryz.strings_Join_none a cap ⟨sep.toArray⟩ E.w) ?_
        rintro e w' ⟨rfl,rfl⟩
        exact⟨_,rfl,Kept.refl _,.str (by show(Lib.join [] sep).length<_;simp[Lib.join_nil])⟩
       ·obtain⟨ad,rfl,hcs⟩:=hcell (by simpa using hne)
        obtain⟨bk,o,sp⟩:=ad
        have hsp:sp=none:=hcs.spot
        subst hsp
        have hpos:0<E.C bk:=by
         have h1:=hcs.com
         have h2:0<xs.length:=List.length_pos_iff.2 hne
         simp only[List.length_map]at h1
         omega
        have ctr:=Tryz.strings_Join bk o cap (xs.map fun x=>⟨x.toArray⟩) ⟨sep.toArray⟩ E.w (fun j x hj=>by
         refine hcs.cell j (.string x) ?_
         rw[List.getElem?_map]at hj ⊢
         cases hx:xs[j]? with
         |none=>rw[hx]at hj;cases hj
         |some y=>rw[hx]at hj;cases hj;rfl) (good bk hpos) (by simpa using hc.2) (by simpa using hc1) (by simpa[Function.comp_def]using hc.1)
        rw[show(xs.map fun x=>(⟨x.toArray⟩:ByteArray)).length=(xs.map MV.str).length by simp]at ctr
        refine Calls.mono ctr ?_
        rintro e w' ⟨rfl,hb⟩
        refine⟨_,rfl,Kept.below hb,?_⟩
        simp only[List.map_map,Function.comp_def,List.map_id']
        exact .str (by omega)
   ·cases h
  ·cases h
 ·cases h
theorem pSplit_ok {args:List MV} {r:MV} (h:pSplit args=some r):FunOK Tryz.prog Gd 53 args r:=by
 unfold pSplit at h
 split at h
 ·rename_i s sep
  split at h
  ·rename_i hc
   cases h
   have hlen:(Lib.splitK sep 0 (Lib.count s sep) s).length=Lib.count s sep+1:=by
    have h1:=Lib.splitB_all ⟨sep.toArray⟩ hc.1 0 _ ⟨s.toArray⟩ rfl
    have h2:=congrArg List.length (Lib.splitB_data ⟨sep.toArray⟩ 0 (Lib.countB ⟨s.toArray⟩ ⟨sep.toArray⟩) ⟨s.toArray⟩)
    rw[List.length_map,h1]at h2
    exact h2.symm
   have hcnt:Lib.count s sep≤s.length:=Lib.countB_le ⟨sep.toArray⟩ hc.1 _ ⟨s.toArray⟩ (Nat.le_refl _)
   refine FunOK.newCells (by decide) (fun e he=>?_) (by simp only[List.length_map];omega) fun E vs hG good hr=>?_
   ·obtain⟨p,_,rfl⟩:=List.mem_map.1 he
    refine⟨rfl,?_,.str⟩
    intro c hc
    have:c= .str p:=by simpa[MV.cells]using hc
    subst this;rfl
   ·cases hr with
    |cons h1 h2=>
     cases h2 with
     |cons h2 h3=>
      cases h3
      cases h1
      cases h2
      obtain⟨m,hm⟩:=hG.1.len
      refine .inl ⟨enters Tryz.func53 kr kr _ _,Calls.mono (Tryz.strings_Split ⟨s.toArray⟩ ⟨sep.toArray⟩ m E.w hc.2 hm hc.1) ?_⟩
      rintro e w' ⟨rfl,rfl⟩
      have hd:(Lib.splitB ⟨sep.toArray⟩ 0 (Lib.countB ⟨s.toArray⟩ ⟨sep.toArray⟩) ⟨s.toArray⟩).map Value.string=(Lib.splitK sep 0 (Lib.count s sep) s).map fun x=>.string ⟨x.toArray⟩:=by
       rw[←Lib.splitB_data ⟨sep.toArray⟩ 0 (Lib.count s sep) ⟨s.toArray⟩,List.map_map]
       rfl
      refine⟨_,rfl,Kept.alloc _ _,E.w.heap.size,0,Lib.count s sep+1,(Lib.splitK sep 0 (Lib.count s sep) s).map fun x=>.string ⟨x.toArray⟩,?_,by simp only[List.length_map];omega,Nat.le_refl _,?_,?_,fun i v hv=>?_⟩
      ·simp only[List.length_map,hlen]
      ·show _<(E.w.heap.push _).size
       rw[Array.size_push];omega
      ·rw[flat_str]
       have:∀ps:List (List UInt8),(∀p∈ps,p.length≤s.length)→RelL E (ps.map .str) (ps.map fun x=>Value.string ⟨x.toArray⟩):=by
        intro ps
        induction ps with
        |nil=>intro _;exact .nil
        |cons p ps ih=>intro h;exact .cons (.str (by have:=h p (by simp);omega)) (ih fun q hq=>h q (by simp[hq]))
       exact this _ (splitK_len sep _ s)
      ·rw[hd]
       have hnew:(E.w.alloc (.cells ((Lib.splitK sep 0 (Lib.count s sep) s).map fun x=>Value.string ⟨x.toArray⟩).toArray 9)).heap[E.w.heap.size]? = some (.cells ((Lib.splitK sep 0 (Lib.count s sep) s).map fun x=>Value.string ⟨x.toArray⟩).toArray 9):=by
        show(E.w.heap.push _)[E.w.heap.size]? = _
        rw[Array.getElem?_push,if_pos rfl]
       unfold World.cell?
       simp only[hnew]
       simpa using hv
  ·cases h
 ·cases h
theorem Kept.freeze (w:World) {b n k:Nat} (hb:w.heap.size≤b) (w0:World) (hk:Kept w w0):Kept w (w0.freeze ⟨b,n,none⟩ k):=by
 refine⟨?_,?_,?_,?_,fun i hi=>?_⟩
 ·unfold World.freeze;split<;>exact hk.os
 ·unfold World.freeze;split<;>exact hk.tape
 ·unfold World.freeze;split<;>exact hk.output
 ·have:=hk.size
  unfold World.freeze;split
  ·exact this
  ·simpa using this
 ·unfold World.freeze;split
  ·exact hk.block i hi
  ·show(w0.heap.modify b _)[i]? = _
   rw[Array.getElem?_modify,if_neg (by omega)]
   exact hk.block i hi
theorem rel_err {E:Env} (N:Nat):RelV E (.iface atoiErr (.cptr [])) (.iface atoiErr (.pointer (some ⟨N,0,none⟩))):=
 .iface (.cptr .nil (fun c hc=>by cases hc) ⟨rfl,Nat.zero_le _,fun i v hv=>by simp at hv⟩) (.cptr fun e he=>by cases he)
theorem atoiSat_range (s:List UInt8):IntKind.i64.min≤Lib.atoiSat s∧Lib.atoiSat s≤IntKind.i64.max:=by
 have e1:IntKind.i64.min= -9223372036854775808:=by decide
 have e2:IntKind.i64.max=9223372036854775807:=by decide
 rw[e1,e2]
 unfold Lib.atoiSat
 split<;>omega
theorem pAtoi_ok {args:List MV} {r:MV} (h:pAtoi args=some r):FunOK Tryz.prog Gd 36 args r:=by
 unfold pAtoi at h
 have e1:IntKind.i64.min= -9223372036854775808:=by decide
 have e2:IntKind.i64.max=9223372036854775807:=by decide
 have pureE:∀n,∀v∈ [MV.int .i64 n,.iface atoiErr (.cptr [])],Pure v:=by
  intro n v hv
  simp only[List.mem_cons,List.not_mem_nil,or_false]at hv
  rcases hv with rfl|rfl
  ·exact .int
  ·exact .iface (.cptr fun e he=>by cases he)
 split at h
 ·rename_i s
  split at h
  ·rename_i hl
   split at h
   ·rename_i n hn
    split at h
    ·rename_i hr'
     cases h
     refine FunOK.pures (fun v hv=>?_) fun E vs hG good hr=>?_
     ·simp only[List.mem_cons,List.not_mem_nil,or_false]at hv
      rcases hv with rfl|rfl
      ·exact .int
      ·exact .nilif
     ·cases hr with
      |cons h1 h2=>
       cases h2
       cases h1
       refine .inl ⟨enters Tryz.func36 kr kr _ _,Calls.mono (Tryz.strconv_Atoi_ok ⟨s.toArray⟩ (by show s.length≤_;omega) n hn E.w) ?_⟩
       rintro e w' ⟨rfl,hw⟩
       refine⟨_,rfl,?_,[.int .i64 n,.nilIface],rfl,.cons (.int (by omega) (by omega)) (.cons .nilif .nil)⟩
       rcases hw with rfl|⟨t,rfl⟩
       ·exact Kept.refl _
       ·unfold Lib.bytesWorld
        exact Kept.freeze E.w (Nat.le_refl _) _ ((Kept.drew _).trans (Kept.alloc _ _))
    ·cases h
   ·rename_i hn
    cases h
    refine FunOK.pures (pureE _) fun E vs hG good hr=>?_
    cases hr with
    |cons h1 h2=>
     cases h2
     cases h1
     obtain⟨ev,hv,hev⟩:=hG.1.far
     refine .inl ⟨enters Tryz.func36 kr kr _ _,Calls.mono (Tryz.strconv_Atoi_range ⟨s.toArray⟩ hl hn ev E.w hv hev) ?_⟩
     rintro e w' ⟨N,rfl,_,_,hb⟩
     have hr:=atoiSat_range s
     exact⟨_,rfl,Kept.below hb,[.int .i64 (Lib.atoiSat s),.iface atoiErr (.pointer (some ⟨N,0,none⟩))],rfl,.cons (.int hr.1 hr.2) (.cons (rel_err N) .nil)⟩
   ·rename_i hx hy
    have hn:Lib.atoiAll s=Lib.atoiAll []:=by
     cases hz:Lib.atoiAll s with
     |ok n=>exact(hx n hz).elim
     |range=>exact(hy hz).elim
     |_=>rfl
    cases h
    refine FunOK.pures (pureE _) fun E vs hG good hr=>?_
    cases hr with
    |cons h1 h2=>
     cases h2
     cases h1
     obtain⟨ev,hv,hev⟩:=hG.1.bad
     refine .inl ⟨enters Tryz.func36 kr kr _ _,Calls.mono (Tryz.strconv_Atoi_syntax ⟨s.toArray⟩ hl hn ev E.w hv hev) ?_⟩
     rintro e w' ⟨N,rfl,_,_,hb⟩
     exact⟨_,rfl,Kept.below hb,[.int .i64 0,.iface atoiErr (.pointer (some ⟨N,0,none⟩))],rfl,.cons (.int (by omega) (by omega)) (.cons (rel_err N) .nil)⟩
  ·cases h
 ·cases h
theorem pValid_ok {args:List MV} {r:MV} (h:pValid args=some r):FunOK Tryz.prog Gd 47 args r:=by
 unfold pValid at h
 split at h
 ·rename_i s
  split at h
  ·rename_i hc
   cases h
   refine FunOK.pure (by simp) .bool fun E vs hG good hr=>?_
   cases hr with
   |cons h1 h2=>
    cases h2
    cases h1
    refine .inl ⟨enters Tryz.func47 kr kr _ _,Calls.mono (Any.utf8_ValidString Tryz.laysValid ⟨s.toArray⟩ E.w hc hG.1.utf) ?_⟩
    rintro e w' ⟨rfl,hb⟩
    exact⟨_,rfl,Kept.below hb,.bool⟩
  ·cases h
 ·cases h
theorem indexByte_range (l:List UInt8) (c:UInt8): -1≤Lib.indexByte l c∧Lib.indexByte l c≤l.length:=by
 refine⟨Lib.indexByte_ge l c,?_⟩
 induction l with
 |nil=>show(-1:Int)≤0;decide
 |cons b l ih=>
  unfold Lib.indexByte
  simp only[List.length_cons]
  split
  ·omega
  ·split<;>omega
theorem pIndexByte_ok {args:List MV} {r:MV} (h:pIndexByte args=some r):FunOK Tryz.prog Gd 76 args r:=by
 unfold pIndexByte at h
 split at h
 ·rename_i b l c
  cases h
  refine FunOK.pure (by simp) .int fun E vs hG good hr=>?_
  cases hr with
  |cons h1 h2=>
   cases h2 with
   |cons h2 h3=>
    cases h3
    cases h2
    cases h1 with
    |bs hc hl hcell=>
     rename_i a cap
     obtain⟨ad,rfl,hcs⟩:=hcell (by simp)
     have hx:Lib.bytesOf ((b::l).map fun x=>(x.toNat:Int))=b::l:=by
      unfold Lib.bytesOf
      rw[List.map_map]
      conv=>rhs;rw[←List.map_id (b::l)]
      congr 1
      funext x
      simp
     have ctr:=Tryz.bytes_IndexByte_at ad (b::l).length cap ((b::l).map fun x=>(x.toNat:Int)) c E.w (by simp) (fun i hi=>by
      have hg:((b::l).map byteV)[i]? = some (byteV ((b::l).getD i 0)):=by
       rw[List.getElem?_map,List.getElem?_eq_getElem hi]
       simp[List.getD_eq_getElem?_getD,List.getElem?_eq_getElem hi]
      have h1:=hcs.cell i _ hg
      have e3:((b::l).map fun x=>(x.toNat:Int)).getD i 0=(((b::l).getD i 0).toNat:Int):=by
       rw[List.getD_eq_getElem?_getD,List.getElem?_map,List.getElem?_eq_getElem hi,List.getD_eq_getElem?_getD,List.getElem?_eq_getElem hi];rfl
      rw[e3]
      obtain⟨x,y,sp⟩:=ad
      have:sp=none:=hcs.spot
      subst this
      rw[Mini.add_mk]
      exact h1)
     rw[hx]at ctr
     refine .inl ⟨enters Tryz.func76 kr kr _ _,Calls.mono ctr ?_⟩
     rintro e w' ⟨rfl,rfl⟩
     have hr:=indexByte_range (b::l) (UInt8.ofNat c.toNat)
     have e1:IntKind.i64.min= -9223372036854775808:=by decide
     have e2:IntKind.i64.max=9223372036854775807:=by decide
     exact⟨_,rfl,Kept.refl _,.int (by rw[e1];omega) (by rw[e2];omega)⟩
 ·cases h
theorem newBytes {P:Program} {Gd:Mini.Ground} {f:FuncId} {args:List MV} {l:List UInt8} (hl:l.length<2^62)
  (h:∀(E:Env) (vs:List Value),Gd.G E→(∀b,0<E.C b→b<E.w.heap.size)→RelL E args vs→CallK P f vs.toArray E.w fun x w'=>Kept E.w w'∧∃a cap,x= .slice a l.length cap∧l.length≤cap ∧
   (l≠[]→∃b o,a=some ⟨b,o,none⟩∧E.w.heap.size≤b∧∀(i:Nat) (v:Value),(l.map byteV)[i]? = some v→w'.cell? ⟨b,o+i,none⟩=some v)):FunOK P Gd f args (.bs l):=by
 intro E vs hG good hrel _
 have fin:∀x w',(Kept E.w w'∧∃a cap,x= .slice a l.length cap∧l.length≤cap ∧
   (l≠[]→∃b o,a=some ⟨b,o,none⟩∧E.w.heap.size≤b∧∀(i:Nat) (v:Value),(l.map byteV)[i]? = some v→w'.cell? ⟨b,o+i,none⟩=some v))→∃C,Mini.Move (fun k=>E.w.heap.size≤k) E (E.next C w')∧(∀b,0<C b→b<w'.heap.size)∧Ret (E.next C w') E.w.heap.size (.bs l) x:=by
  rintro x w' ⟨hk,a,cap,rfl,hcap,hne⟩
  by_cases h0:l=[]
  ·have mv:=hk.move good (C:=E.C) fun _ _=>rfl
   exact⟨E.C,mv,fun b hb=>Nat.lt_of_lt_of_le (good b hb) hk.size,none,.pure (.bs hcap hl fun hn=>(hn h0).elim) .bs⟩
  ·obtain⟨b,o,rfl,hb,hc⟩:=hne h0
   have hb':b<w'.heap.size:=by
    cases l with
    |nil=>exact(h0 rfl).elim
    |cons y l=>
     have:=hc 0 _ rfl
     unfold World.cell? at this
     simp only at this
     split at this
     ·rename_i hh;exact(Array.getElem?_eq_some_iff.1 hh).1
     ·cases this
   let C:Nat→Nat:=upd E.C b (o+l.length)
   have mv:=hk.move good (C:=C) fun k hk=>upd_other _ _ (by omega)
   refine⟨C,mv,fun k hk'=>?_,none,.pure (.bs hcap hl fun _=>⟨_,rfl,rfl,?_,hc⟩) .bs⟩
   ·by_cases hkb:k=b
    ·subst hkb;exact hb'
    ·have:C k=E.C k:=upd_other _ _ hkb
     rw[this]at hk'
     exact Nat.lt_of_lt_of_le (good k hk') hk.size
   ·show o+(l.map byteV).length≤C b
    rw[show C b=_ from upd_same _ _ _,List.length_map]
    exact Nat.le_refl _
 rcases h E vs hG good hrel with⟨h1,h2⟩|⟨x,w',h1,h2⟩
 ·refine .inl ⟨h1,Calls.mono h2 ?_⟩
  rintro e w' ⟨x,rfl,hx⟩
  exact⟨x,rfl,fin x w' hx⟩
 ·exact .inr ⟨x,w',h1,fin x w' h2⟩
theorem byts_rel {E:Env}:∀ {l:List MV} {xs:List (List UInt8)} {cs:List Value},byts l=some xs→RelL E (l.flatMap MV.cells) cs→cs.length=xs.length∧l.length=xs.length∧∀(i:Nat) v x,cs[i]? = some v→xs[i]? = some x→RelV E (.bs x) v
 | [],xs,cs,h,hr=>by
  simp only[byts,Option.some.injEq]at h
  subst h
  cases hr
  exact⟨rfl,rfl,fun i v x h=>by simp at h⟩
 | .bs s::r,xs,cs,h,hr=>by
  simp only[byts,Option.map_eq_some_iff]at h
  obtain⟨ys,hy,rfl⟩:=h
  cases hr with
  |cons h1 h2=>
   obtain⟨a,a2,b⟩:=byts_rel hy h2
   refine⟨by simp[a],by simp[a2],fun i v x hv hx=>?_⟩
   cases i with
   |zero=>simp at hv hx;subst hv hx;exact h1
   |succ i=>exact b i v x (by simpa using hv) (by simpa using hx)
 | .nilsl::r,xs,cs,h,hr=>by
  simp only[byts,Option.map_eq_some_iff]at h
  obtain⟨ys,hy,rfl⟩:=h
  cases hr with
  |cons h1 h2=>
   obtain⟨a,a2,b⟩:=byts_rel hy h2
   refine⟨by simp[a],by simp[a2],fun i v x hv hx=>?_⟩
   cases i with
   |zero=>
    simp at hv hx;subst hv hx
    cases h1
    exact .bs (Nat.le_refl _) (by simp) fun hn=>(hn rfl).elim
   |succ i=>exact b i v x (by simpa using hv) (by simpa using hx)
theorem bs_holds {E:Env} {x:List UInt8} {v:Value} (h:RelV E (.bs x) v):Lib.HoldsBytes E.w v x:=by
 cases h with
 |bs hc hl hcs=>
  rename_i a cap
  refine⟨a,cap,rfl,fun ha=>?_,fun ad ha i y hy=>?_⟩
  ·subst ha
   by_cases hx:x=[]
   ·exact hx
   ·obtain⟨ad,e,_⟩:=hcs hx;cases e
  ·subst ha
   have hx:x≠[]:=by rintro rfl;simp at hy
   obtain⟨ad',e,hcell⟩:=hcs hx
   cases e
   obtain⟨b,o,sp⟩:=ad
   have hsp:sp=none:=hcell.spot
   subst hsp
   rw[Mini.add_mk]
   exact hcell.cell i (byteV y) (by rw[List.getElem?_map,hy];rfl)
theorem fresh_ok {w w':World} {v:Value} {l:List UInt8} (h:Lib.FreshBytes w.heap.size w' v l):∃a cap,v= .slice a l.length cap∧l.length≤cap ∧
  (l≠[]→∃b o,a=some ⟨b,o,none⟩∧w.heap.size≤b∧∀(i:Nat) (v:Value),(l.map byteV)[i]? = some v→w'.cell? ⟨b,o+i,none⟩=some v):=by
 obtain⟨g,cap,zs,rfl,hb,hcap,_,hz,hr,hbo,hc,_⟩:=h
 refine⟨_,cap,rfl,hcap,fun _=>⟨g,0,rfl,hb,fun i v hv=>?_⟩⟩
 rw[List.getElem?_map]at hv
 cases hl:l[i]? with
 |none=>rw[hl]at hv;cases hv
 |some x=>
  rw[hl]at hv
  cases hv
  obtain⟨hi,hx⟩:=List.getElem?_eq_some_iff.1 hl
  rw[Nat.zero_add,hc i (by omega)]
  have h1:(Lib.bytesOf (zs.take l.length))[i]? = some x:=by rw[hbo];exact hl
  unfold Lib.bytesOf at h1
  rw[List.getElem?_map,List.getElem?_take,if_pos hi]at h1
  have hzi:i<zs.length:=by omega
  rw[List.getElem?_eq_getElem hzi]at h1
  simp only[Option.map_some,Option.some.injEq]at h1
  have h2:=hr zs[i] (List.getElem_mem hzi)
  have h3:zs.getD i 0=zs[i]:=by rw[List.getD_eq_getElem?_getD,List.getElem?_eq_getElem hzi];rfl
  rw[h3,←h1]
  unfold byteV
  have e:((zs[i].toNat.toUInt8).toNat:Int)=zs[i]:=by simp;omega
  rw[e]
theorem join_flat:∀xs:List (List UInt8),Lib.join xs []=xs.flatten
 | []=>by simp[Lib.join]
 | [x]=>by simp[Lib.join]
 |x::y::r=>by
  have:=join_flat (y::r)
  simp[Lib.join]at this ⊢
  try exact this
theorem lens_flat:∀xs:List (List UInt8),Lib.lens xs=xs.flatten.length
 | []=>by simp[Lib.lens]
 |x::r=>by
  have:=lens_flat r
  simp[Lib.lens]at this ⊢
  try omega
theorem pBJoin_ok {args:List MV} {r:MV} (h:pBJoin args=some r):FunOK Tryz.prog Gd 74 args r:=by
 unfold pBJoin at h
 split at h
 ·rename_i l
  split at h
  ·rename_i xs hxs
   split at h
   ·rename_i hc
    cases h
    refine newBytes (l:=xs.flatten) (by omega) fun E vs hG good hr=>?_
    cases hr with
    |cons h1 h2=>
     cases h2 with
     |cons h2 h3=>
      cases h3
      cases h2
      cases h1 with
      |sl hc1 hl h0 hu hrel hcell=>
       rename_i a cap cs
       obtain⟨b1,b2,b3⟩:=byts_rel hxs hrel
       refine .inl ⟨enters Tryz.func74 kr kr _ _,?_⟩
       match xs,hc,b1,b2,b3 with
       | [],hc,b1,b2,b3=>
        have e0:l.length=0:=b2
        rw[e0]
        refine Calls.mono (Tryz.bytes_Join_none a cap (.slice none 0 0) E.w) ?_
        rintro e w' ⟨rfl,rfl⟩
        exact⟨_,rfl,Kept.alloc _ _,_,_,rfl,Nat.le_refl _,fun hn=>(hn rfl).elim⟩
       | [x],hc,b1,b2,b3=>
        have hne:l≠[]:=by rintro rfl;cases b2
        obtain⟨ad,rfl,hcs⟩:=hcell hne
        obtain⟨bk,o,sp⟩:=ad
        have hsp:sp=none:=hcs.spot
        subst hsp
        have e1:l.length=1:=b2
        rw[e1]
        match cs,b1 with
        | [v],b1=>
         have hv:=b3 0 v x rfl rfl
         have hcv:=hcs.cell 0 v rfl
         obtain⟨p,c0,rfl,hp0,hp1⟩:=bs_holds hv
         by_cases hx:x=[]
         ·subst hx
          refine Calls.mono (Tryz.bytes_Join_one_empty bk o cap p c0 (.slice none 0 0) E.w (by simpa using hcv)) ?_
          rintro e w' ⟨rfl,rfl⟩
          exact⟨_,rfl,Kept.refl _,none,0,rfl,Nat.le_refl _,fun hn=>(hn rfl).elim⟩
         ·obtain⟨ad,rfl⟩:∃ad,p=some ad:=by
           cases p with
           |none=>exact(hx (hp0 rfl)).elim
           |some ad=>exact⟨ad,rfl⟩
          have hlen:x.length≤2^46:=by have:=hc.1;simpa using this
          refine Calls.mono (Tryz.bytes_Join_one bk o cap ad c0 x (.slice none 0 0) E.w (by simpa using hcv) (hp1 ad rfl) (List.length_pos_iff.2 hx) (by omega)) ?_
          rintro e w' ⟨v',rfl,hf,hb⟩
          have:=fresh_ok hf
          rw[show [x].flatten=x by simp]
          exact⟨v',rfl,Kept.below hb,this⟩
       |x::y::r,hc,b1,b2,b3=>
        have hne:l≠[]:=by rintro rfl;cases b2
        obtain⟨ad,rfl,hcs⟩:=hcell hne
        obtain⟨bk,o,sp⟩:=ad
        have hsp:sp=none:=hcs.spot
        subst hsp
        have hsep:Lib.HoldsBytes E.w (.slice none 0 0) []:=⟨none,0,rfl,fun _=>rfl,fun a ha=>by cases ha⟩
        have ctr:=Tryz.bytes_Join_many bk o l.length cap cs (x::y::r) (.slice none 0 0) [] E.w b2.symm (by rw[b2];simp) ⟨b1,fun i v hv=>by rw[Mini.add_mk];exact hcs.cell i v hv,fun i v z hv hz=>bs_holds (b3 i v z hv hz)⟩ hc1 hsep (by have:=hc.2;rw[b2];omega) (by
         have:=hc.1
         rw[lens_flat]
         simp only[List.length_nil,Nat.zero_mul,Nat.add_zero]
         omega)
        refine Calls.mono ctr ?_
        rintro e w' ⟨v',rfl,hf,hb⟩
        rw[join_flat]at hf
        exact⟨v',rfl,Kept.below hb,fresh_ok hf⟩
   ·cases h
  ·cases h
 ·cases h
theorem tab0_get:∀i:Fin 256,(tabZ 0)[i.val]? = some (Lib.firstT i.val:Int):=by decide +kernel
theorem tab1_get:∀i:Fin 32,(tabZ 1)[i.val]? = some (if i.val%2=0 then(Lib.accLo (i.val/2):Int)else(Lib.accHi (i.val/2):Int)):=by decide +kernel
theorem tabs_at:TabsAt Tryz.prog Gd:=by
 intro E hG k g hk hg
 obtain⟨hT,hc0,hc1⟩:=hG
 have hk:k=0∨k=1:=by omega
 rcases hk with rfl|rfl
 ·have h0:Tryz.prog.globalNamed (tabN 0)=some 0:=by kernel_rfl
  rw[h0]at hg
  cases hg
  have hl:((tabZ 0).map (Value.int .u8)).length=256:=by decide +kernel
  refine⟨rfl,by rw[hl];simpa using hc0,fun i v hv=>?_⟩
  have hi:i<256:=by rw[←hl];exact(List.getElem?_eq_some_iff.1 hv).1
  rw[List.getElem?_map,tab0_get ⟨i,hi⟩]at hv
  cases hv
  rw[Nat.zero_add]
  exact hT.utf.1 i hi
 ·have h0:Tryz.prog.globalNamed (tabN 1)=some 1:=by kernel_rfl
  rw[h0]at hg
  cases hg
  have hl:((tabZ 1).map (Value.int .u8)).length=32:=by decide +kernel
  refine⟨rfl,by rw[hl];simpa using hc1,fun i v hv=>?_⟩
  have hi:i<32:=by rw[←hl];exact(List.getElem?_eq_some_iff.1 hv).1
  rw[List.getElem?_map,tab1_get ⟨i,hi⟩]at hv
  cases hv
  rw[Nat.zero_add]
  have h2:=hT.utf.2 (i/2) (by omega)
  by_cases hm:i%2=0
  ·rw[if_pos hm]
   rw[show 2*(i/2)=i by omega]at h2
   exact h2.1
  ·rw[if_neg hm]
   rw[show 2*(i/2)+1=i by omega]at h2
   exact h2.2
theorem hQv:ProgOK Tryz.prog Gd Qv where
 fn f m _ h:=codeV_ok f m h
 fnH f m h:=codeV_ok f m h
 prim f g h:=by cases h
 tab:=tabs_at
theorem hQc:ProgOK Tryz.prog Gd Qc where
 fn f m _ h:=codeX_ok f m h
 fnH f m h:=codeX_ok f m h
 prim f g h args r hr:=by
  unfold Qc at h
  simp only at h
  split at h
  ·rename_i hf
   cases h
   subst hf
   exact pCmpE_ok hr
  ·cases h
 tab:=tabs_at
theorem pCompare_ok {args:List MV} {r:MV} (h:pCompare args=some r):FunOK Tryz.prog Gd 98 args r:=by
 unfold pCompare at h
 split at h
 ·cases h
  exact call_ok hQc (v_cmp _ _)
 ·cases h
theorem v_valid0:Mini.Call Qv 124 [.nilsl]=some (.bool (Lib.validD [])):=by
 rw[←v_valid [],Mini.Call_fn Qv (m:=m124) rfl rfl,Mini.Call_fn Qv (m:=m124) rfl rfl]
 rfl
theorem pBValid_ok {args:List MV} {r:MV} (h:pBValid args=some r):FunOK Tryz.prog Gd 124 args r:=by
 unfold pBValid at h
 split at h
 ·cases h
  exact call_ok hQv v_valid0
 ·split at h
  ·cases h
   exact call_ok hQv (v_valid _)
  ·cases h
 ·cases h
theorem hQ:ProgOK Tryz.prog Gd Q where
 fn f m _ h:=code_ok f m h
 fnH f m h:=code_ok f m h
 tab:=tabs_at
 prim f g h args r hr:=by
  unfold Q prims at h
  simp only at h
  split at h
  ·obtain rfl:=Option.some.inj h;exact pAtoi_ok hr
  ·obtain rfl:=Option.some.inj h;exact pItoa_ok hr
  ·obtain rfl:=Option.some.inj h;exact pJoin_ok hr
  ·obtain rfl:=Option.some.inj h;exact pSplit_ok hr
  ·obtain rfl:=Option.some.inj h;exact pValid_ok hr
  ·obtain rfl:=Option.some.inj h;exact pBJoin_ok hr
  ·obtain rfl:=Option.some.inj h;exact pCompare_ok hr
  ·obtain rfl:=Option.some.inj h;exact pIndexByte_ok hr
  ·obtain rfl:=Option.some.inj h;exact pBValid_ok hr
  ·cases h
end Go.Proofs.YtmhgldplcpklcaaGreatDoor
