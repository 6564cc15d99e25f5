/- Row of the law NameParses, and its tied card: whatever the arguments, the call returns true, and the arguments read as they did. Conditions: none but the row's own: the listed tables of the library hold what the program's text lays. -/
import Derived.Test.YtmhgldplcpklcaaGreatDoorA18
import Derived.Test.YtmhgldplcpklcaaGreatDoorA22
import Derived.Test.YtmhgldplcpklcaaGreatDoorTie
import Derived.Test.YtmhgldplcpklcaaGreatDoorCards
set_option linter.all false
namespace Go.Proofs.YtmhgldplcpklcaaGreatDoor
open Go.Mini.Nm Go.ChangeShapes Go.WideShapes Go.ChangeAt Go.RowKit Go.Mini
def nameParsesArgs:List (Bool × List CTy):=[(true,[.int .i64,.int .i64,.bool,.bytes,.tree]),(false,[.sl true [.str,.str]])]
theorem str_arg' {m:MV} (h:HasC .str m):∃s,s.length≤reachBytes∧m= .str s:=by
 cases h with
 |str h=>exact⟨_,h,rfl⟩
theorem attrs_of:∀ {l:List MV},(∀e∈l,HasE true [.str,.str] e)→∃d:Dn,l=attrs d∧∀a∈d,a.1.length≤reachBytes∧a.2.length≤reachBytes
 | [],_=>⟨[],rfl,by simp⟩
 |e::l,h=>by
  obtain⟨d,rfl,hd⟩:=attrs_of (l:=l) fun e he=>h e (List.mem_cons_of_mem _ he)
  have he:=h e (List.mem_cons_self ..)
  cases he with
  |agg hl=>cases hl with
   |cons h1 r1=>cases r1 with
    |cons h2 r2=>
     cases r2
     obtain⟨s,hs,rfl⟩:=str_arg' h1
     obtain⟨x,hx,rfl⟩:=str_arg' h2
     refine⟨(s,x)::d,rfl,fun a ha=>?_⟩
     rcases List.mem_cons.1 ha with rfl|ha
     ·exact⟨hs,hx⟩
     ·exact hd a ha
theorem reach_lt:reachBytes<2^48:=by decide
theorem dn_arg {m:MV} (h:HasE false [.sl true [.str,.str]] m):∃d,isDir m d∧okBig d:=by
 have hb:=reach_lt
 cases h with
 |one h=>
  cases h with
  |snil=>exact⟨[],.inr ⟨rfl,rfl⟩,by simp,by simp⟩
  |sl hn hl=>
   obtain⟨d,rfl,hd⟩:=attrs_of hl
   rw[attrs_length]at hn
   exact⟨d,.inl rfl,by omega,fun a ha=>by have:=hd a ha;omega⟩
theorem int_arg' {m:MV} (h:HasC (.int .i64) m):∃n,-9223372036854775808≤n∧n≤9223372036854775807∧m= .int .i64 n:=by
 cases h with
 |int a b=>
  have e1:IntKind.i64.min= -9223372036854775808:=by decide
  have e2:IntKind.i64.max=9223372036854775807:=by decide
  exact⟨_,by omega,by omega,rfl⟩
theorem bool_arg' {m:MV} (h:HasC .bool m):∃b,m= .bool b:=by
 cases h with
 |bool=>exact⟨_,rfl⟩
theorem bytes_arg' {m:MV} (h:HasC .bytes m):∃l,Rb m l∧l.length≤2^50:=by
 have hb:=reach_lt
 cases h with
 |bnil=>exact⟨[],.nil,by simp⟩
 |bytes h=>exact⟨_,.bs _,by omega⟩
theorem kids_of:∀ {l:List MV},(∀e∈l,∃t,Rv e t∧okT t)→∃ks,Rl l ks∧okTs ks
 | [],_=>⟨[],.nil,trivial⟩
 |e::l,h=>by
  obtain⟨ks,h1,h2⟩:=kids_of (l:=l) fun e he=>h e (List.mem_cons_of_mem _ he)
  obtain⟨t,h3,h4⟩:=h e (List.mem_cons_self ..)
  exact⟨t::ks,.cons h3 h1,h4,h2⟩
def kidsP (v:MV):Prop:=∃ks,Ws false v ks∧okTs ks∧ks.length≤2^50
mutual
theorem treeC_of:∀ {c:CTy} {v:MV},HasC c v→c= .tree→kidsP v
 |_,_,.int _ _,e=>by cases e
 |_,_,.bool,e=>by cases e
 |_,_,.str _,e=>by cases e
 |_,_,.bnil,e=>by cases e
 |_,_,.bytes _,e=>by cases e
 |_,_,.snil,e=>by cases e
 |_,_,.sl _ _,e=>by cases e
 |_,_,.tnil,_=>⟨[],.nil,trivial,by simp⟩
 |_,_,.tree h hl,_=>by
  have hb:=reach_lt
  obtain⟨ks,h1,h2⟩:=kids_of fun e he=>treeE_of (hl e he) rfl rfl
  have:=h1.length
  exact⟨ks,.sl h1,h2,by omega⟩
theorem treeE_of:∀ {g:Bool} {es:List CTy} {e:MV},HasE g es e→g=true→es=[.int .i64,.int .i64,.bool,.bytes,.tree]→∃t,Rv e t∧okT t
 |_,_,_,.one _,e,_=>by cases e
 |_,_,_,.agg h,_,e=>by
  obtain⟨k,h5,hk⟩:=treeL_of h (by rw[e];rfl)
  subst e
  cases h with
  |cons h1 r1=>cases r1 with
   |cons h2 r2=>cases r2 with
    |cons h3 r3=>cases r3 with
     |cons h4 r4=>cases r4 with
      |cons h5' r5=>
       cases r5
       cases h5
       obtain⟨c,c0,c1,rfl⟩:=int_arg' h1
       obtain⟨t,t0,t1,rfl⟩:=int_arg' h2
       obtain⟨m,rfl⟩:=bool_arg' h3
       obtain⟨b,hb,hbl⟩:=bytes_arg' h4
       obtain⟨ks,k1,k2,k3⟩:=hk
       exact⟨.mk c t m b ks,.mk hb k1,c0,c1,t0,t1,hbl,k3,k2⟩
theorem treeL_of:∀ {cs:List CTy} {vs:List MV},HasL cs vs→cs.getLast?=some .tree→∃k,vs.getLast?=some k∧kidsP k
 |_,_,.nil,e=>by cases e
 |_,_,.cons h .nil,e=>⟨_,rfl,treeC_of h (by simpa using e)⟩
 |_,_,.cons _ (.cons h r),e=>by
  obtain⟨k,h1,h2⟩:=treeL_of (.cons h r) (by simpa using e)
  exact⟨k,by simpa using h1,h2⟩
end
theorem nameParses_law (ms:List MV) (h:HasArgs nameParsesArgs ms):Mini.Call Q 3 ms=some (.bool true):=by
 cases h with
 |cons h1 r1=>cases r1 with
  |cons h2 r2=>
   cases r2
   obtain⟨t,hv,hok⟩:=treeE_of h1 rfl rfl
   obtain⟨d,hd,hb⟩:=dn_arg h2
   rcases hd with rfl|⟨rfl,rfl⟩
   ·exact c_NameParses t _ hv hok d hb
   ·have:=c_NameParses t _ hv hok [] hb
    rw[←this]
    cases hv
    exact call_entry 3 m3 rfl rfl rfl
theorem readable3:∀t∈Tryz.f3.params.toList,Tryz.prog.readableRec t=true∧t<Tryz.prog.types.size:=by
 rw[Tryz.params3]
 intro t ht
 have hall:([25,27].all fun u=>Tryz.prog.readableRec u&&decide (u<Tryz.prog.types.size))=true:=by kernel_rfl
 have:=List.all_eq_true.1 hall t (by simpa using ht)
 simpa using this
set_option maxRecDepth 100000 in
theorem nameParses_lifted (os:Os) (started:os.Started) (H:Type) (enc:TypeId × Value→H):
  ReturnsInHanded {} Tryz.checked os 3 .any (fun w args=>(Rows.nameParsesSpec.pre enc Tryz.prog Tryz.f3 Rows.nameParsesRow.domain false w args∧laidMetH Tryz.prog Rows.nameParsesRow.laid w)∧sizedMet enc Tryz.prog Tryz.f3 (OpenSpec.ofChange Rows.nameParsesSpec) false w args)
   (Rows.nameParsesSpec.post enc Tryz.prog Tryz.f3 false true false false):=by
 refine handed_shaped (C:=Tryz.checked) (X:=fun w _=>laidMetH Tryz.prog Rows.nameParsesRow.laid w) (fun _ _ _ hh h=>h.of_heap hh) own started (by kernel_rfl) Tryz.func3
  (ChangeSpec.witness_shaped (enc:=enc) (C:=Tryz.checked) (os:=os) (X:=fun w _=>laidMetH Tryz.prog Rows.nameParsesRow.laid w) false (World.laidAll Tryz.prog os Rows.nameParsesRow.laid) #[.agg #[.int .i64 0,.int .i64 0,.bool false,.slice none 0 0,.slice none 0 0],.slice none 0 0] 8 (World.laidAll_os _ _ _)
   (World.shaped_of_ZipB (by kernel_rfl) (by kernel_rfl)) (by kernel_rfl) (by kernel_rfl) (by kernel_rfl)
   (by rw[MakeChecks.laidMetH_plain _ _ _ (by kernel_rfl)];exact laidMet_laidAll _ (by kernel_rfl) (by kernel_rfl))) ?_
 intro W base args ds gs before hval hW _ hwt hL hsh _
 refine law_contract (P:=Tryz.prog) (H:=H) (enc:=enc) hQ laidOut Tryz.func3 (some_ne (by kernel_rfl)) (name_ne (by kernel_rfl)) (n:=8) (l:=nameParsesArgs) (by kernel_rfl) readable3 (tb:=4) (by kernel_rfl) Tryz.underlying4 rfl ?_ ?_ (ground_of (Rows.nameParsesRow.laid) rfl hL hsh) hval hW hwt
 ·intro ds hds
  obtain⟨d0,d1,rfl⟩:=list_2 hds
  rfl
 ·intro ms hms
  exact nameParses_law ms hms
theorem nameParses_holds:Rows.NameParsesSaid:=
 OpenClaim.holds_of_wide 3 Tryz.f3 rfl rfl rfl rfl rfl rfl rfl ⟨rfl,rfl,rfl,rfl,rfl⟩ rfl rfl rfl rfl rfl (by kernel_rfl) Tryz.func3 (by kernel_rfl)
  (of_decide_eq_true (by kernel_rfl)) (by unfold Func.isWrapper;first|(rw[if_pos (by decide +kernel)];kernel_rfl)|(rw[if_neg (by decide +kernel)];exact⟨rfl,rfl⟩))
  (fun os started H enc _=>nameParses_lifted os started H enc)
theorem nameParses_card:Rows.NameParsesCardSaid:=
 Claim7.holds_tied_plain_at .later [] [.data,.data,.data,.data,.sentinel,.sentinel,.pinned] true (true,"935aac94c9497b5e1148b980b8f83620f93bb815e8373f8fc4600de1f544d15a") true nameParses_holds (fun _ h=>by cases h) (by kernel_rfl) (fun _ h=>by cases h) nameParses_row_tie rfl ⟨rfl,rfl⟩ (by kernel_rfl) rfl
  (fun f fn hf hfn=>by
   obtain rfl:f=3:=Option.some.inj ((show Tryz.prog.funcNamed "chancery/chancerylaw10.NameParses" = some 3 by kernel_rfl).symm.trans hf) |>.symm
   obtain rfl:fn=Tryz.f3:=(Option.some.inj (Tryz.func3.symm.trans hfn)).symm
   exact⟨by kernel_rfl,fun j t ht=>by
    rw[Tryz.params3]at ht
    have hm:t∈ [25,27]:=by simpa using Array.mem_of_getElem? ht
    have hall:([25,27].all fun u=>!Tryz.prog.wantsStandIn u)=true:=by kernel_rfl
    exact(show Tryz.prog.wantsStandIn t=false by simpa using List.all_eq_true.1 hall t hm)⟩)
  (by kernel_rfl)
#print axioms nameParses_card
end Go.Proofs.YtmhgldplcpklcaaGreatDoor
