/- Row of the law CertBack, and its tied card: whatever the arguments, the call returns true, and the arguments read as they did. Conditions: none but the row's own: the listed tables of the library hold what the program's text lays. -/
import Derived.Test.YtgiobgojobegfaaGreatDoorA23
import Derived.Test.YtgiobgojobegfaaGreatDoorA14
import Derived.Test.YtgiobgojobegfaaGreatDoorTie
import Derived.Test.YtgiobgojobegfaaGreatDoorCards
set_option linter.all false
namespace Go.Proofs.YtgiobgojobegfaaGreatDoor
open Go.Mini.Nm Go.ChangeShapes Go.WideShapes Go.ChangeAt Go.RowKit Go.Mini
def certBackArgs:List (Bool × List CTy):=[(true,[.int .i64,.int .i64,.sl true [.str,.str],.sl true [.str,.str],.int .i64,.int .i64,.int .i64,.bytes,.bool,.int .i64,.int .i64,.sl true [.int .i64,.str,.sl true [.str,.str]],.sl true [.int .i64,.str,.sl true [.str,.str]],.sl true [.int .i64,.str,.sl true [.str,.str]],.bytes])]
theorem str_arg' {m:MV} (h:HasC .str m):∃s,s.length≤reachBytes∧m= .str s:=by
 cases h with
 |str h=>exact⟨_,h,rfl⟩
theorem attrs_of:∀ {l:List MV},(∀e∈l,HasE true [.str,.str] e)→∃d:Dn,l=attrs d∧∀a∈d,a.1.length≤reachBytes∧a.2.length≤reachBytes
 | [],_=>⟨[],rfl,by simp⟩
 |e::l,h=>by
  obtain⟨d,rfl,hd⟩:=attrs_of (l:=l) fun e he=>h e (List.mem_cons_of_mem _ he)
  have he:=h e (List.mem_cons_self ..)
  cases he with
  |agg hl=>cases hl with
   |cons h1 r1=>cases r1 with
    |cons h2 r2=>
     cases r2
     obtain⟨s,hs,rfl⟩:=str_arg' h1
     obtain⟨x,hx,rfl⟩:=str_arg' h2
     refine⟨(s,x)::d,rfl,fun a ha=>?_⟩
     rcases List.mem_cons.1 ha with rfl|ha
     ·exact⟨hs,hx⟩
     ·exact hd a ha
theorem reach_le:reachBytes≤2^50:=by decide
theorem dn_arg {m:MV} (h:HasC (.sl true [.str,.str]) m):∃d,isDir m d∧okD d:=by
 have hb:=reach_le
 cases h with
 |snil=>exact⟨[],.inr ⟨rfl,rfl⟩,by simp,by simp⟩
 |sl hn hl=>
  obtain⟨d,rfl,hd⟩:=attrs_of hl
  rw[attrs_length]at hn
  exact⟨d,.inl rfl,by omega,fun a ha=>by have:=hd a ha;omega⟩
theorem gens_of:∀ {l:List MV},(∀e∈l,HasE true [.int .i64,.str,.sl true [.str,.str]] e)→∃gs:List Gn,Gl l gs∧∀g∈gs,g.2.1.length≤2^50∧okD g.2.2
 | [],_=>⟨[],.nil,by simp⟩
 |e::l,h=>by
  obtain⟨gs,hg,hd⟩:=gens_of (l:=l) fun e he=>h e (List.mem_cons_of_mem _ he)
  have he:=h e (List.mem_cons_self ..)
  have hb:=reach_le
  cases he with
  |agg hl=>cases hl with
   |cons h1 r1=>cases r1 with
    |cons h2 r2=>cases r2 with
     |cons h3 r3=>
      cases r3
      cases h1 with
      | @int k n _ _=>
       obtain⟨s,hs,rfl⟩:=str_arg' h2
       obtain⟨d,hdv,hok⟩:=dn_arg h3
       refine⟨(n,s,d)::gs,.cons hdv hg,fun g hg=>?_⟩
       rcases List.mem_cons.1 hg with rfl|hg
       ·exact⟨by simp only;omega,hok⟩
       ·exact hd g hg
theorem gens_arg {m:MV} (h:HasC (.sl true [.int .i64,.str,.sl true [.str,.str]]) m):∃gs,Gs m gs∧okGs gs:=by
 have hb:=reach_le
 cases h with
 |snil=>exact⟨[],.inr ⟨rfl,rfl⟩,by simp,by simp⟩
 |sl hn hl=>
  obtain⟨gs,hg,hd⟩:=gens_of hl
  have:=hg.length
  exact⟨gs,.inl ⟨_,rfl,hg⟩,by omega,hd⟩
theorem bytes_arg' {m:MV} (h:HasC .bytes m):∃l,Rb m l∧l.length≤2^50:=by
 have hb:=reach_le
 cases h with
 |bnil=>exact⟨[],.nil,by simp⟩
 |bytes h=>exact⟨_,.bs _,by omega⟩
theorem int_arg' {m:MV} (h:HasC (.int .i64) m):∃n,n<9223372036854775808∧m= .int .i64 n:=by
 cases h with
 |int a b=>
  have e2:IntKind.i64.max=9223372036854775807:=by decide
  exact⟨_,by omega,rfl⟩
theorem bool_arg' {m:MV} (h:HasC .bool m):∃b,m= .bool b:=by
 cases h with
 |bool=>exact⟨_,rfl⟩
theorem cert_arg {m:MV} (h:HasE true [.int .i64,.int .i64,.sl true [.str,.str],.sl true [.str,.str],.int .i64,.int .i64,.int .i64,.bytes,.bool,.int .i64,.int .i64,.sl true [.int .i64,.str,.sl true [.str,.str]],.sl true [.int .i64,.str,.sl true [.str,.str]],.sl true [.int .i64,.str,.sl true [.str,.str]],.bytes] m):∃c iss sub key alt per exc sig,m=crtV c iss sub key alt per exc sig∧CrtR c iss sub key alt per exc sig∧CrtS c:=by
 cases h with
 |agg hl=>cases hl with
  |cons h0 r0=>cases r0 with
   |cons h1 r1=>cases r1 with
    |cons h2 r2=>cases r2 with
     |cons h3 r3=>cases r3 with
      |cons h4 r4=>cases r4 with
       |cons h5 r5=>cases r5 with
        |cons h6 r6=>cases r6 with
         |cons h7 r7=>cases r7 with
          |cons h8 r8=>cases r8 with
           |cons h9 r9=>cases r9 with
            |cons h10 r10=>cases r10 with
             |cons h11 r11=>cases r11 with
              |cons h12 r12=>cases r12 with
               |cons h13 r13=>cases r13 with
                |cons h14 r14=>
                 cases r14
                 obtain⟨n0,b0,rfl⟩:=int_arg' h0
                 obtain⟨n1,b1,rfl⟩:=int_arg' h1
                 obtain⟨d2,q2,o2⟩:=dn_arg h2
                 obtain⟨d3,q3,o3⟩:=dn_arg h3
                 obtain⟨n4,b4,rfl⟩:=int_arg' h4
                 obtain⟨n5,b5,rfl⟩:=int_arg' h5
                 obtain⟨n6,b6,rfl⟩:=int_arg' h6
                 obtain⟨l7,q7,o7⟩:=bytes_arg' h7
                 obtain⟨b8,rfl⟩:=bool_arg' h8
                 obtain⟨n9,b9,rfl⟩:=int_arg' h9
                 obtain⟨n10,b10,rfl⟩:=int_arg' h10
                 obtain⟨g11,q11,o11⟩:=gens_arg h11
                 obtain⟨g12,q12,o12⟩:=gens_arg h12
                 obtain⟨g13,q13,o13⟩:=gens_arg h13
                 obtain⟨l14,q14,o14⟩:=bytes_arg' h14
                 exact⟨⟨n0,n1,d2,d3,n4,n5,n6,l7,b8,n9,n10,g11,g12,g13,l14⟩,_,_,_,_,_,_,_,rfl,⟨q2,q3,q7,q11,q12,q13,q14⟩,⟨o2,o3,o11,o12,o13,o7,o14,b0,b9⟩⟩
theorem list_1 {X:Type} {l:List X} (h:l.length=1):∃a,l=[a]:=by
 match l,h with
 | [a],_=>exact⟨a,rfl⟩
theorem certBack_law (ms:List MV) (h:HasArgs certBackArgs ms):Mini.Call Q 6 ms=some (.bool true):=by
 cases h with
 |cons h1 r1=>
  cases r1
  obtain⟨c,iss,sub,key,alt,per,exc,sig,rfl,hr,hs⟩:=cert_arg h1
  exact c_CertBack c iss sub key alt per exc sig hr hs
theorem readable6:∀t∈Tryz.f6.params.toList,Tryz.prog.readableRec t=true∧t<Tryz.prog.types.size:=by
 rw[Tryz.params6]
 intro t ht
 have hall:([27].all fun u=>Tryz.prog.readableRec u&&decide (u<Tryz.prog.types.size))=true:=by kernel_rfl
 have:=List.all_eq_true.1 hall t (by simpa using ht)
 simpa using this
set_option maxRecDepth 100000 in
theorem certBack_lifted (os:Os) (started:os.Started) (H:Type) (enc:TypeId × Value→H):
  ReturnsInHanded {} Tryz.checked os 6 .any (fun w args=>(Rows.certBackSpec.pre enc Tryz.prog Tryz.f6 Rows.certBackRow.domain false w args∧laidMetH Tryz.prog Rows.certBackRow.laid w)∧sizedMet enc Tryz.prog Tryz.f6 (OpenSpec.ofChange Rows.certBackSpec) false w args)
   (Rows.certBackSpec.post enc Tryz.prog Tryz.f6 false true false false):=by
 refine handed_shaped (C:=Tryz.checked) (X:=fun w _=>laidMetH Tryz.prog Rows.certBackRow.laid w) (fun _ _ _ hh h=>h.of_heap hh) own started (by kernel_rfl) Tryz.func6
  (ChangeSpec.witness_shaped (enc:=enc) (C:=Tryz.checked) (os:=os) (X:=fun w _=>laidMetH Tryz.prog Rows.certBackRow.laid w) false (World.laidAll Tryz.prog os Rows.certBackRow.laid) #[.agg #[.int .i64 0,.int .i64 0,.slice none 0 0,.slice none 0 0,.int .i64 0,.int .i64 0,.int .i64 0,.slice none 0 0,.bool false,.int .i64 0,.int .i64 0,.slice none 0 0,.slice none 0 0,.slice none 0 0,.slice none 0 0]] 8 (World.laidAll_os _ _ _)
   (World.shaped_of_ZipB (by kernel_rfl) (by kernel_rfl)) (by kernel_rfl) (by kernel_rfl) (by kernel_rfl)
   (by rw[MakeChecks.laidMetH_plain _ _ _ (by kernel_rfl)];exact laidMet_laidAll _ (by kernel_rfl) (by kernel_rfl))) ?_
 intro W base args ds gs before hval hW _ hwt hL hsh _
 refine law_contract (P:=Tryz.prog) (H:=H) (enc:=enc) hQ laidOut Tryz.func6 (some_ne (by kernel_rfl)) (name_ne (by kernel_rfl)) (n:=8) (l:=certBackArgs) (by kernel_rfl) readable6 (tb:=4) (by kernel_rfl) Tryz.underlying4 rfl ?_ ?_ (ground_of (Rows.certBackRow.laid) rfl hL hsh) hval hW hwt
 ·intro ds hds
  obtain⟨d0,rfl⟩:=list_1 hds
  rfl
 ·intro ms hms
  exact certBack_law ms hms
theorem certBack_holds:Rows.CertBackSaid:=
 OpenClaim.holds_of_wide 6 Tryz.f6 rfl rfl rfl rfl rfl rfl rfl ⟨rfl,rfl,rfl,rfl,rfl⟩ rfl rfl rfl rfl rfl (by kernel_rfl) Tryz.func6 (by kernel_rfl)
  (of_decide_eq_true (by kernel_rfl)) (by unfold Func.isWrapper;first|(rw[if_pos (by decide +kernel)];kernel_rfl)|(rw[if_neg (by decide +kernel)];exact⟨rfl,rfl⟩))
  (fun os started H enc _=>certBack_lifted os started H enc)
theorem certBack_card:Rows.CertBackCardSaid:=
 Claim7.holds_tied_plain_at .later [] [.data,.data,.data,.data,.sentinel,.sentinel,.pinned] true (true,"288e99660efaca7bdf3a2b3a17c3a7ec6b546f8ee95915e38b203e5db1040c38") true certBack_holds (fun _ h=>by cases h) (by kernel_rfl) (fun _ h=>by cases h) certBack_row_tie rfl ⟨rfl,rfl⟩ (by kernel_rfl) rfl
  (fun f fn hf hfn=>by
   obtain rfl:f=6:=Option.some.inj ((show Tryz.prog.funcNamed "chancery/chancerylaw11.CertBack" = some 6 by kernel_rfl).symm.trans hf) |>.symm
   obtain rfl:fn=Tryz.f6:=(Option.some.inj (Tryz.func6.symm.trans hfn)).symm
   exact⟨by kernel_rfl,fun j t ht=>by
    rw[Tryz.params6]at ht
    have hm:t∈ [27]:=by simpa using Array.mem_of_getElem? ht
    have hall:([27].all fun u=>!Tryz.prog.wantsStandIn u)=true:=by kernel_rfl
    exact(show Tryz.prog.wantsStandIn t=false by simpa using List.all_eq_true.1 hall t hm)⟩)
  (by kernel_rfl)
#print axioms certBack_card
end Go.Proofs.YtgiobgojobegfaaGreatDoor
