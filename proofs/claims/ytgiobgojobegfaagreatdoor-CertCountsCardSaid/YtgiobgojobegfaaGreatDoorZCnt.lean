/- Row of the law CertCounts, and its tied card: whatever the arguments, the call returns true, and the arguments read as they did. Conditions: none but the row's own: the listed tables of the library hold what the program's text lays. -/
import Derived.Test.YtgiobgojobegfaaGreatDoorB29
import Derived.Test.YtgiobgojobegfaaGreatDoorB15
import Derived.Test.YtgiobgojobegfaaGreatDoorTie
import Derived.Test.YtgiobgojobegfaaGreatDoorCards
set_option linter.all false
namespace Go.Proofs.YtgiobgojobegfaaGreatDoor
open Go.Mini.Nm Go.ChangeShapes Go.WideShapes Go.ChangeAt Go.RowKit Go.Mini
def k9:List (Bool × List CTy):=[(false,[.int .i64]),(false,[.int .i64])]
theorem si (ms:List MV) (h:HasArgs k9 ms):Mini.Call Q 7 ms=some (.bool true):=by
 cases h with
 |cons h1 r1=>cases r1 with
  |cons h2 r2=>
   cases r2
   obtain⟨a,_,_,rfl⟩:=yi h1
   obtain⟨b,_,_,rfl⟩:=yi h2
   exact Dr a b
theorem BH:∀t∈Tryz.f7.params.toList,Tryz.prog.readableRec t=true∧t<Tryz.prog.types.size:=by
 rw[Tryz.params7]
 intro t ht
 have hall:([3,3].all fun u=>Tryz.prog.readableRec u&&decide (u<Tryz.prog.types.size))=true:=by kernel_rfl
 have:=List.all_eq_true.1 hall t (by simpa using ht)
 simpa using this
set_option maxRecDepth 100000 in
theorem n8 (os:Os) (started:os.Started) (H:Type) (enc:TypeId × Value→H):
  ReturnsInHanded {} Tryz.checked os 7 .any (fun w args=>(Rows.certCountsSpec.pre enc Tryz.prog Tryz.f7 Rows.certCountsRow.domain false w args∧laidMetH Tryz.prog Rows.certCountsRow.laid w)∧sizedMet enc Tryz.prog Tryz.f7 (OpenSpec.ofChange Rows.certCountsSpec) false w args)
   (Rows.certCountsSpec.post enc Tryz.prog Tryz.f7 false true false false):=by
 refine tU (C:=Tryz.checked) (X:=fun w _=>laidMetH Tryz.prog Rows.certCountsRow.laid w) (fun _ _ _ hh h=>h.of_heap hh) own started (by kernel_rfl) Tryz.func7
  (ChangeSpec.witness_shaped (enc:=enc) (C:=Tryz.checked) (os:=os) (X:=fun w _=>laidMetH Tryz.prog Rows.certCountsRow.laid w) false (World.laidAll Tryz.prog os Rows.certCountsRow.laid) #[.int .i64 0,.int .i64 0] 8 (World.laidAll_os _ _ _)
   (World.shaped_of_ZipB (by kernel_rfl) (by kernel_rfl)) (by kernel_rfl) (by kernel_rfl) (by kernel_rfl)
   (by rw[MakeChecks.laidMetH_plain _ _ _ (by kernel_rfl)];exact laidMet_laidAll _ (by kernel_rfl) (by kernel_rfl))) ?_
 intro W base args ds gs before hval hW _ hwt hL hsh _
 refine u5 (P:=Tryz.prog) (H:=H) (enc:=enc) hQ Fy Tryz.func7 (Fz (by kernel_rfl)) (FA (by kernel_rfl)) (n:=8) (l:=k9) (by kernel_rfl) BH (tb:=4) (by kernel_rfl) Tryz.underlying4 rfl ?_ ?_ (Be (Rows.certCountsRow.laid) rfl hL hsh) hval hW hwt
 ·intro ds hds
  obtain⟨d0,d1,rfl⟩:=HK hds
  rfl
 ·intro ms hms
  exact si ms hms
theorem o8:Rows.CertCountsSaid:=
 OpenClaim.holds_of_wide 7 Tryz.f7 rfl rfl rfl rfl rfl rfl rfl ⟨rfl,rfl,rfl,rfl,rfl⟩ rfl rfl rfl rfl rfl (by kernel_rfl) Tryz.func7 (by kernel_rfl)
  (of_decide_eq_true (by kernel_rfl)) (by unfold Func.isWrapper;first|(rw[if_pos (by decide +kernel)];kernel_rfl)|(rw[if_neg (by decide +kernel)];exact⟨rfl,rfl⟩))
  (fun os started H enc _=>n8 os started H enc)
theorem certCounts_card:Rows.CertCountsCardSaid:=
 Claim7.holds_tied_plain_at .later [] [.data,.data,.data,.data,.sentinel,.sentinel,.pinned] true (true,"288e99660efaca7bdf3a2b3a17c3a7ec6b546f8ee95915e38b203e5db1040c38") true o8 (fun _ h=>by cases h) (by kernel_rfl) (fun _ h=>by cases h) certCounts_row_tie rfl ⟨rfl,rfl⟩ (by kernel_rfl) rfl
  (fun f fn hf hfn=>by
   obtain rfl:f=7:=Option.some.inj ((show Tryz.prog.funcNamed "chancery/chancerylaw11.CertCounts" = some 7 by kernel_rfl).symm.trans hf) |>.symm
   obtain rfl:fn=Tryz.f7:=(Option.some.inj (Tryz.func7.symm.trans hfn)).symm
   exact⟨by kernel_rfl,fun j t ht=>by
    rw[Tryz.params7]at ht
    have hm:t∈ [3,3]:=by simpa using Array.mem_of_getElem? ht
    have hall:([3,3].all fun u=>!Tryz.prog.wantsStandIn u)=true:=by kernel_rfl
    exact(show Tryz.prog.wantsStandIn t=false by simpa using List.all_eq_true.1 hall t hm)⟩)
  (by kernel_rfl)
#print axioms certCounts_card
end Go.Proofs.YtgiobgojobegfaaGreatDoor
