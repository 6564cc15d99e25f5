/- Row of the law PathBounds, and its tied card: whatever the arguments, the call returns true, and the arguments read as they did. Conditions: none but the row's own: the listed tables of the library hold what the program's text lays. -/
import Derived.Test.YtaehaajckndejaaGreatDoorB08
import Derived.Test.YtaehaajckndejaaGreatDoorB09
import Derived.Test.YtaehaajckndejaaGreatDoorTie
import Derived.Test.YtaehaajckndejaaGreatDoorCards
set_option linter.all false
namespace Go.Proofs.YtaehaajckndejaaGreatDoor
open Go.ChangeShapes Go.WideShapes Go.ChangeAt Go.RowKit Go.Mini
def pathBoundsArgs : List (Bool × List CTy) := [(false,[.int .i64]),(false,[.int .i64])]
theorem pathBounds_law (ms : List MV) (h : HasArgs pathBoundsArgs ms) : Mini.Call Q 3 ms = some (.bool true) := by
 cases h with
 | cons h1 r1=>cases r1 with
  | cons h2 r2 =>
   cases r2
   obtain ⟨a,_,_,rfl⟩ := int_arg h1
   obtain ⟨b,_,_,rfl⟩ := int_arg h2
   exact c3 a b
theorem readable3 : ∀ t ∈ Tryz.f3.params.toList,Tryz.prog.readableRec t = true ∧ t < Tryz.prog.types.size := by
 rw [Tryz.params3]
 intro t ht
 have hall : ([3,3].all fun u=>Tryz.prog.readableRec u && decide (u < Tryz.prog.types.size)) = true := by kernel_rfl
 have := List.all_eq_true.1 hall t (by simpa using ht)
 simpa using this
set_option maxRecDepth 100000 in
theorem pathBounds_lifted (os : Os) (started : os.Started) (H : Type) (enc : TypeId × Value→H) :
  ReturnsInHanded {} Tryz.checked os 3 .any (fun w args=>(Rows.pathBoundsSpec.pre enc Tryz.prog Tryz.f3 Rows.pathBoundsRow.domain false w args ∧ laidMetH Tryz.prog Rows.pathBoundsRow.laid w) ∧ sizedMet enc Tryz.prog Tryz.f3 (OpenSpec.ofChange Rows.pathBoundsSpec) false w args)
   (Rows.pathBoundsSpec.post enc Tryz.prog Tryz.f3 false true false false) := by
 refine handed_shaped (C := Tryz.checked) (X := fun w _=>laidMetH Tryz.prog Rows.pathBoundsRow.laid w) (fun _ _ _ hh h=>h.of_heap hh) own started (by kernel_rfl) Tryz.func3
  (ChangeSpec.witness_shaped (enc := enc) (C := Tryz.checked) (os := os) (X := fun w _=>laidMetH Tryz.prog Rows.pathBoundsRow.laid w) false (World.laidAll Tryz.prog os Rows.pathBoundsRow.laid) #[.int .i64 0,.int .i64 0] 8 (World.laidAll_os _ _ _)
   (World.shaped_of_ZipB (by kernel_rfl) (by kernel_rfl)) (by kernel_rfl) (by kernel_rfl) (by kernel_rfl)
   (by rw [MakeChecks.laidMetH_plain _ _ _ (by kernel_rfl)]; exact laidMet_laidAll _ (by kernel_rfl) (by kernel_rfl))) ?_
 intro W base args ds gs before hval hW _ hwt hL hsh _
 refine law_contract (P := Tryz.prog) (H := H) (enc := enc) hQ laidOut Tryz.func3 (some_ne (by kernel_rfl)) (name_ne (by kernel_rfl)) (n := 8) (l := pathBoundsArgs) (by kernel_rfl) readable3 (tb := 4) (by kernel_rfl) Tryz.underlying4 rfl ?_ ?_ (ground_of (Rows.pathBoundsRow.laid) rfl hL hsh) hval hW hwt
 ·intro ds hds
  obtain ⟨d0,d1,rfl⟩ := list_2 hds
  rfl
 ·intro ms hms
  exact pathBounds_law ms hms
set_option maxRecDepth 100000
theorem pathBounds_k0 : (Rows.pathBoundsRow.wf (OpenSpec.ofChange Rows.pathBoundsSpec)) = true := by kernel_rfl
theorem pathBounds_k1 : (laidOutB Tryz.prog) = true := by kernel_rfl
theorem pathBounds_k2 : (mapsRowed Tryz.prog) = true := by kernel_rfl
theorem pathBounds_k3 : (Tryz.f3.params.all (Tryz.prog.readableRec ·)) = true := by kernel_rfl
theorem pathBounds_k4 : (namedTie Tryz.prog Rows.pathBoundsRow.named Rows.pathBoundsSpec.vars) = true := by kernel_rfl
theorem pathBounds_k5 : ((Rows.pathBoundsRow.stops == [])) = true := by kernel_rfl
theorem pathBounds_k6 : ((Tryz.prog.stops == [])) = true := by kernel_rfl
theorem pathBounds_k7 : ((Rows.pathBoundsRow.knobs == [])) = true := by kernel_rfl
theorem pathBounds_k8 : ((Tryz.prog.stopKnobs == [])) = true := by kernel_rfl
theorem pathBounds_k9 : ((Rows.pathBoundsRow.inPlace == Tryz.prog.inPlace 3)) = true := by kernel_rfl
theorem pathBounds_k10 : ((Rows.pathBoundsRow.unfollowed == Tryz.prog.unfollowed 3)) = true := by kernel_rfl
theorem pathBounds_k11 : ((Rows.pathBoundsRow.recurses == Tryz.prog.recurses 3)) = true := by kernel_rfl
theorem pathBounds_k12 : ((Rows.pathBoundsRow.named == Tryz.prog.varsNamed 3)) = true := by kernel_rfl
theorem pathBounds_k13 : ((Rows.pathBoundsRow.maps == (Tryz.f3.params.toList ++ Rows.pathBoundsSpec.plain.varTypes Tryz.prog).any (Tryz.prog.mapsRec ·))) = true := by kernel_rfl
theorem pathBounds_k14 : ((Rows.pathBoundsRow.ifaces == (Tryz.f3.params.toList ++ Rows.pathBoundsSpec.plain.varTypes Tryz.prog).any (Tryz.prog.ifacesRec ·))) = true := by kernel_rfl
theorem pathBounds_k15 : ((Rows.pathBoundsRow.mapsOut == Tryz.prog.mapsAmong Tryz.f3.resultTypes.toList)) = true := by kernel_rfl
theorem pathBounds_k16 : ((Rows.pathBoundsRow.loops == (Tryz.f3.params.toList ++ Rows.pathBoundsSpec.plain.varTypes Tryz.prog).any (Tryz.prog.loopsFrom ·))) = true := by kernel_rfl
theorem pathBounds_k17 : ((Rows.pathBoundsRow.wideKeys == (Tryz.f3.params.toList ++ Rows.pathBoundsSpec.plain.varTypes Tryz.prog ++ Tryz.f3.resultTypes.toList).any (Tryz.prog.wideKeysFrom ·))) = true := by kernel_rfl
theorem pathBounds_k18 : (Rows.pathBoundsSpec.vars.all (Tryz.prog.varReadable ·)) = true := by kernel_rfl
theorem pathBounds_k19 : (Tryz.f3.resultTypes.all (fun t=>Tryz.prog.readableRec t && decide (t < Tryz.prog.types.size))) = true := by kernel_rfl
theorem pathBounds_k20 : ((Rows.pathBoundsRow.ifacesOut == Tryz.f3.resultTypes.toList.any (Tryz.prog.ifacesRec ·))) = true := by kernel_rfl
theorem pathBounds_k21 : ((Rows.pathBoundsRow.loopsOut == Tryz.f3.resultTypes.toList.any (Tryz.prog.loopsFrom ·))) = true := by kernel_rfl
theorem pathBounds_k22 : ((Rows.pathBoundsRow.plainKeys == Tryz.prog.plainKeys)) = true := by kernel_rfl
theorem pathBounds_k23 : (Rows.pathBoundsRow.shortTexts.isNone) = true := by kernel_rfl
theorem pathBounds_k24 : (Tryz.prog.stopsHeard) = true := by kernel_rfl
theorem pathBounds_k25 : (Tryz.prog.mayEnter) = true := by kernel_rfl
theorem pathBounds_k26 : ((Rows.pathBoundsRow.lifted == Tryz.prog.liftsFinal)) = true := by kernel_rfl
theorem pathBounds_k27 : ((Tryz.prog.make == some Rows.pathBoundsRow.make)) = true := by kernel_rfl
theorem pathBounds_k28 : ((Rows.pathBoundsRow.kinds == (if Rows.pathBoundsRow.domain.isEmpty then [] else Tryz.f3.params.toList.map fun t=>match Tryz.prog.underlying t with | some (.int k)=>some k | _=>none))) = true := by kernel_rfl
theorem pathBounds_k29 : ((Rows.pathBoundsRow.pinned == Rows.pathBoundsRow.pinnedBy)) = true := by kernel_rfl
theorem pathBounds_k30 : ((Rows.pathBoundsRow.veiled == (Tryz.f3.params.toList ++ Rows.pathBoundsSpec.plain.varTypes Tryz.prog ++ Tryz.f3.resultTypes.toList).any (Tryz.prog.veiledRec ·))) = true := by kernel_rfl
theorem pathBounds_k31 : (Rows.pathBoundsRow.veiledFits Tryz.prog Tryz.f3.params.toList (Tryz.f3.params.toList ++ Rows.pathBoundsSpec.plain.varTypes Tryz.prog ++ Tryz.f3.resultTypes.toList)) = true := by kernel_rfl
theorem and_t {a b : Bool} (h : a = true) (k : b = true) : (a && b) = true := by rw [h,k]; rfl
theorem pathBounds_closed : joinedFacts Tryz.prog 3 Tryz.f3 Rows.pathBoundsSpec Rows.pathBoundsRow = true := (and_t (and_t (and_t (and_t (and_t (and_t (and_t (and_t (and_t (and_t (and_t (and_t (and_t (and_t (and_t (and_t (and_t (and_t (and_t (and_t (and_t (and_t (and_t (and_t (and_t (and_t (and_t (and_t (and_t (and_t (and_t pathBounds_k0 pathBounds_k1) pathBounds_k2) pathBounds_k3) pathBounds_k4) pathBounds_k5) pathBounds_k6) pathBounds_k7) pathBounds_k8) pathBounds_k9) pathBounds_k10) pathBounds_k11) pathBounds_k12) pathBounds_k13) pathBounds_k14) pathBounds_k15) pathBounds_k16) pathBounds_k17) pathBounds_k18) pathBounds_k19) pathBounds_k20) pathBounds_k21) pathBounds_k22) pathBounds_k23) pathBounds_k24) pathBounds_k25) pathBounds_k26) pathBounds_k27) pathBounds_k28) pathBounds_k29) pathBounds_k30) pathBounds_k31)
theorem pathBounds_holds : Rows.PathBoundsSaid :=
 OpenClaim.holds_of_wide 3 Tryz.f3 rfl rfl rfl rfl rfl rfl rfl ⟨rfl,rfl,rfl,rfl,rfl⟩ rfl rfl rfl rfl rfl (by kernel_rfl) Tryz.func3 pathBounds_closed
  (of_decide_eq_true (by kernel_rfl)) (by unfold Func.isWrapper; first | (rw [if_pos (by decide +kernel)]; kernel_rfl) | (rw [if_neg (by decide +kernel)]; exact ⟨rfl,rfl⟩))
  (fun os started H enc _=>pathBounds_lifted os started H enc)
theorem pathBounds_card : Rows.PathBoundsCardSaid :=
 Claim7.holds_tied_plain_at .later [] [.data,.data,.data,.data,.data,.sentinel,.sentinel,.data,.pinned] true (true,"4a3ddd252640dda9207b2f1ca71e2f709a018789698d165030e98bbd8ba54a2f") true pathBounds_holds (fun _ h=>by cases h) (by kernel_rfl) (fun _ h=>by cases h) pathBounds_row_tie rfl ⟨rfl,rfl⟩ (by kernel_rfl) rfl
  (fun f fn hf hfn=>by
   obtain rfl : f = 3 := Option.some.inj ((show Tryz.prog.funcNamed "chancery/chancerylaw12.PathBounds" = some 3 by kernel_rfl).symm.trans hf) |>.symm
   obtain rfl : fn = Tryz.f3 := (Option.some.inj (Tryz.func3.symm.trans hfn)).symm
   exact ⟨by kernel_rfl,fun j t ht=>by
    rw [Tryz.params3] at ht
    have hm : t ∈ [3,3] := by simpa using Array.mem_of_getElem? ht
    have hall : ([3,3].all fun u=>!Tryz.prog.wantsStandIn u) = true := by kernel_rfl
    exact (show Tryz.prog.wantsStandIn t = false by simpa using List.all_eq_true.1 hall t hm)⟩)
  (by kernel_rfl)
#print axioms pathBounds_card
end Go.Proofs.YtaehaajckndejaaGreatDoor
