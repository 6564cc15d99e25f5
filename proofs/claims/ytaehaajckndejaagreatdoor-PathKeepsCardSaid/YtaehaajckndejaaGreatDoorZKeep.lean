/- Row of the law PathKeeps, and its tied card: whatever the arguments, the call returns true, and the arguments read as they did. Conditions: none but the row's own: the listed tables of the library hold what the program's text lays. -/
import Derived.Test.YtaehaajckndejaaGreatDoorA17
import Derived.Test.YtaehaajckndejaaGreatDoorA15
import Derived.Test.YtaehaajckndejaaGreatDoorTie
import Derived.Test.YtaehaajckndejaaGreatDoorCards
set_option linter.all false
namespace Go.Proofs.YtaehaajckndejaaGreatDoor
open Go.Mini.Nm Go.ChangeShapes Go.WideShapes Go.ChangeAt Go.RowKit Go.Mini
def pathKeepsArgs : List (Bool × List CTy) := [(false,[.sl true [.int .i64,.str,.sl true [.str,.str]]]),(false,[.str]),(false,[.sl true [.int .i64,.str,.sl true [.str,.str]]]),(false,[.sl true [.int .i64,.str,.sl true [.str,.str]]])]
theorem str_arg' {m : MV} (h : HasC .str m) : ∃ s,s.length ≤ reachBytes ∧ m = .str s := by
 cases h with
 | str h=>exact ⟨_,h,rfl⟩
theorem attrs_of : ∀ {l : List MV},(∀ e ∈ l,HasE true [.str,.str] e)→∃ d : Dn,l = attrs d ∧ ∀ a ∈ d,a.1.length ≤ reachBytes ∧ a.2.length ≤ reachBytes
 | [],_=>⟨[],rfl,by simp⟩
 | e :: l,h=>by
  obtain ⟨d,rfl,hd⟩ := attrs_of (l := l) fun e he=>h e (List.mem_cons_of_mem _ he)
  have he := h e (List.mem_cons_self ..)
  cases he with
  | agg hl=>cases hl with
   | cons h1 r1=>cases r1 with
    | cons h2 r2 =>
     cases r2
     obtain ⟨s,hs,rfl⟩ := str_arg' h1
     obtain ⟨x,hx,rfl⟩ := str_arg' h2
     refine ⟨(s,x) :: d,rfl,fun a ha=>?_⟩
     rcases List.mem_cons.1 ha with rfl | ha
     ·exact ⟨hs,hx⟩
     ·exact hd a ha
theorem reach_lt : reachBytes < big := by decide
theorem dn_arg {m : MV} (h : HasC (.sl true [.str,.str]) m) : ∃ b d,m = dvOf b d ∧ bigN [] d := by
 have hb := reach_lt
 cases h with
 | snil=>exact ⟨true,[],rfl,by decide,by decide,by simp⟩
 | sl hn hl =>
  obtain ⟨d,rfl,hd⟩ := attrs_of hl
  rw [attrs_length] at hn
  refine ⟨false,d,?_,by decide,by omega,fun a ha=>by have := hd a ha; omega⟩
  show MV.sl 2 (attrs d) = _
  unfold dvOf
  rw [if_neg]
  intro h; cases h.1
theorem gens_of : ∀ {l : List MV},(∀ e ∈ l,HasE true [.int .i64,.str,.sl true [.str,.str]] e)→∃ gs : List Gn,l = gs.map gV ∧ ∀ g ∈ gs,bigG g
 | [],_=>⟨[],rfl,by simp⟩
 | e :: l,h=>by
  obtain ⟨gs,rfl,hd⟩ := gens_of (l := l) fun e he=>h e (List.mem_cons_of_mem _ he)
  have he := h e (List.mem_cons_self ..)
  have hb := reach_lt
  cases he with
  | agg hl=>cases hl with
   | cons h1 r1=>cases r1 with
    | cons h2 r2=>cases r2 with
     | cons h3 r3 =>
      cases r3
      cases h1 with
      | @int k n _ _ =>
       obtain ⟨s,hs,rfl⟩ := str_arg' h2
       obtain ⟨b,d,rfl,hok⟩ := dn_arg h3
       refine ⟨(n,s,b,d) :: gs,rfl,fun g hg=>?_⟩
       rcases List.mem_cons.1 hg with rfl | hg
       ·exact ⟨by show s.length < big; omega,hok.2⟩
       ·exact hd g hg
theorem gens_arg {m : MV} (h : HasE false [.sl true [.int .i64,.str,.sl true [.str,.str]]] m) : ∃ gs : List Gn,(m = .sl 3 (gs.map gV) ∨ m = .nilsl ∧ gs = []) ∧ ∀ g ∈ gs,bigG g := by
 cases h with
 | one h=>cases h with
  | snil=>exact ⟨[],.inr ⟨rfl,rfl⟩,by simp⟩
  | sl hn hl =>
   obtain ⟨gs,rfl,hd⟩ := gens_of hl
   exact ⟨gs,.inl rfl,hd⟩
theorem call_entry (f : Nat) (m : MFunc) (hf : Q.prim f = none) (hm : Q.fn f = some m) {a b : List MV} (h : entry m a = entry m b) : Mini.Call Q f a = Mini.Call Q f b := by
 rw [Call_fn Q (m := m) hf hm,Call_fn Q (m := m) hf hm,h]
theorem entry4 (a s p x : MV) : Mini.Call Q 4 [.nilsl,s,p,x] = Mini.Call Q 4 [.sl 3 [],s,p,x] ∧ Mini.Call Q 4 [a,s,.nilsl,x] = Mini.Call Q 4 [a,s,.sl 3 [],x] ∧ Mini.Call Q 4 [a,s,p,.nilsl] = Mini.Call Q 4 [a,s,p,.sl 3 []] :=
 ⟨call_entry 4 m4 rfl rfl rfl,call_entry 4 m4 rfl rfl (by cases a <;> rfl),call_entry 4 m4 rfl rfl (by cases a <;> cases p <;> rfl)⟩
theorem pathKeeps_law (ms : List MV) (h : HasArgs pathKeepsArgs ms) : Mini.Call Q 4 ms = some (.bool true) := by
 cases h with
 | cons h1 r1=>cases r1 with
  | cons h2 r2=>cases r2 with
   | cons h3 r3=>cases r3 with
    | cons h4 r4 =>
     cases r4
     obtain ⟨L,hL,bL⟩ := gens_arg h1
     obtain ⟨P,hP,bP⟩ := gens_arg h3
     obtain ⟨X,hX,bX⟩ := gens_arg h4
     cases h2 with
     | one h2 =>
      obtain ⟨s,hs,rfl⟩ := str_arg' h2
      have key := c4 L P X s bL bP bX
      rcases hL with rfl | ⟨rfl,rfl⟩ <;> rcases hP with rfl | ⟨rfl,rfl⟩ <;> rcases hX with rfl | ⟨rfl,rfl⟩
      ·exact key
      ·exact (entry4 _ _ _ .nilsl).2.2.trans key
      ·exact (entry4 _ _ .nilsl _).2.1.trans key
      ·exact (entry4 _ _ .nilsl .nilsl).2.1.trans ((entry4 _ _ _ .nilsl).2.2.trans key)
      ·exact (entry4 .nilsl _ _ _).1.trans key
      ·exact (entry4 .nilsl _ _ .nilsl).1.trans ((entry4 _ _ _ .nilsl).2.2.trans key)
      ·exact (entry4 .nilsl _ .nilsl _).1.trans ((entry4 _ _ .nilsl _).2.1.trans key)
      ·exact (entry4 .nilsl _ .nilsl .nilsl).1.trans ((entry4 _ _ .nilsl .nilsl).2.1.trans ((entry4 _ _ _ .nilsl).2.2.trans key))
theorem readable4 : ∀ t ∈ Tryz.f4.params.toList,Tryz.prog.readableRec t = true ∧ t < Tryz.prog.types.size := by
 rw [Tryz.params4]
 intro t ht
 have hall : ([31,9,31,31].all fun u=>Tryz.prog.readableRec u && decide (u < Tryz.prog.types.size)) = true := by kernel_rfl
 have := List.all_eq_true.1 hall t (by simpa using ht)
 simpa using this
set_option maxRecDepth 100000 in
theorem pathKeeps_lifted (os : Os) (started : os.Started) (H : Type) (enc : TypeId × Value→H) :
  ReturnsInHanded {} Tryz.checked os 4 .any (fun w args=>(Rows.pathKeepsSpec.pre enc Tryz.prog Tryz.f4 Rows.pathKeepsRow.domain false w args ∧ laidMetH Tryz.prog Rows.pathKeepsRow.laid w) ∧ sizedMet enc Tryz.prog Tryz.f4 (OpenSpec.ofChange Rows.pathKeepsSpec) false w args)
   (Rows.pathKeepsSpec.post enc Tryz.prog Tryz.f4 false true false false) := by
 refine handed_shaped (C := Tryz.checked) (X := fun w _=>laidMetH Tryz.prog Rows.pathKeepsRow.laid w) (fun _ _ _ hh h=>h.of_heap hh) own started (by kernel_rfl) Tryz.func4
  (ChangeSpec.witness_shaped (enc := enc) (C := Tryz.checked) (os := os) (X := fun w _=>laidMetH Tryz.prog Rows.pathKeepsRow.laid w) false (World.laidAll Tryz.prog os Rows.pathKeepsRow.laid) #[.slice none 0 0,.string .empty,.slice none 0 0,.slice none 0 0] 8 (World.laidAll_os _ _ _)
   (World.shaped_of_ZipB (by kernel_rfl) (by kernel_rfl)) (by kernel_rfl) (by kernel_rfl) (by kernel_rfl)
   (by rw [MakeChecks.laidMetH_plain _ _ _ (by kernel_rfl)]; exact laidMet_laidAll _ (by kernel_rfl) (by kernel_rfl))) ?_
 intro W base args ds gs before hval hW _ hwt hL hsh _
 refine law_contract (P := Tryz.prog) (H := H) (enc := enc) hQ laidOut Tryz.func4 (some_ne (by kernel_rfl)) (name_ne (by kernel_rfl)) (n := 8) (l := pathKeepsArgs) (by kernel_rfl) readable4 (tb := 4) (by kernel_rfl) Tryz.underlying4 rfl ?_ ?_ (ground_of (Rows.pathKeepsRow.laid) rfl hL hsh) hval hW hwt
 ·intro ds hds
  obtain ⟨d0,d1,d2,d3,rfl⟩ := list_4 hds
  rfl
 ·intro ms hms
  exact pathKeeps_law ms hms
set_option maxRecDepth 100000
theorem pathKeeps_k0 : (Rows.pathKeepsRow.wf (OpenSpec.ofChange Rows.pathKeepsSpec)) = true := by kernel_rfl
theorem pathKeeps_k1 : (laidOutB Tryz.prog) = true := by kernel_rfl
theorem pathKeeps_k2 : (mapsRowed Tryz.prog) = true := by kernel_rfl
theorem pathKeeps_k3 : (Tryz.f4.params.all (Tryz.prog.readableRec ·)) = true := by kernel_rfl
theorem pathKeeps_k4 : (namedTie Tryz.prog Rows.pathKeepsRow.named Rows.pathKeepsSpec.vars) = true := by kernel_rfl
theorem pathKeeps_k5 : ((Rows.pathKeepsRow.stops == [])) = true := by kernel_rfl
theorem pathKeeps_k6 : ((Tryz.prog.stops == [])) = true := by kernel_rfl
theorem pathKeeps_k7 : ((Rows.pathKeepsRow.knobs == [])) = true := by kernel_rfl
theorem pathKeeps_k8 : ((Tryz.prog.stopKnobs == [])) = true := by kernel_rfl
theorem pathKeeps_k9 : ((Rows.pathKeepsRow.inPlace == Tryz.prog.inPlace 4)) = true := by kernel_rfl
theorem pathKeeps_k10 : ((Rows.pathKeepsRow.unfollowed == Tryz.prog.unfollowed 4)) = true := by kernel_rfl
theorem pathKeeps_k11 : ((Rows.pathKeepsRow.recurses == Tryz.prog.recurses 4)) = true := by kernel_rfl
theorem pathKeeps_k12 : ((Rows.pathKeepsRow.named == Tryz.prog.varsNamed 4)) = true := by kernel_rfl
theorem pathKeeps_k13 : ((Rows.pathKeepsRow.maps == (Tryz.f4.params.toList ++ Rows.pathKeepsSpec.plain.varTypes Tryz.prog).any (Tryz.prog.mapsRec ·))) = true := by kernel_rfl
theorem pathKeeps_k14 : ((Rows.pathKeepsRow.ifaces == (Tryz.f4.params.toList ++ Rows.pathKeepsSpec.plain.varTypes Tryz.prog).any (Tryz.prog.ifacesRec ·))) = true := by kernel_rfl
theorem pathKeeps_k15 : ((Rows.pathKeepsRow.mapsOut == Tryz.prog.mapsAmong Tryz.f4.resultTypes.toList)) = true := by kernel_rfl
theorem pathKeeps_k16 : ((Rows.pathKeepsRow.loops == (Tryz.f4.params.toList ++ Rows.pathKeepsSpec.plain.varTypes Tryz.prog).any (Tryz.prog.loopsFrom ·))) = true := by kernel_rfl
theorem pathKeeps_k17 : ((Rows.pathKeepsRow.wideKeys == (Tryz.f4.params.toList ++ Rows.pathKeepsSpec.plain.varTypes Tryz.prog ++ Tryz.f4.resultTypes.toList).any (Tryz.prog.wideKeysFrom ·))) = true := by kernel_rfl
theorem pathKeeps_k18 : (Rows.pathKeepsSpec.vars.all (Tryz.prog.varReadable ·)) = true := by kernel_rfl
theorem pathKeeps_k19 : (Tryz.f4.resultTypes.all (fun t=>Tryz.prog.readableRec t && decide (t < Tryz.prog.types.size))) = true := by kernel_rfl
theorem pathKeeps_k20 : ((Rows.pathKeepsRow.ifacesOut == Tryz.f4.resultTypes.toList.any (Tryz.prog.ifacesRec ·))) = true := by kernel_rfl
theorem pathKeeps_k21 : ((Rows.pathKeepsRow.loopsOut == Tryz.f4.resultTypes.toList.any (Tryz.prog.loopsFrom ·))) = true := by kernel_rfl
theorem pathKeeps_k22 : ((Rows.pathKeepsRow.plainKeys == Tryz.prog.plainKeys)) = true := by kernel_rfl
theorem pathKeeps_k23 : (Rows.pathKeepsRow.shortTexts.isNone) = true := by kernel_rfl
theorem pathKeeps_k24 : (Tryz.prog.stopsHeard) = true := by kernel_rfl
theorem pathKeeps_k25 : (Tryz.prog.mayEnter) = true := by kernel_rfl
theorem pathKeeps_k26 : ((Rows.pathKeepsRow.lifted == Tryz.prog.liftsFinal)) = true := by kernel_rfl
theorem pathKeeps_k27 : ((Tryz.prog.make == some Rows.pathKeepsRow.make)) = true := by kernel_rfl
theorem pathKeeps_k28 : ((Rows.pathKeepsRow.kinds == (if Rows.pathKeepsRow.domain.isEmpty then [] else Tryz.f4.params.toList.map fun t=>match Tryz.prog.underlying t with | some (.int k)=>some k | _=>none))) = true := by kernel_rfl
theorem pathKeeps_k29 : ((Rows.pathKeepsRow.pinned == Rows.pathKeepsRow.pinnedBy)) = true := by kernel_rfl
theorem pathKeeps_k30 : ((Rows.pathKeepsRow.veiled == (Tryz.f4.params.toList ++ Rows.pathKeepsSpec.plain.varTypes Tryz.prog ++ Tryz.f4.resultTypes.toList).any (Tryz.prog.veiledRec ·))) = true := by kernel_rfl
theorem pathKeeps_k31 : (Rows.pathKeepsRow.veiledFits Tryz.prog Tryz.f4.params.toList (Tryz.f4.params.toList ++ Rows.pathKeepsSpec.plain.varTypes Tryz.prog ++ Tryz.f4.resultTypes.toList)) = true := by kernel_rfl
theorem and_t {a b : Bool} (h : a = true) (k : b = true) : (a && b) = true := by rw [h,k]; rfl
theorem pathKeeps_closed : joinedFacts Tryz.prog 4 Tryz.f4 Rows.pathKeepsSpec Rows.pathKeepsRow = true := (and_t (and_t (and_t (and_t (and_t (and_t (and_t (and_t (and_t (and_t (and_t (and_t (and_t (and_t (and_t (and_t (and_t (and_t (and_t (and_t (and_t (and_t (and_t (and_t (and_t (and_t (and_t (and_t (and_t (and_t (and_t pathKeeps_k0 pathKeeps_k1) pathKeeps_k2) pathKeeps_k3) pathKeeps_k4) pathKeeps_k5) pathKeeps_k6) pathKeeps_k7) pathKeeps_k8) pathKeeps_k9) pathKeeps_k10) pathKeeps_k11) pathKeeps_k12) pathKeeps_k13) pathKeeps_k14) pathKeeps_k15) pathKeeps_k16) pathKeeps_k17) pathKeeps_k18) pathKeeps_k19) pathKeeps_k20) pathKeeps_k21) pathKeeps_k22) pathKeeps_k23) pathKeeps_k24) pathKeeps_k25) pathKeeps_k26) pathKeeps_k27) pathKeeps_k28) pathKeeps_k29) pathKeeps_k30) pathKeeps_k31)
theorem pathKeeps_holds : Rows.PathKeepsSaid :=
 OpenClaim.holds_of_wide 4 Tryz.f4 rfl rfl rfl rfl rfl rfl rfl ⟨rfl,rfl,rfl,rfl,rfl⟩ rfl rfl rfl rfl rfl (by kernel_rfl) Tryz.func4 pathKeeps_closed
  (of_decide_eq_true (by kernel_rfl)) (by unfold Func.isWrapper; first | (rw [if_pos (by decide +kernel)]; kernel_rfl) | (rw [if_neg (by decide +kernel)]; exact ⟨rfl,rfl⟩))
  (fun os started H enc _=>pathKeeps_lifted os started H enc)
theorem pathKeeps_card : Rows.PathKeepsCardSaid :=
 Claim7.holds_tied_plain_at .later [] [.data,.data,.data,.data,.data,.sentinel,.sentinel,.data,.pinned] true (true,"4a3ddd252640dda9207b2f1ca71e2f709a018789698d165030e98bbd8ba54a2f") true pathKeeps_holds (fun _ h=>by cases h) (by kernel_rfl) (fun _ h=>by cases h) pathKeeps_row_tie rfl ⟨rfl,rfl⟩ (by kernel_rfl) rfl
  (fun f fn hf hfn=>by
   obtain rfl : f = 4 := Option.some.inj ((show Tryz.prog.funcNamed "chancery/chancerylaw12.PathKeeps" = some 4 by kernel_rfl).symm.trans hf) |>.symm
   obtain rfl : fn = Tryz.f4 := (Option.some.inj (Tryz.func4.symm.trans hfn)).symm
   exact ⟨by kernel_rfl,fun j t ht=>by
    rw [Tryz.params4] at ht
    have hm : t ∈ [31,9,31,31] := by simpa using Array.mem_of_getElem? ht
    have hall : ([31,9,31,31].all fun u=>!Tryz.prog.wantsStandIn u) = true := by kernel_rfl
    exact (show Tryz.prog.wantsStandIn t = false by simpa using List.all_eq_true.1 hall t hm)⟩)
  (by kernel_rfl)
#print axioms pathKeeps_card
end Go.Proofs.YtaehaajckndejaaGreatDoor
