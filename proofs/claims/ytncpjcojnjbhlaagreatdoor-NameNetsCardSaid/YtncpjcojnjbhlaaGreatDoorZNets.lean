/- Row of the law NameNets, and its tied card: whatever the arguments, the call returns true, and the arguments read as they did. Conditions: none but the row's own: the listed tables of the library hold what the program's text lays. -/
import Derived.Test.YtncpjcojnjbhlaaGreatDoorN4
import Derived.Test.YtncpjcojnjbhlaaGreatDoorK
import Derived.Test.YtncpjcojnjbhlaaGreatDoorTie
import Derived.Test.YtncpjcojnjbhlaaGreatDoorCards
namespace Go.Proofs.YtncpjcojnjbhlaaGreatDoor
open Go.ChangeShapes Go.WideShapes Go.ChangeAt Go.RowKit Go.Mini

def nameNetsArgs : List (Bool × List CTy) := [(false, [.bytes]), (false, [.bytes]), (false, [.int .i64])]
theorem nameNets_law (ms : List MV) (h : HasArgs nameNetsArgs ms) : Mini.Call Q 4 ms = some (.bool true) := by
  cases h with
  | cons h1 r1 => cases r1 with
    | cons h2 r2 => cases r2 with
      | cons h3 r3 =>
        cases r3
        obtain ⟨a, _, ha⟩ := bytes_arg h1
        obtain ⟨b, _, hb⟩ := bytes_arg h2
        obtain ⟨n, _, _, rfl⟩ := int_arg h3
        exact c4_nil n ha hb
theorem readable4 : ∀ t ∈ Tryz.f4.params.toList, Tryz.prog.readableRec t = true ∧ t < Tryz.prog.types.size := by
  rw [Tryz.params4]
  intro t ht
  have hall : ([34, 34, 3].all fun u => Tryz.prog.readableRec u && decide (u < Tryz.prog.types.size)) = true := by kernel_rfl
  have := List.all_eq_true.1 hall t (by simpa using ht)
  simpa using this

set_option maxRecDepth 100000 in
theorem nameNets_lifted (os : Os) (started : os.Started) (H : Type) (enc : TypeId × Value → H) :
    ReturnsInHanded {} Tryz.checked os 4 .any (fun w args => (Rows.nameNetsSpec.pre enc Tryz.prog Tryz.f4 Rows.nameNetsRow.domain false w args ∧ laidMetH Tryz.prog Rows.nameNetsRow.laid w) ∧ sizedMet enc Tryz.prog Tryz.f4 (OpenSpec.ofChange Rows.nameNetsSpec) false w args)
      (Rows.nameNetsSpec.post enc Tryz.prog Tryz.f4 false true false false) := by
  refine handed_shaped (C := Tryz.checked) (X := fun w _ => laidMetH Tryz.prog Rows.nameNetsRow.laid w) (fun _ _ _ hh h => h.of_heap hh) own started (by kernel_rfl) Tryz.func4
    (ChangeSpec.witness_shaped (enc := enc) (C := Tryz.checked) (os := os) (X := fun w _ => laidMetH Tryz.prog Rows.nameNetsRow.laid w) false (World.laidAll Tryz.prog os Rows.nameNetsRow.laid) #[.slice none 0 0, .slice none 0 0, .int .i64 0] 8 (World.laidAll_os _ _ _)
      (World.shaped_of_ZipB (by kernel_rfl) (by kernel_rfl)) (by kernel_rfl) (by kernel_rfl) (by kernel_rfl)
      (by rw [MakeChecks.laidMetH_plain _ _ _ (by kernel_rfl)]; exact laidMet_laidAll _ (by kernel_rfl) (by kernel_rfl))) ?_
  intro W base args ds gs before hval hW _ hwt hL hsh _
  refine law_contract (P := Tryz.prog) (H := H) (enc := enc) hQ laidOut Tryz.func4 (some_ne (by kernel_rfl)) (name_ne (by kernel_rfl)) (n := 8) (l := nameNetsArgs) (by kernel_rfl) readable4 (tb := 4) (by kernel_rfl) Tryz.underlying4 rfl ?_ ?_ (ground_of (Rows.nameNetsRow.laid) rfl hL hsh) hval hW hwt
  · intro ds hds
    obtain ⟨d0, d1, d2, rfl⟩ := list_3 hds
    rfl
  · intro ms hms
    exact nameNets_law ms hms

theorem nameNets_holds : Rows.NameNetsSaid :=
  OpenClaim.holds_of_wide 4 Tryz.f4 rfl rfl rfl rfl rfl rfl rfl ⟨rfl, rfl, rfl, rfl, rfl⟩ rfl rfl rfl rfl rfl (by kernel_rfl) Tryz.func4 (by kernel_rfl)
    (of_decide_eq_true (by kernel_rfl)) (by unfold Func.isWrapper; first | (rw [if_pos (by decide +kernel)]; kernel_rfl) | (rw [if_neg (by decide +kernel)]; exact ⟨rfl, rfl⟩))
    (fun os started H enc _ => nameNets_lifted os started H enc)
theorem nameNets_card : Rows.NameNetsCardSaid :=
  Claim7.holds_tied_plain_at .later [] [.data, .data, .data, .data, .sentinel, .sentinel, .pinned] true (true, "d523a006ece568faff9f383fbce7288279df787b8363ee196896bc7aec513038") true nameNets_holds (fun _ h => by cases h) (by kernel_rfl) (fun _ h => by cases h) nameNets_row_tie rfl ⟨rfl, rfl⟩ (by kernel_rfl) rfl
    (fun f fn hf hfn => by
      obtain rfl : f = 4 := Option.some.inj ((show Tryz.prog.funcNamed "chancery/chancerylaw10.NameNets" = some 4 by kernel_rfl).symm.trans hf) |>.symm
      obtain rfl : fn = Tryz.f4 := (Option.some.inj (Tryz.func4.symm.trans hfn)).symm
      exact ⟨by kernel_rfl, fun j t ht => by
        rw [Tryz.params4] at ht
        have hm : t ∈ [34, 34, 3] := by simpa using Array.mem_of_getElem? ht
        have hall : ([34, 34, 3].all fun u => !Tryz.prog.wantsStandIn u) = true := by kernel_rfl
        exact (show Tryz.prog.wantsStandIn t = false by simpa using List.all_eq_true.1 hall t hm)⟩)
    (by kernel_rfl)
#print axioms nameNets_card
end Go.Proofs.YtncpjcojnjbhlaaGreatDoor
