/- Row of the law NameBelow, and its tied card: whatever the arguments, the call returns true, and the arguments read as they did. Conditions: none but the row's own: the listed tables of the library hold what the program's text lays. -/
import Derived.Test.YtncpjcojnjbhlaaGreatDoorF2
import Derived.Test.YtncpjcojnjbhlaaGreatDoorK
import Derived.Test.YtncpjcojnjbhlaaGreatDoorTie
import Derived.Test.YtncpjcojnjbhlaaGreatDoorCards
namespace Go.Proofs.YtncpjcojnjbhlaaGreatDoor
open Go.ChangeShapes Go.WideShapes Go.ChangeAt Go.RowKit Go.Mini

def nameBelowArgs : List (Bool × List CTy) := [(false, [.sl false [.str]]), (false, [.sl false [.str]]), (false, [.int .i64]), (false, [.str])]
theorem str_arg {m : MV} (h : HasE false [.str] m) : ∃ s, s.length ≤ reachBytes ∧ m = .str s := by
  cases h with
  | one h => cases h with
    | str h => exact ⟨_, h, rfl⟩
theorem strs_of : ∀ {l : List MV}, (∀ e ∈ l, HasE false [.str] e) → ∃ L, l = Mini.strs L
  | [], _ => ⟨[], rfl⟩
  | e :: l, h => by
    obtain ⟨s, _, rfl⟩ := str_arg (h e (List.mem_cons_self ..))
    obtain ⟨L, rfl⟩ := strs_of (l := l) fun e he => h e (List.mem_cons_of_mem _ he)
    exact ⟨s :: L, rfl⟩
theorem strs_arg {m : MV} (h : HasE false [.sl false [.str]] m) : ∃ L, m = .sl 1 (Mini.strs L) ∨ m = .nilsl ∧ L = [] := by
  cases h with
  | one h => cases h with
    | snil => exact ⟨[], .inr ⟨rfl, rfl⟩⟩
    | sl _ hl =>
      obtain ⟨L, rfl⟩ := strs_of hl
      exact ⟨L, .inl rfl⟩
theorem nameBelow_law (ms : List MV) (h : HasArgs nameBelowArgs ms) : Mini.Call Q 5 ms = some (.bool true) := by
  cases h with
  | cons h1 r1 => cases r1 with
    | cons h2 r2 => cases r2 with
      | cons h3 r3 => cases r3 with
        | cons h4 r4 =>
          cases r4
          obtain ⟨T, hT⟩ := strs_arg h1
          obtain ⟨X, hX⟩ := strs_arg h2
          obtain ⟨n, _, _, rfl⟩ := int_arg h3
          obtain ⟨s, _, rfl⟩ := str_arg h4
          exact c5 T X _ _ n s hT hX
theorem readable5 : ∀ t ∈ Tryz.f5.params.toList, Tryz.prog.readableRec t = true ∧ t < Tryz.prog.types.size := by
  rw [Tryz.params5]
  intro t ht
  have hall : ([37, 37, 3, 9].all fun u => Tryz.prog.readableRec u && decide (u < Tryz.prog.types.size)) = true := by kernel_rfl
  have := List.all_eq_true.1 hall t (by simpa using ht)
  simpa using this

set_option maxRecDepth 100000 in
theorem nameBelow_lifted (os : Os) (started : os.Started) (H : Type) (enc : TypeId × Value → H) :
    ReturnsInHanded {} Tryz.checked os 5 .any (fun w args => (Rows.nameBelowSpec.pre enc Tryz.prog Tryz.f5 Rows.nameBelowRow.domain false w args ∧ laidMetH Tryz.prog Rows.nameBelowRow.laid w) ∧ sizedMet enc Tryz.prog Tryz.f5 (OpenSpec.ofChange Rows.nameBelowSpec) false w args)
      (Rows.nameBelowSpec.post enc Tryz.prog Tryz.f5 false true false false) := by
  refine handed_shaped (C := Tryz.checked) (X := fun w _ => laidMetH Tryz.prog Rows.nameBelowRow.laid w) (fun _ _ _ hh h => h.of_heap hh) own started (by kernel_rfl) Tryz.func5
    (ChangeSpec.witness_shaped (enc := enc) (C := Tryz.checked) (os := os) (X := fun w _ => laidMetH Tryz.prog Rows.nameBelowRow.laid w) false (World.laidAll Tryz.prog os Rows.nameBelowRow.laid) #[.slice none 0 0, .slice none 0 0, .int .i64 0, .string .empty] 8 (World.laidAll_os _ _ _)
      (World.shaped_of_ZipB (by kernel_rfl) (by kernel_rfl)) (by kernel_rfl) (by kernel_rfl) (by kernel_rfl)
      (by rw [MakeChecks.laidMetH_plain _ _ _ (by kernel_rfl)]; exact laidMet_laidAll _ (by kernel_rfl) (by kernel_rfl))) ?_
  intro W base args ds gs before hval hW _ hwt hL hsh _
  refine law_contract (P := Tryz.prog) (H := H) (enc := enc) hQ laidOut Tryz.func5 (some_ne (by kernel_rfl)) (name_ne (by kernel_rfl)) (n := 8) (l := nameBelowArgs) (by kernel_rfl) readable5 (tb := 4) (by kernel_rfl) Tryz.underlying4 rfl ?_ ?_ (ground_of (Rows.nameBelowRow.laid) rfl hL hsh) hval hW hwt
  · intro ds hds
    obtain ⟨d0, d1, d2, d3, rfl⟩ := list_4 hds
    rfl
  · intro ms hms
    exact nameBelow_law ms hms

theorem nameBelow_holds : Rows.NameBelowSaid :=
  OpenClaim.holds_of_wide 5 Tryz.f5 rfl rfl rfl rfl rfl rfl rfl ⟨rfl, rfl, rfl, rfl, rfl⟩ rfl rfl rfl rfl rfl (by kernel_rfl) Tryz.func5 (by kernel_rfl)
    (of_decide_eq_true (by kernel_rfl)) (by unfold Func.isWrapper; first | (rw [if_pos (by decide +kernel)]; kernel_rfl) | (rw [if_neg (by decide +kernel)]; exact ⟨rfl, rfl⟩))
    (fun os started H enc _ => nameBelow_lifted os started H enc)
theorem nameBelow_card : Rows.NameBelowCardSaid :=
  Claim7.holds_tied_plain_at .later [] [.data, .data, .data, .data, .sentinel, .sentinel, .pinned] true (true, "d523a006ece568faff9f383fbce7288279df787b8363ee196896bc7aec513038") true nameBelow_holds (fun _ h => by cases h) (by kernel_rfl) (fun _ h => by cases h) nameBelow_row_tie rfl ⟨rfl, rfl⟩ (by kernel_rfl) rfl
    (fun f fn hf hfn => by
      obtain rfl : f = 5 := Option.some.inj ((show Tryz.prog.funcNamed "chancery/chancerylaw10.NameBelow" = some 5 by kernel_rfl).symm.trans hf) |>.symm
      obtain rfl : fn = Tryz.f5 := (Option.some.inj (Tryz.func5.symm.trans hfn)).symm
      exact ⟨by kernel_rfl, fun j t ht => by
        rw [Tryz.params5] at ht
        have hm : t ∈ [37, 37, 3, 9] := by simpa using Array.mem_of_getElem? ht
        have hall : ([37, 37, 3, 9].all fun u => !Tryz.prog.wantsStandIn u) = true := by kernel_rfl
        exact (show Tryz.prog.wantsStandIn t = false by simpa using List.all_eq_true.1 hall t hm)⟩)
    (by kernel_rfl)
#print axioms nameBelow_card
end Go.Proofs.YtncpjcojnjbhlaaGreatDoor
