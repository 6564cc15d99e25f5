/- Row of the law NameWithin, and its tied card: whatever the arguments, the call returns true, and the arguments read as they did. Conditions: none but the row's own: the listed tables of the library hold what the program's text lays. -/
import Derived.Test.YtncpjcojnjbhlaaGreatDoorW4
import Derived.Test.YtncpjcojnjbhlaaGreatDoorK
import Derived.Test.YtncpjcojnjbhlaaGreatDoorTie
import Derived.Test.YtncpjcojnjbhlaaGreatDoorCards
namespace Go.Proofs.YtncpjcojnjbhlaaGreatDoor
open Go.ChangeShapes Go.WideShapes Go.ChangeAt Go.RowKit Go.Mini

def nameWithinArgs : List (Bool × List CTy) := [(true, [.int .i64, .str, .sl true [.str, .str]]), (true, [.int .i64, .str, .sl true [.str, .str]])]
theorem str_arg' {m : MV} (h : HasC .str m) : ∃ s, s.length ≤ reachBytes ∧ m = .str s := by
  cases h with
  | str h => exact ⟨_, h, rfl⟩
theorem attrs_of : ∀ {l : List MV}, (∀ e ∈ l, HasE true [.str, .str] e) → ∃ d : Dn, l = Mini.attrs d ∧ ∀ a ∈ d, a.1.length ≤ reachBytes ∧ a.2.length ≤ reachBytes
  | [], _ => ⟨[], rfl, by simp⟩
  | e :: l, h => by
    obtain ⟨d, rfl, hd⟩ := attrs_of (l := l) fun e he => h e (List.mem_cons_of_mem _ he)
    have he := h e (List.mem_cons_self ..)
    cases he with
    | agg hl => cases hl with
      | cons h1 r1 => cases r1 with
        | cons h2 r2 =>
          cases r2
          obtain ⟨s, hs, rfl⟩ := str_arg' h1
          obtain ⟨x, hx, rfl⟩ := str_arg' h2
          refine ⟨(s, x) :: d, rfl, fun a ha => ?_⟩
          rcases List.mem_cons.1 ha with rfl | ha
          · exact ⟨hs, hx⟩
          · exact hd a ha
theorem gen_arg {m : MV} (h : HasE true [.int .i64, .str, .sl true [.str, .str]] m) : ∃ k t dv d, isDir dv d ∧ bigN t d ∧ m = gM k t dv := by
  cases h with
  | agg hl => cases hl with
    | cons h1 r1 => cases r1 with
      | cons h2 r2 => cases r2 with
        | cons h3 r3 =>
          cases r3
          cases h1 with
          | int _ _ =>
            obtain ⟨t, ht, rfl⟩ := str_arg' h2
            have hb : reachBytes < big := by decide
            cases h3 with
            | snil => exact ⟨_, t, _, [], .inr ⟨rfl, rfl⟩, ⟨by omega, by decide, by simp⟩, rfl⟩
            | sl hn hl =>
              obtain ⟨d, rfl, hd⟩ := attrs_of hl
              refine ⟨_, t, _, d, .inl rfl, ⟨by omega, ?_, fun a ha => ?_⟩, rfl⟩
              · rw [attrs_length] at hn; omega
              · have := hd a ha; exact ⟨by omega, by omega⟩
theorem nameWithin_law (ms : List MV) (h : HasArgs nameWithinArgs ms) : Mini.Call Q 3 ms = some (.bool true) := by
  cases h with
  | cons h1 r1 => cases r1 with
    | cons h2 r2 =>
      cases r2
      obtain ⟨k, t, dv, d, hdv, hb, rfl⟩ := gen_arg h1
      obtain ⟨k2, t2, dv2, d2, hdv2, hb2, rfl⟩ := gen_arg h2
      exact c3 k k2 t dv d t2 dv2 d2 hdv hdv2 hb hb2
theorem readable3 : ∀ t ∈ Tryz.f3.params.toList, Tryz.prog.readableRec t = true ∧ t < Tryz.prog.types.size := by
  rw [Tryz.params3]
  intro t ht
  have hall : ([25, 25].all fun u => Tryz.prog.readableRec u && decide (u < Tryz.prog.types.size)) = true := by kernel_rfl
  have := List.all_eq_true.1 hall t (by simpa using ht)
  simpa using this

set_option maxRecDepth 100000 in
theorem nameWithin_lifted (os : Os) (started : os.Started) (H : Type) (enc : TypeId × Value → H) :
    ReturnsInHanded {} Tryz.checked os 3 .any (fun w args => (Rows.nameWithinSpec.pre enc Tryz.prog Tryz.f3 Rows.nameWithinRow.domain false w args ∧ laidMetH Tryz.prog Rows.nameWithinRow.laid w) ∧ sizedMet enc Tryz.prog Tryz.f3 (OpenSpec.ofChange Rows.nameWithinSpec) false w args)
      (Rows.nameWithinSpec.post enc Tryz.prog Tryz.f3 false true false false) := by
  refine handed_shaped (C := Tryz.checked) (X := fun w _ => laidMetH Tryz.prog Rows.nameWithinRow.laid w) (fun _ _ _ hh h => h.of_heap hh) own started (by kernel_rfl) Tryz.func3
    (ChangeSpec.witness_shaped (enc := enc) (C := Tryz.checked) (os := os) (X := fun w _ => laidMetH Tryz.prog Rows.nameWithinRow.laid w) false (World.laidAll Tryz.prog os Rows.nameWithinRow.laid) #[.agg #[.int .i64 0, .string .empty, .slice none 0 0], .agg #[.int .i64 0, .string .empty, .slice none 0 0]] 8 (World.laidAll_os _ _ _)
      (World.shaped_of_ZipB (by kernel_rfl) (by kernel_rfl)) (by kernel_rfl) (by kernel_rfl) (by kernel_rfl)
      (by rw [MakeChecks.laidMetH_plain _ _ _ (by kernel_rfl)]; exact laidMet_laidAll _ (by kernel_rfl) (by kernel_rfl))) ?_
  intro W base args ds gs before hval hW _ hwt hL hsh _
  refine law_contract (P := Tryz.prog) (H := H) (enc := enc) hQ laidOut Tryz.func3 (some_ne (by kernel_rfl)) (name_ne (by kernel_rfl)) (n := 8) (l := nameWithinArgs) (by kernel_rfl) readable3 (tb := 4) (by kernel_rfl) Tryz.underlying4 rfl ?_ ?_ (ground_of (Rows.nameWithinRow.laid) rfl hL hsh) hval hW hwt
  · intro ds hds
    obtain ⟨d0, d1, rfl⟩ := list_2 hds
    rfl
  · intro ms hms
    exact nameWithin_law ms hms

theorem nameWithin_holds : Rows.NameWithinSaid :=
  OpenClaim.holds_of_wide 3 Tryz.f3 rfl rfl rfl rfl rfl rfl rfl ⟨rfl, rfl, rfl, rfl, rfl⟩ rfl rfl rfl rfl rfl (by kernel_rfl) Tryz.func3 (by kernel_rfl)
    (of_decide_eq_true (by kernel_rfl)) (by unfold Func.isWrapper; first | (rw [if_pos (by decide +kernel)]; kernel_rfl) | (rw [if_neg (by decide +kernel)]; exact ⟨rfl, rfl⟩))
    (fun os started H enc _ => nameWithin_lifted os started H enc)
theorem nameWithin_card : Rows.NameWithinCardSaid :=
  Claim7.holds_tied_plain_at .later [] [.data, .data, .data, .data, .sentinel, .sentinel, .pinned] true (true, "d523a006ece568faff9f383fbce7288279df787b8363ee196896bc7aec513038") true nameWithin_holds (fun _ h => by cases h) (by kernel_rfl) (fun _ h => by cases h) nameWithin_row_tie rfl ⟨rfl, rfl⟩ (by kernel_rfl) rfl
    (fun f fn hf hfn => by
      obtain rfl : f = 3 := Option.some.inj ((show Tryz.prog.funcNamed "chancery/chancerylaw10.NameWithin" = some 3 by kernel_rfl).symm.trans hf) |>.symm
      obtain rfl : fn = Tryz.f3 := (Option.some.inj (Tryz.func3.symm.trans hfn)).symm
      exact ⟨by kernel_rfl, fun j t ht => by
        rw [Tryz.params3] at ht
        have hm : t ∈ [25, 25] := by simpa using Array.mem_of_getElem? ht
        have hall : ([25, 25].all fun u => !Tryz.prog.wantsStandIn u) = true := by kernel_rfl
        exact (show Tryz.prog.wantsStandIn t = false by simpa using List.all_eq_true.1 hall t hm)⟩)
    (by kernel_rfl)
#print axioms nameWithin_card
end Go.Proofs.YtncpjcojnjbhlaaGreatDoor
