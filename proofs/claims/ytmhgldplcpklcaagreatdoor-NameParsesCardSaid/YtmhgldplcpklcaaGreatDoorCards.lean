/-
  DERIVED. GIVEN WITH THE SEED: THE CARDS: each row of YtmhgldplcpklcaaGreatDoorRows.lean that lists a variable, with what it lists TIED to the program's text (the seventh form; the later family's looks); each row that meets fmt, with fmt's text TOLD by the authors' own Lean function (tested against real Go, not proved from fmt's source: count such statements apart). THE CARD IS WHAT COUNTS. Prove the row's statement (the work); the ties are given (YtmhgldplcpklcaaGreatDoorTie.lean); close each card by the builder's one call (the guide's Derived/Test/ToyasCard.lean, 'card_holds'). Laid BY PROGRAM, IN A SANDBOX (cutbox-door.mjs). By AI agents, Wed Nov 11 2026. No macro, syntax, notation, axiom, sorry.
-/
import Derived.Test.YtmhgldplcpklcaaGreatDoorRows
import GoSem.ClaimSeven
namespace Go.Proofs.YtmhgldplcpklcaaGreatDoor
namespace Rows

/-- THE TIED CARD OF 'chancerylaw10.NameParses'. -/
def nameParsesCard : Claim7 := { stood := { row := nameParsesRow, standIns := [], harness := (true, "935aac94c9497b5e1148b980b8f83620f93bb815e8373f8fc4600de1f544d15a"), looks := true }, kinds := [], alts := [], laidByText := true, laidKinds := [.data, .data, .data, .data, .sentinel, .sentinel, .pinned], laidTests := true, laidLooks := .later }
def NameParsesCardSaid : Prop := Claim7.holds Tryz.pinned (.plain (OpenSpec.ofChange nameParsesSpec)) nameParsesCard

/-- THE SECOND FORM's CARD OF 'chancerylaw10.NameParses'. -/
def nameParsesUptoCard : Claim7 := { stood := { row := nameParsesUptoRow, standIns := [], harness := (true, "935aac94c9497b5e1148b980b8f83620f93bb815e8373f8fc4600de1f544d15a"), looks := true }, kinds := [], alts := [], laidByText := true, laidKinds := [.data, .data, .data, .data, .sentinel, .sentinel, .pinned], laidTests := true, laidLooks := .later }
def NameParsesUptoCardSaid : Prop := Claim7.holds Tryz.pinned (.plain (OpenSpec.upto nameParsesSpec)) nameParsesUptoCard
end Rows
end Go.Proofs.YtmhgldplcpklcaaGreatDoor
