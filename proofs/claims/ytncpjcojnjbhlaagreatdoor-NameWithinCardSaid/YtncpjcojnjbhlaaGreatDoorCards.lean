/-
  DERIVED. GIVEN WITH THE SEED: THE CARDS: each row of YtncpjcojnjbhlaaGreatDoorRows.lean that lists a variable, with what it lists TIED to the program's text (the seventh form; the later family's looks); each row that meets fmt, with fmt's text TOLD by the authors' own Lean function (tested against real Go, not proved from fmt's source: count such statements apart). THE CARD IS WHAT COUNTS. Prove the row's statement (the work); the ties are given (YtncpjcojnjbhlaaGreatDoorTie.lean); close each card by the builder's one call (the guide's Derived/Test/ToyasCard.lean, 'card_holds'). Laid BY PROGRAM, IN A SANDBOX (cutbox-door.mjs). By AI agents, Wed Nov 11 2026. No macro, syntax, notation, axiom, sorry.
-/
import Derived.Test.YtncpjcojnjbhlaaGreatDoorRows
import GoSem.ClaimSeven
namespace Go.Proofs.YtncpjcojnjbhlaaGreatDoor
namespace Rows

/-- THE TIED CARD OF 'chancerylaw10.NameWithin'. -/
def nameWithinCard : Claim7 := { stood := { row := nameWithinRow, standIns := [], harness := (true, "d523a006ece568faff9f383fbce7288279df787b8363ee196896bc7aec513038"), looks := true }, kinds := [], alts := [], laidByText := true, laidKinds := [.data, .data, .data, .data, .sentinel, .sentinel, .pinned], laidTests := true, laidLooks := .later }
def NameWithinCardSaid : Prop := Claim7.holds Tryz.pinned (.plain (OpenSpec.ofChange nameWithinSpec)) nameWithinCard

/-- THE TIED CARD OF 'chancerylaw10.NameNets'. -/
def nameNetsCard : Claim7 := { stood := { row := nameNetsRow, standIns := [], harness := (true, "d523a006ece568faff9f383fbce7288279df787b8363ee196896bc7aec513038"), looks := true }, kinds := [], alts := [], laidByText := true, laidKinds := [.data, .data, .data, .data, .sentinel, .sentinel, .pinned], laidTests := true, laidLooks := .later }
def NameNetsCardSaid : Prop := Claim7.holds Tryz.pinned (.plain (OpenSpec.ofChange nameNetsSpec)) nameNetsCard

/-- THE TIED CARD OF 'chancerylaw10.NameBelow'. -/
def nameBelowCard : Claim7 := { stood := { row := nameBelowRow, standIns := [], harness := (true, "d523a006ece568faff9f383fbce7288279df787b8363ee196896bc7aec513038"), looks := true }, kinds := [], alts := [], laidByText := true, laidKinds := [.data, .data, .data, .data, .sentinel, .sentinel, .pinned], laidTests := true, laidLooks := .later }
def NameBelowCardSaid : Prop := Claim7.holds Tryz.pinned (.plain (OpenSpec.ofChange nameBelowSpec)) nameBelowCard

/-- THE TIED CARD OF 'chancerylaw10.NameParses'. -/
def nameParsesCard : Claim7 := { stood := { row := nameParsesRow, standIns := [], harness := (true, "d523a006ece568faff9f383fbce7288279df787b8363ee196896bc7aec513038"), looks := true }, kinds := [], alts := [], laidByText := true, laidKinds := [.data, .data, .data, .data, .sentinel, .sentinel, .pinned], laidTests := true, laidLooks := .later }
def NameParsesCardSaid : Prop := Claim7.holds Tryz.pinned (.plain (OpenSpec.ofChange nameParsesSpec)) nameParsesCard

/-- THE TIED CARD OF 'chancerylaw10.NameClock'. -/
def nameClockCard : Claim7 := { stood := { row := nameClockRow, standIns := [], harness := (true, "d523a006ece568faff9f383fbce7288279df787b8363ee196896bc7aec513038"), looks := true }, kinds := [], alts := [], laidByText := true, laidKinds := [.data, .data, .data, .data, .sentinel, .sentinel, .pinned], laidTests := true, laidLooks := .later }
def NameClockCardSaid : Prop := Claim7.holds Tryz.pinned (.plain (OpenSpec.ofChange nameClockSpec)) nameClockCard

/-- THE SECOND FORM's CARD OF 'chancerylaw10.NameWithin'. -/
def nameWithinUptoCard : Claim7 := { stood := { row := nameWithinUptoRow, standIns := [], harness := (true, "d523a006ece568faff9f383fbce7288279df787b8363ee196896bc7aec513038"), looks := true }, kinds := [], alts := [], laidByText := true, laidKinds := [.data, .data, .data, .data, .sentinel, .sentinel, .pinned], laidTests := true, laidLooks := .later }
def NameWithinUptoCardSaid : Prop := Claim7.holds Tryz.pinned (.plain (OpenSpec.upto nameWithinSpec)) nameWithinUptoCard

/-- THE SECOND FORM's CARD OF 'chancerylaw10.NameNets'. -/
def nameNetsUptoCard : Claim7 := { stood := { row := nameNetsUptoRow, standIns := [], harness := (true, "d523a006ece568faff9f383fbce7288279df787b8363ee196896bc7aec513038"), looks := true }, kinds := [], alts := [], laidByText := true, laidKinds := [.data, .data, .data, .data, .sentinel, .sentinel, .pinned], laidTests := true, laidLooks := .later }
def NameNetsUptoCardSaid : Prop := Claim7.holds Tryz.pinned (.plain (OpenSpec.upto nameNetsSpec)) nameNetsUptoCard

/-- THE SECOND FORM's CARD OF 'chancerylaw10.NameBelow'. -/
def nameBelowUptoCard : Claim7 := { stood := { row := nameBelowUptoRow, standIns := [], harness := (true, "d523a006ece568faff9f383fbce7288279df787b8363ee196896bc7aec513038"), looks := true }, kinds := [], alts := [], laidByText := true, laidKinds := [.data, .data, .data, .data, .sentinel, .sentinel, .pinned], laidTests := true, laidLooks := .later }
def NameBelowUptoCardSaid : Prop := Claim7.holds Tryz.pinned (.plain (OpenSpec.upto nameBelowSpec)) nameBelowUptoCard

/-- THE SECOND FORM's CARD OF 'chancerylaw10.NameParses'. -/
def nameParsesUptoCard : Claim7 := { stood := { row := nameParsesUptoRow, standIns := [], harness := (true, "d523a006ece568faff9f383fbce7288279df787b8363ee196896bc7aec513038"), looks := true }, kinds := [], alts := [], laidByText := true, laidKinds := [.data, .data, .data, .data, .sentinel, .sentinel, .pinned], laidTests := true, laidLooks := .later }
def NameParsesUptoCardSaid : Prop := Claim7.holds Tryz.pinned (.plain (OpenSpec.upto nameParsesSpec)) nameParsesUptoCard

/-- THE SECOND FORM's CARD OF 'chancerylaw10.NameClock'. -/
def nameClockUptoCard : Claim7 := { stood := { row := nameClockUptoRow, standIns := [], harness := (true, "d523a006ece568faff9f383fbce7288279df787b8363ee196896bc7aec513038"), looks := true }, kinds := [], alts := [], laidByText := true, laidKinds := [.data, .data, .data, .data, .sentinel, .sentinel, .pinned], laidTests := true, laidLooks := .later }
def NameClockUptoCardSaid : Prop := Claim7.holds Tryz.pinned (.plain (OpenSpec.upto nameClockSpec)) nameClockUptoCard
end Rows
end Go.Proofs.YtncpjcojnjbhlaaGreatDoor
