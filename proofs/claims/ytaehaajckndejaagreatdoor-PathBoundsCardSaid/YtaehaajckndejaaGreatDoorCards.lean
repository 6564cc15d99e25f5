/-
  DERIVED. GIVEN WITH THE SEED: THE CARDS: each row of YtaehaajckndejaaGreatDoorRows.lean that lists a variable, with what it lists TIED to the program's text (the seventh form; the later family's looks); each row that meets fmt, with fmt's text TOLD by the authors' own Lean function (tested against real Go, not proved from fmt's source: count such statements apart). THE CARD IS WHAT COUNTS. Prove the row's statement (the work); the ties are given (YtaehaajckndejaaGreatDoorTie.lean); close each card by the builder's one call (the guide's Derived/Test/ToyasCard.lean, 'card_holds'). Laid BY PROGRAM, IN A SANDBOX (cutbox-door.mjs). By AI agents, Wed Nov 11 2026. No macro, syntax, notation, axiom, sorry.
-/
import Derived.Test.YtaehaajckndejaaGreatDoorRows
import GoSem.ClaimSeven
namespace Go.Proofs.YtaehaajckndejaaGreatDoor
namespace Rows

/-- THE TIED CARD OF 'chancerylaw12.PathBounds'. -/
def pathBoundsCard : Claim7 := { stood := { row := pathBoundsRow, standIns := [], harness := (true, "4a3ddd252640dda9207b2f1ca71e2f709a018789698d165030e98bbd8ba54a2f"), looks := true }, kinds := [], alts := [], laidByText := true, laidKinds := [.data, .data, .data, .data, .data, .sentinel, .sentinel, .data, .pinned], laidTests := true, laidLooks := .later }
def PathBoundsCardSaid : Prop := Claim7.holds Tryz.pinned (.plain (OpenSpec.ofChange pathBoundsSpec)) pathBoundsCard

/-- THE TIED CARD OF 'chancerylaw12.PathKeeps'. -/
def pathKeepsCard : Claim7 := { stood := { row := pathKeepsRow, standIns := [], harness := (true, "4a3ddd252640dda9207b2f1ca71e2f709a018789698d165030e98bbd8ba54a2f"), looks := true }, kinds := [], alts := [], laidByText := true, laidKinds := [.data, .data, .data, .data, .data, .sentinel, .sentinel, .data, .pinned], laidTests := true, laidLooks := .later }
def PathKeepsCardSaid : Prop := Claim7.holds Tryz.pinned (.plain (OpenSpec.ofChange pathKeepsSpec)) pathKeepsCard

/-- THE SECOND FORM's CARD OF 'chancerylaw12.PathBounds'. -/
def pathBoundsUptoCard : Claim7 := { stood := { row := pathBoundsUptoRow, standIns := [], harness := (true, "4a3ddd252640dda9207b2f1ca71e2f709a018789698d165030e98bbd8ba54a2f"), looks := true }, kinds := [], alts := [], laidByText := true, laidKinds := [.data, .data, .data, .data, .data, .sentinel, .sentinel, .data, .pinned], laidTests := true, laidLooks := .later }
def PathBoundsUptoCardSaid : Prop := Claim7.holds Tryz.pinned (.plain (OpenSpec.upto pathBoundsSpec)) pathBoundsUptoCard

/-- THE SECOND FORM's CARD OF 'chancerylaw12.PathKeeps'. -/
def pathKeepsUptoCard : Claim7 := { stood := { row := pathKeepsUptoRow, standIns := [], harness := (true, "4a3ddd252640dda9207b2f1ca71e2f709a018789698d165030e98bbd8ba54a2f"), looks := true }, kinds := [], alts := [], laidByText := true, laidKinds := [.data, .data, .data, .data, .data, .sentinel, .sentinel, .data, .pinned], laidTests := true, laidLooks := .later }
def PathKeepsUptoCardSaid : Prop := Claim7.holds Tryz.pinned (.plain (OpenSpec.upto pathKeepsSpec)) pathKeepsUptoCard
end Rows
end Go.Proofs.YtaehaajckndejaaGreatDoor
