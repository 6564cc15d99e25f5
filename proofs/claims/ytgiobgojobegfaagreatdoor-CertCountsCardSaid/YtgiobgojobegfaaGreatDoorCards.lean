/-
  DERIVED. GIVEN WITH THE SEED: THE CARDS: each row of YtgiobgojobegfaaGreatDoorRows.lean that lists a variable, with what it lists TIED to the program's text (the seventh form; the later family's looks); each row that meets fmt, with fmt's text TOLD by the authors' own Lean function (tested against real Go, not proved from fmt's source: count such statements apart). THE CARD IS WHAT COUNTS. Prove the row's statement (the work); the ties are given (YtgiobgojobegfaaGreatDoorTie.lean); close each card by the builder's one call (the guide's Derived/Test/ToyasCard.lean, 'card_holds'). Laid BY PROGRAM, IN A SANDBOX (cutbox-door.mjs). By AI agents, Wed Nov 11 2026. No macro, syntax, notation, axiom, sorry.
-/
import Derived.Test.YtgiobgojobegfaaGreatDoorRows
import GoSem.ClaimSeven
namespace Go.Proofs.YtgiobgojobegfaaGreatDoor
namespace Rows

/-- THE TIED CARD OF 'chancerylaw11.CertOne'. -/
def certOneCard : Claim7 := { stood := { row := certOneRow, standIns := [], harness := (true, "288e99660efaca7bdf3a2b3a17c3a7ec6b546f8ee95915e38b203e5db1040c38"), looks := true }, kinds := [], alts := [], laidByText := true, laidKinds := [.data, .data, .data, .data, .sentinel, .sentinel, .pinned], laidTests := true, laidLooks := .later }
def CertOneCardSaid : Prop := Claim7.holds Tryz.pinned (.plain (OpenSpec.ofChange certOneSpec)) certOneCard

/-- THE TIED CARD OF 'chancerylaw11.CertReads'. -/
def certReadsCard : Claim7 := { stood := { row := certReadsRow, standIns := [], harness := (true, "288e99660efaca7bdf3a2b3a17c3a7ec6b546f8ee95915e38b203e5db1040c38"), looks := true }, kinds := [], alts := [], laidByText := true, laidKinds := [.data, .data, .data, .data, .sentinel, .sentinel, .pinned], laidTests := true, laidLooks := .later }
def CertReadsCardSaid : Prop := Claim7.holds Tryz.pinned (.plain (OpenSpec.ofChange certReadsSpec)) certReadsCard

/-- THE TIED CARD OF 'chancerylaw11.CertUsages'. -/
def certUsagesCard : Claim7 := { stood := { row := certUsagesRow, standIns := [], harness := (true, "288e99660efaca7bdf3a2b3a17c3a7ec6b546f8ee95915e38b203e5db1040c38"), looks := true }, kinds := [], alts := [], laidByText := true, laidKinds := [.data, .data, .data, .data, .sentinel, .sentinel, .pinned], laidTests := true, laidLooks := .later }
def CertUsagesCardSaid : Prop := Claim7.holds Tryz.pinned (.plain (OpenSpec.ofChange certUsagesSpec)) certUsagesCard

/-- THE TIED CARD OF 'chancerylaw11.CertBack'. -/
def certBackCard : Claim7 := { stood := { row := certBackRow, standIns := [], harness := (true, "288e99660efaca7bdf3a2b3a17c3a7ec6b546f8ee95915e38b203e5db1040c38"), looks := true }, kinds := [], alts := [], laidByText := true, laidKinds := [.data, .data, .data, .data, .sentinel, .sentinel, .pinned], laidTests := true, laidLooks := .later }
def CertBackCardSaid : Prop := Claim7.holds Tryz.pinned (.plain (OpenSpec.ofChange certBackSpec)) certBackCard

/-- THE TIED CARD OF 'chancerylaw11.CertCounts'. -/
def certCountsCard : Claim7 := { stood := { row := certCountsRow, standIns := [], harness := (true, "288e99660efaca7bdf3a2b3a17c3a7ec6b546f8ee95915e38b203e5db1040c38"), looks := true }, kinds := [], alts := [], laidByText := true, laidKinds := [.data, .data, .data, .data, .sentinel, .sentinel, .pinned], laidTests := true, laidLooks := .later }
def CertCountsCardSaid : Prop := Claim7.holds Tryz.pinned (.plain (OpenSpec.ofChange certCountsSpec)) certCountsCard

/-- THE TIED CARD OF 'chancerylaw11.CertKinds'. -/
def certKindsCard : Claim7 := { stood := { row := certKindsRow, standIns := [], harness := (true, "288e99660efaca7bdf3a2b3a17c3a7ec6b546f8ee95915e38b203e5db1040c38"), looks := true }, kinds := [], alts := [], laidByText := true, laidKinds := [.data, .data, .data, .data, .sentinel, .sentinel, .pinned], laidTests := true, laidLooks := .later }
def CertKindsCardSaid : Prop := Claim7.holds Tryz.pinned (.plain (OpenSpec.ofChange certKindsSpec)) certKindsCard

/-- THE SECOND FORM's CARD OF 'chancerylaw11.CertOne'. -/
def certOneUptoCard : Claim7 := { stood := { row := certOneUptoRow, standIns := [], harness := (true, "288e99660efaca7bdf3a2b3a17c3a7ec6b546f8ee95915e38b203e5db1040c38"), looks := true }, kinds := [], alts := [], laidByText := true, laidKinds := [.data, .data, .data, .data, .sentinel, .sentinel, .pinned], laidTests := true, laidLooks := .later }
def CertOneUptoCardSaid : Prop := Claim7.holds Tryz.pinned (.plain (OpenSpec.upto certOneSpec)) certOneUptoCard

/-- THE SECOND FORM's CARD OF 'chancerylaw11.CertReads'. -/
def certReadsUptoCard : Claim7 := { stood := { row := certReadsUptoRow, standIns := [], harness := (true, "288e99660efaca7bdf3a2b3a17c3a7ec6b546f8ee95915e38b203e5db1040c38"), looks := true }, kinds := [], alts := [], laidByText := true, laidKinds := [.data, .data, .data, .data, .sentinel, .sentinel, .pinned], laidTests := true, laidLooks := .later }
def CertReadsUptoCardSaid : Prop := Claim7.holds Tryz.pinned (.plain (OpenSpec.upto certReadsSpec)) certReadsUptoCard

/-- THE SECOND FORM's CARD OF 'chancerylaw11.CertUsages'. -/
def certUsagesUptoCard : Claim7 := { stood := { row := certUsagesUptoRow, standIns := [], harness := (true, "288e99660efaca7bdf3a2b3a17c3a7ec6b546f8ee95915e38b203e5db1040c38"), looks := true }, kinds := [], alts := [], laidByText := true, laidKinds := [.data, .data, .data, .data, .sentinel, .sentinel, .pinned], laidTests := true, laidLooks := .later }
def CertUsagesUptoCardSaid : Prop := Claim7.holds Tryz.pinned (.plain (OpenSpec.upto certUsagesSpec)) certUsagesUptoCard

/-- THE SECOND FORM's CARD OF 'chancerylaw11.CertBack'. -/
def certBackUptoCard : Claim7 := { stood := { row := certBackUptoRow, standIns := [], harness := (true, "288e99660efaca7bdf3a2b3a17c3a7ec6b546f8ee95915e38b203e5db1040c38"), looks := true }, kinds := [], alts := [], laidByText := true, laidKinds := [.data, .data, .data, .data, .sentinel, .sentinel, .pinned], laidTests := true, laidLooks := .later }
def CertBackUptoCardSaid : Prop := Claim7.holds Tryz.pinned (.plain (OpenSpec.upto certBackSpec)) certBackUptoCard

/-- THE SECOND FORM's CARD OF 'chancerylaw11.CertCounts'. -/
def certCountsUptoCard : Claim7 := { stood := { row := certCountsUptoRow, standIns := [], harness := (true, "288e99660efaca7bdf3a2b3a17c3a7ec6b546f8ee95915e38b203e5db1040c38"), looks := true }, kinds := [], alts := [], laidByText := true, laidKinds := [.data, .data, .data, .data, .sentinel, .sentinel, .pinned], laidTests := true, laidLooks := .later }
def CertCountsUptoCardSaid : Prop := Claim7.holds Tryz.pinned (.plain (OpenSpec.upto certCountsSpec)) certCountsUptoCard

/-- THE SECOND FORM's CARD OF 'chancerylaw11.CertKinds'. -/
def certKindsUptoCard : Claim7 := { stood := { row := certKindsUptoRow, standIns := [], harness := (true, "288e99660efaca7bdf3a2b3a17c3a7ec6b546f8ee95915e38b203e5db1040c38"), looks := true }, kinds := [], alts := [], laidByText := true, laidKinds := [.data, .data, .data, .data, .sentinel, .sentinel, .pinned], laidTests := true, laidLooks := .later }
def CertKindsUptoCardSaid : Prop := Claim7.holds Tryz.pinned (.plain (OpenSpec.upto certKindsSpec)) certKindsUptoCard
end Rows
end Go.Proofs.YtgiobgojobegfaaGreatDoor
