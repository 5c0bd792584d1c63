/-
  DERIVED. GIVEN WITH THE SEED: THE CARDS: each row of YtjbpbohpmfpoiaaGreatDoorRows.lean that lists a variable, with what it lists TIED to the program's text (the seventh form; the later family's looks); each row that meets fmt, with fmt's text TOLD by the authors' own Lean function (tested against real Go, not proved from fmt's source: count such statements apart). THE CARD IS WHAT COUNTS. Prove the row's statement (the work); the ties are given (YtjbpbohpmfpoiaaGreatDoorTie.lean); close each card by the builder's one call (the guide's Derived/Test/ToyasCard.lean, 'card_holds'). Laid BY PROGRAM, IN A SANDBOX (cutbox-door.mjs). By AI agents, Wed Nov 11 2026. No macro, syntax, notation, axiom, sorry.
-/
import Derived.Test.YtjbpbohpmfpoiaaGreatDoorRows
import GoSem.ClaimSeven
namespace Go.Proofs.YtjbpbohpmfpoiaaGreatDoor
namespace Rows

/-- THE TIED CARD OF 'pennantlaw29.DataLays'. -/
def dataLaysCard : Claim7 := { stood := { row := dataLaysRow, standIns := [], harness := (true, "4970606838ef2064c96d97ba059b22e50ae0dd821b5a44d11e16747c167de07d"), looks := false }, kinds := [], alts := [], laidByText := true, laidKinds := [.data, .pinned], laidTests := true, laidLooks := .later }
def DataLaysCardSaid : Prop := Claim7.holds Tryz.pinned (.plain (OpenSpec.ofChange dataLaysSpec)) dataLaysCard

/-- THE TIED CARD OF 'pennantlaw29.DataFills'. -/
def dataFillsCard : Claim7 := { stood := { row := dataFillsRow, standIns := [], harness := (true, "4970606838ef2064c96d97ba059b22e50ae0dd821b5a44d11e16747c167de07d"), looks := false }, kinds := [], alts := [], laidByText := true, laidKinds := [.data, .data, .data, .data, .pinned], laidTests := true, laidLooks := .later }
def DataFillsCardSaid : Prop := Claim7.holds Tryz.pinned (.plain (OpenSpec.ofChange dataFillsSpec)) dataFillsCard

/-- THE TIED CARD OF 'pennantlaw29.DataKnown'. -/
def dataKnownCard : Claim7 := { stood := { row := dataKnownRow, standIns := [], harness := (true, "4970606838ef2064c96d97ba059b22e50ae0dd821b5a44d11e16747c167de07d"), looks := false }, kinds := [], alts := [], laidByText := true, laidKinds := [.data, .data, .data, .data, .pinned], laidTests := true, laidLooks := .later }
def DataKnownCardSaid : Prop := Claim7.holds Tryz.pinned (.plain (OpenSpec.ofChange dataKnownSpec)) dataKnownCard

/-- THE SECOND FORM's CARD OF 'pennantlaw29.DataLays'. -/
def dataLaysUptoCard : Claim7 := { stood := { row := dataLaysUptoRow, standIns := [], harness := (true, "4970606838ef2064c96d97ba059b22e50ae0dd821b5a44d11e16747c167de07d"), looks := false }, kinds := [], alts := [], laidByText := true, laidKinds := [.data, .pinned], laidTests := true, laidLooks := .later }
def DataLaysUptoCardSaid : Prop := Claim7.holds Tryz.pinned (.plain (OpenSpec.upto dataLaysSpec)) dataLaysUptoCard

/-- THE SECOND FORM's CARD OF 'pennantlaw29.DataFills'. -/
def dataFillsUptoCard : Claim7 := { stood := { row := dataFillsUptoRow, standIns := [], harness := (true, "4970606838ef2064c96d97ba059b22e50ae0dd821b5a44d11e16747c167de07d"), looks := false }, kinds := [], alts := [], laidByText := true, laidKinds := [.data, .data, .data, .data, .pinned], laidTests := true, laidLooks := .later }
def DataFillsUptoCardSaid : Prop := Claim7.holds Tryz.pinned (.plain (OpenSpec.upto dataFillsSpec)) dataFillsUptoCard

/-- THE SECOND FORM's CARD OF 'pennantlaw29.DataKnown'. -/
def dataKnownUptoCard : Claim7 := { stood := { row := dataKnownUptoRow, standIns := [], harness := (true, "4970606838ef2064c96d97ba059b22e50ae0dd821b5a44d11e16747c167de07d"), looks := false }, kinds := [], alts := [], laidByText := true, laidKinds := [.data, .data, .data, .data, .pinned], laidTests := true, laidLooks := .later }
def DataKnownUptoCardSaid : Prop := Claim7.holds Tryz.pinned (.plain (OpenSpec.upto dataKnownSpec)) dataKnownUptoCard
end Rows
end Go.Proofs.YtjbpbohpmfpoiaaGreatDoor
