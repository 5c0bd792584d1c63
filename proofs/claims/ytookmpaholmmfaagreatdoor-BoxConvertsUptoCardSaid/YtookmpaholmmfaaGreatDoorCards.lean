/-
  DERIVED. GIVEN WITH THE SEED: THE CARDS: each row of YtookmpaholmmfaaGreatDoorRows.lean that lists a variable, with what it lists TIED to the program's text (the seventh form; the later family's looks); each row that meets fmt, with fmt's text TOLD by the authors' own Lean function (tested against real Go, not proved from fmt's source: count such statements apart). THE CARD IS WHAT COUNTS. Prove the row's statement (the work); the ties are given (YtookmpaholmmfaaGreatDoorTie.lean); close each card by the builder's one call (the guide's Derived/Test/ToyasCard.lean, 'card_holds'). Laid BY PROGRAM, IN A SANDBOX (cutbox-door.mjs). By AI agents, Wed Nov 11 2026. No macro, syntax, notation, axiom, sorry.
-/
import Derived.Test.YtookmpaholmmfaaGreatDoorRows
import GoSem.ClaimSeven
namespace Go.Proofs.YtookmpaholmmfaaGreatDoor
namespace Rows

/-- THE TIED CARD OF 'pennantlaw11.CoreClosed'. -/
def coreClosedCard : Claim7 := { stood := { row := coreClosedRow, standIns := [], harness := (true, "e5eafd01566d29fd15829b07e7e771bc6d680d34d08dad22901d6dc9f962a7b2"), looks := false }, kinds := [], alts := [], laidByText := true, laidKinds := [.data, .data, .data, .data, .pinned], laidTests := true, laidLooks := .later }
def CoreClosedCardSaid : Prop := Claim7.holds Tryz.pinned (.plain (OpenSpec.ofChange coreClosedSpec)) coreClosedCard

/-- THE TIED CARD OF 'pennantlaw11.CoreSame'. -/
def coreSameCard : Claim7 := { stood := { row := coreSameRow, standIns := [], harness := (true, "e5eafd01566d29fd15829b07e7e771bc6d680d34d08dad22901d6dc9f962a7b2"), looks := false }, kinds := [], alts := [], laidByText := true, laidKinds := [.data, .data, .data, .data, .pinned], laidTests := true, laidLooks := .later }
def CoreSameCardSaid : Prop := Claim7.holds Tryz.pinned (.plain (OpenSpec.ofChange coreSameSpec)) coreSameCard

/-- THE TIED CARD OF 'pennantlaw15.BoxConverts'. -/
def boxConvertsCard : Claim7 := { stood := { row := boxConvertsRow, standIns := [], harness := (true, "e5eafd01566d29fd15829b07e7e771bc6d680d34d08dad22901d6dc9f962a7b2"), looks := false }, kinds := [], alts := [], laidByText := true, laidKinds := [.data, .data, .data, .data, .pinned], laidTests := true, laidLooks := .later }
def BoxConvertsCardSaid : Prop := Claim7.holds Tryz.pinned (.plain (OpenSpec.ofChange boxConvertsSpec)) boxConvertsCard

/-- THE TIED CARD OF 'pennantlaw15.BoxKnown'. -/
def boxKnownCard : Claim7 := { stood := { row := boxKnownRow, standIns := [], harness := (true, "e5eafd01566d29fd15829b07e7e771bc6d680d34d08dad22901d6dc9f962a7b2"), looks := false }, kinds := [], alts := [], laidByText := true, laidKinds := [.data, .data, .data, .data, .pinned], laidTests := true, laidLooks := .later }
def BoxKnownCardSaid : Prop := Claim7.holds Tryz.pinned (.plain (OpenSpec.ofChange boxKnownSpec)) boxKnownCard

/-- THE TIED CARD OF 'pennantlaw15.BoxNone'. -/
def boxNoneCard : Claim7 := { stood := { row := boxNoneRow, standIns := [], harness := (true, "e5eafd01566d29fd15829b07e7e771bc6d680d34d08dad22901d6dc9f962a7b2"), looks := false }, kinds := [], alts := [], laidByText := true, laidKinds := [.data, .data, .data, .data, .pinned], laidTests := true, laidLooks := .later }
def BoxNoneCardSaid : Prop := Claim7.holds Tryz.pinned (.plain (OpenSpec.ofChange boxNoneSpec)) boxNoneCard

/-- THE TIED CARD OF 'pennantlaw11.CoreKnown'. -/
def coreKnownCard : Claim7 := { stood := { row := coreKnownRow, standIns := [], harness := (true, "e5eafd01566d29fd15829b07e7e771bc6d680d34d08dad22901d6dc9f962a7b2"), looks := false }, kinds := [], alts := [], laidByText := true, laidKinds := [.data, .data, .data, .data, .pinned], laidTests := true, laidLooks := .later }
def CoreKnownCardSaid : Prop := Claim7.holds Tryz.pinned (.plain (OpenSpec.ofChange coreKnownSpec)) coreKnownCard

/-- THE SECOND FORM's CARD OF 'pennantlaw11.CoreClosed'. -/
def coreClosedUptoCard : Claim7 := { stood := { row := coreClosedUptoRow, standIns := [], harness := (true, "e5eafd01566d29fd15829b07e7e771bc6d680d34d08dad22901d6dc9f962a7b2"), looks := false }, kinds := [], alts := [], laidByText := true, laidKinds := [.data, .data, .data, .data, .pinned], laidTests := true, laidLooks := .later }
def CoreClosedUptoCardSaid : Prop := Claim7.holds Tryz.pinned (.plain (OpenSpec.upto coreClosedSpec)) coreClosedUptoCard

/-- THE SECOND FORM's CARD OF 'pennantlaw11.CoreSame'. -/
def coreSameUptoCard : Claim7 := { stood := { row := coreSameUptoRow, standIns := [], harness := (true, "e5eafd01566d29fd15829b07e7e771bc6d680d34d08dad22901d6dc9f962a7b2"), looks := false }, kinds := [], alts := [], laidByText := true, laidKinds := [.data, .data, .data, .data, .pinned], laidTests := true, laidLooks := .later }
def CoreSameUptoCardSaid : Prop := Claim7.holds Tryz.pinned (.plain (OpenSpec.upto coreSameSpec)) coreSameUptoCard

/-- THE SECOND FORM's CARD OF 'pennantlaw15.BoxConverts'. -/
def boxConvertsUptoCard : Claim7 := { stood := { row := boxConvertsUptoRow, standIns := [], harness := (true, "e5eafd01566d29fd15829b07e7e771bc6d680d34d08dad22901d6dc9f962a7b2"), looks := false }, kinds := [], alts := [], laidByText := true, laidKinds := [.data, .data, .data, .data, .pinned], laidTests := true, laidLooks := .later }
def BoxConvertsUptoCardSaid : Prop := Claim7.holds Tryz.pinned (.plain (OpenSpec.upto boxConvertsSpec)) boxConvertsUptoCard

/-- THE SECOND FORM's CARD OF 'pennantlaw15.BoxKnown'. -/
def boxKnownUptoCard : Claim7 := { stood := { row := boxKnownUptoRow, standIns := [], harness := (true, "e5eafd01566d29fd15829b07e7e771bc6d680d34d08dad22901d6dc9f962a7b2"), looks := false }, kinds := [], alts := [], laidByText := true, laidKinds := [.data, .data, .data, .data, .pinned], laidTests := true, laidLooks := .later }
def BoxKnownUptoCardSaid : Prop := Claim7.holds Tryz.pinned (.plain (OpenSpec.upto boxKnownSpec)) boxKnownUptoCard

/-- THE SECOND FORM's CARD OF 'pennantlaw15.BoxNone'. -/
def boxNoneUptoCard : Claim7 := { stood := { row := boxNoneUptoRow, standIns := [], harness := (true, "e5eafd01566d29fd15829b07e7e771bc6d680d34d08dad22901d6dc9f962a7b2"), looks := false }, kinds := [], alts := [], laidByText := true, laidKinds := [.data, .data, .data, .data, .pinned], laidTests := true, laidLooks := .later }
def BoxNoneUptoCardSaid : Prop := Claim7.holds Tryz.pinned (.plain (OpenSpec.upto boxNoneSpec)) boxNoneUptoCard

/-- THE SECOND FORM's CARD OF 'pennantlaw11.CoreKnown'. -/
def coreKnownUptoCard : Claim7 := { stood := { row := coreKnownUptoRow, standIns := [], harness := (true, "e5eafd01566d29fd15829b07e7e771bc6d680d34d08dad22901d6dc9f962a7b2"), looks := false }, kinds := [], alts := [], laidByText := true, laidKinds := [.data, .data, .data, .data, .pinned], laidTests := true, laidLooks := .later }
def CoreKnownUptoCardSaid : Prop := Claim7.holds Tryz.pinned (.plain (OpenSpec.upto coreKnownSpec)) coreKnownUptoCard
end Rows
end Go.Proofs.YtookmpaholmmfaaGreatDoor
