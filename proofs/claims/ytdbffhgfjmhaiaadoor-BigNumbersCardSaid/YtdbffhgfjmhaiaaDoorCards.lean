/-
  DERIVED. GIVEN WITH THE SEED: THE CARDS: each row of YtdbffhgfjmhaiaaDoorRows.lean that lists a variable, with what it lists TIED to the program's text (the seventh form; the later family's looks); each row that meets fmt, with fmt's text TOLD by the authors' own Lean function (tested against real Go, not proved from fmt's source: count such statements apart). THE CARD IS WHAT COUNTS. Prove the row's statement (the work); the ties are given (YtdbffhgfjmhaiaaDoorTie.lean); close each card by the builder's one call (the guide's Derived/Test/ToyasCard.lean, 'card_holds'). Laid BY PROGRAM, IN A SANDBOX (cutbox-door.mjs). By AI agents, Wed Nov 11 2026. No macro, syntax, notation, axiom, sorry.
-/
import Derived.Test.YtdbffhgfjmhaiaaDoorRows
import GoSem.ClaimSeven
namespace Go.Proofs.YtdbffhgfjmhaiaaDoor
namespace Rows

/-- THE TIED CARD OF 'pennantlaw05.BigParses'. -/
def bigParsesCard : Claim7 := { stood := { row := bigParsesRow, standIns := [], harness := (true, "e4704ac37f49c5b94e55dc52d01ea83e42f7a11aa3c016a70b374713f37db489"), looks := false }, kinds := [], alts := [], laidByText := true, laidKinds := [.data, .data, .data, .data, .pinned], laidTests := true, laidLooks := .later }
def BigParsesCardSaid : Prop := Claim7.holds Tryd.pinned (.plain (OpenSpec.ofChange bigParsesSpec)) bigParsesCard

/-- THE TIED CARD OF 'pennantlaw05.BigTexts'. -/
def bigTextsCard : Claim7 := { stood := { row := bigTextsRow, standIns := [], harness := (true, "e4704ac37f49c5b94e55dc52d01ea83e42f7a11aa3c016a70b374713f37db489"), looks := false }, kinds := [], alts := [], laidByText := true, laidKinds := [.data, .data, .data, .data, .pinned], laidTests := true, laidLooks := .later }
def BigTextsCardSaid : Prop := Claim7.holds Tryd.pinned (.plain (OpenSpec.ofChange bigTextsSpec)) bigTextsCard

/-- THE TIED CARD OF 'pennantlaw05.BigNumbers'. -/
def bigNumbersCard : Claim7 := { stood := { row := bigNumbersRow, standIns := [], harness := (true, "e4704ac37f49c5b94e55dc52d01ea83e42f7a11aa3c016a70b374713f37db489"), looks := false }, kinds := [], alts := [], laidByText := true, laidKinds := [.data, .data, .data, .data, .pinned], laidTests := true, laidLooks := .later }
def BigNumbersCardSaid : Prop := Claim7.holds Tryd.pinned (.plain (OpenSpec.ofChange bigNumbersSpec)) bigNumbersCard

/-- THE TIED CARD OF 'pennantlaw05.BigSums'. -/
def bigSumsCard : Claim7 := { stood := { row := bigSumsRow, standIns := [], harness := (true, "e4704ac37f49c5b94e55dc52d01ea83e42f7a11aa3c016a70b374713f37db489"), looks := false }, kinds := [], alts := [], laidByText := true, laidKinds := [.data, .data, .data, .data, .pinned], laidTests := true, laidLooks := .later }
def BigSumsCardSaid : Prop := Claim7.holds Tryd.pinned (.plain (OpenSpec.ofChange bigSumsSpec)) bigSumsCard

/-- THE TIED CARD OF 'pennantlaw05.BigRing'. -/
def bigRingCard : Claim7 := { stood := { row := bigRingRow, standIns := [], harness := (true, "e4704ac37f49c5b94e55dc52d01ea83e42f7a11aa3c016a70b374713f37db489"), looks := false }, kinds := [], alts := [], laidByText := true, laidKinds := [.data, .data, .data, .data, .pinned], laidTests := true, laidLooks := .later }
def BigRingCardSaid : Prop := Claim7.holds Tryd.pinned (.plain (OpenSpec.ofChange bigRingSpec)) bigRingCard

/-- THE TIED CARD OF 'pennantlaw05.BigQuos'. -/
def bigQuosCard : Claim7 := { stood := { row := bigQuosRow, standIns := [], harness := (true, "e4704ac37f49c5b94e55dc52d01ea83e42f7a11aa3c016a70b374713f37db489"), looks := false }, kinds := [], alts := [], laidByText := true, laidKinds := [.data, .data, .data, .data, .pinned], laidTests := true, laidLooks := .later }
def BigQuosCardSaid : Prop := Claim7.holds Tryd.pinned (.plain (OpenSpec.ofChange bigQuosSpec)) bigQuosCard

/-- THE TIED CARD OF 'pennantlaw05.BigDivides'. -/
def bigDividesCard : Claim7 := { stood := { row := bigDividesRow, standIns := [], harness := (true, "e4704ac37f49c5b94e55dc52d01ea83e42f7a11aa3c016a70b374713f37db489"), looks := false }, kinds := [], alts := [], laidByText := true, laidKinds := [.data, .data, .data, .data, .pinned], laidTests := true, laidLooks := .later }
def BigDividesCardSaid : Prop := Claim7.holds Tryd.pinned (.plain (OpenSpec.ofChange bigDividesSpec)) bigDividesCard

/-- THE TIED CARD OF 'pennantlaw05.BigKnown'. -/
def bigKnownCard : Claim7 := { stood := { row := bigKnownRow, standIns := [], harness := (true, "e4704ac37f49c5b94e55dc52d01ea83e42f7a11aa3c016a70b374713f37db489"), looks := false }, kinds := [], alts := [], laidByText := true, laidKinds := [.data, .data, .data, .data, .pinned], laidTests := true, laidLooks := .later }
def BigKnownCardSaid : Prop := Claim7.holds Tryd.pinned (.plain (OpenSpec.ofChange bigKnownSpec)) bigKnownCard

/-- THE SECOND FORM's CARD OF 'pennantlaw05.BigParses'. -/
def bigParsesUptoCard : Claim7 := { stood := { row := bigParsesUptoRow, standIns := [], harness := (true, "e4704ac37f49c5b94e55dc52d01ea83e42f7a11aa3c016a70b374713f37db489"), looks := false }, kinds := [], alts := [], laidByText := true, laidKinds := [.data, .data, .data, .data, .pinned], laidTests := true, laidLooks := .later }
def BigParsesUptoCardSaid : Prop := Claim7.holds Tryd.pinned (.plain (OpenSpec.upto bigParsesSpec)) bigParsesUptoCard

/-- THE SECOND FORM's CARD OF 'pennantlaw05.BigTexts'. -/
def bigTextsUptoCard : Claim7 := { stood := { row := bigTextsUptoRow, standIns := [], harness := (true, "e4704ac37f49c5b94e55dc52d01ea83e42f7a11aa3c016a70b374713f37db489"), looks := false }, kinds := [], alts := [], laidByText := true, laidKinds := [.data, .data, .data, .data, .pinned], laidTests := true, laidLooks := .later }
def BigTextsUptoCardSaid : Prop := Claim7.holds Tryd.pinned (.plain (OpenSpec.upto bigTextsSpec)) bigTextsUptoCard

/-- THE SECOND FORM's CARD OF 'pennantlaw05.BigNumbers'. -/
def bigNumbersUptoCard : Claim7 := { stood := { row := bigNumbersUptoRow, standIns := [], harness := (true, "e4704ac37f49c5b94e55dc52d01ea83e42f7a11aa3c016a70b374713f37db489"), looks := false }, kinds := [], alts := [], laidByText := true, laidKinds := [.data, .data, .data, .data, .pinned], laidTests := true, laidLooks := .later }
def BigNumbersUptoCardSaid : Prop := Claim7.holds Tryd.pinned (.plain (OpenSpec.upto bigNumbersSpec)) bigNumbersUptoCard

/-- THE SECOND FORM's CARD OF 'pennantlaw05.BigSums'. -/
def bigSumsUptoCard : Claim7 := { stood := { row := bigSumsUptoRow, standIns := [], harness := (true, "e4704ac37f49c5b94e55dc52d01ea83e42f7a11aa3c016a70b374713f37db489"), looks := false }, kinds := [], alts := [], laidByText := true, laidKinds := [.data, .data, .data, .data, .pinned], laidTests := true, laidLooks := .later }
def BigSumsUptoCardSaid : Prop := Claim7.holds Tryd.pinned (.plain (OpenSpec.upto bigSumsSpec)) bigSumsUptoCard

/-- THE SECOND FORM's CARD OF 'pennantlaw05.BigRing'. -/
def bigRingUptoCard : Claim7 := { stood := { row := bigRingUptoRow, standIns := [], harness := (true, "e4704ac37f49c5b94e55dc52d01ea83e42f7a11aa3c016a70b374713f37db489"), looks := false }, kinds := [], alts := [], laidByText := true, laidKinds := [.data, .data, .data, .data, .pinned], laidTests := true, laidLooks := .later }
def BigRingUptoCardSaid : Prop := Claim7.holds Tryd.pinned (.plain (OpenSpec.upto bigRingSpec)) bigRingUptoCard

/-- THE SECOND FORM's CARD OF 'pennantlaw05.BigQuos'. -/
def bigQuosUptoCard : Claim7 := { stood := { row := bigQuosUptoRow, standIns := [], harness := (true, "e4704ac37f49c5b94e55dc52d01ea83e42f7a11aa3c016a70b374713f37db489"), looks := false }, kinds := [], alts := [], laidByText := true, laidKinds := [.data, .data, .data, .data, .pinned], laidTests := true, laidLooks := .later }
def BigQuosUptoCardSaid : Prop := Claim7.holds Tryd.pinned (.plain (OpenSpec.upto bigQuosSpec)) bigQuosUptoCard

/-- THE SECOND FORM's CARD OF 'pennantlaw05.BigDivides'. -/
def bigDividesUptoCard : Claim7 := { stood := { row := bigDividesUptoRow, standIns := [], harness := (true, "e4704ac37f49c5b94e55dc52d01ea83e42f7a11aa3c016a70b374713f37db489"), looks := false }, kinds := [], alts := [], laidByText := true, laidKinds := [.data, .data, .data, .data, .pinned], laidTests := true, laidLooks := .later }
def BigDividesUptoCardSaid : Prop := Claim7.holds Tryd.pinned (.plain (OpenSpec.upto bigDividesSpec)) bigDividesUptoCard

/-- THE SECOND FORM's CARD OF 'pennantlaw05.BigKnown'. -/
def bigKnownUptoCard : Claim7 := { stood := { row := bigKnownUptoRow, standIns := [], harness := (true, "e4704ac37f49c5b94e55dc52d01ea83e42f7a11aa3c016a70b374713f37db489"), looks := false }, kinds := [], alts := [], laidByText := true, laidKinds := [.data, .data, .data, .data, .pinned], laidTests := true, laidLooks := .later }
def BigKnownUptoCardSaid : Prop := Claim7.holds Tryd.pinned (.plain (OpenSpec.upto bigKnownSpec)) bigKnownUptoCard
end Rows
end Go.Proofs.YtdbffhgfjmhaiaaDoor
