/-
  DERIVED. GIVEN WITH THE SEED: THE CARDS: each row of YtgjndmpfofhhmaaDoorRows.lean that lists a variable, with what it lists TIED to the program's text (the seventh form; the later family's looks); each row that meets fmt, with fmt's text TOLD by the authors' own Lean function (tested against real Go, not proved from fmt's source: count such statements apart). THE CARD IS WHAT COUNTS. Prove the row's statement (the work); the ties are given (YtgjndmpfofhhmaaDoorTie.lean); close each card by the builder's one call (the guide's Derived/Test/ToyasCard.lean, 'card_holds'). Laid BY PROGRAM, IN A SANDBOX (cutbox-door.mjs). By AI agents, Wed Nov 11 2026. No macro, syntax, notation, axiom, sorry.
-/
import Derived.Test.YtgjndmpfofhhmaaDoorRows
import GoSem.ClaimSeven
namespace Go.Proofs.YtgjndmpfofhhmaaDoor
namespace Rows

/-- THE TIED CARD OF 'pennantlaw06.UtfChars'. -/
def utfCharsCard : Claim7 := { stood := { row := utfCharsRow, standIns := [], harness := (true, "3147e99d8c6565994b35f8373c239e5c6286ab7c90f05c55c72c32bea8728ea5"), looks := false }, kinds := [], alts := [], laidByText := true, laidKinds := [.data, .pinned], laidTests := true, laidLooks := .later }
def UtfCharsCardSaid : Prop := Claim7.holds Tryd.pinned (.plain (OpenSpec.ofChange utfCharsSpec)) utfCharsCard

/-- THE TIED CARD OF 'pennantlaw06.UtfBack'. -/
def utfBackCard : Claim7 := { stood := { row := utfBackRow, standIns := [], harness := (true, "3147e99d8c6565994b35f8373c239e5c6286ab7c90f05c55c72c32bea8728ea5"), looks := false }, kinds := [], alts := [], laidByText := true, laidKinds := [.data, .pinned], laidTests := true, laidLooks := .later }
def UtfBackCardSaid : Prop := Claim7.holds Tryd.pinned (.plain (OpenSpec.ofChange utfBackSpec)) utfBackCard

/-- THE TIED CARD OF 'pennantlaw06.UtfApart'. -/
def utfApartCard : Claim7 := { stood := { row := utfApartRow, standIns := [], harness := (true, "3147e99d8c6565994b35f8373c239e5c6286ab7c90f05c55c72c32bea8728ea5"), looks := false }, kinds := [], alts := [], laidByText := true, laidKinds := [.data, .pinned], laidTests := true, laidLooks := .later }
def UtfApartCardSaid : Prop := Claim7.holds Tryd.pinned (.plain (OpenSpec.ofChange utfApartSpec)) utfApartCard

/-- THE TIED CARD OF 'pennantlaw06.UtfTexts'. -/
def utfTextsCard : Claim7 := { stood := { row := utfTextsRow, standIns := [], harness := (true, "3147e99d8c6565994b35f8373c239e5c6286ab7c90f05c55c72c32bea8728ea5"), looks := false }, kinds := [], alts := [], laidByText := true, laidKinds := [.data, .pinned], laidTests := true, laidLooks := .later }
def UtfTextsCardSaid : Prop := Claim7.holds Tryd.pinned (.plain (OpenSpec.ofChange utfTextsSpec)) utfTextsCard

/-- THE TIED CARD OF 'pennantlaw06.UtfOnce'. -/
def utfOnceCard : Claim7 := { stood := { row := utfOnceRow, standIns := [], harness := (true, "3147e99d8c6565994b35f8373c239e5c6286ab7c90f05c55c72c32bea8728ea5"), looks := false }, kinds := [], alts := [], laidByText := true, laidKinds := [.data, .pinned], laidTests := true, laidLooks := .later }
def UtfOnceCardSaid : Prop := Claim7.holds Tryd.pinned (.plain (OpenSpec.ofChange utfOnceSpec)) utfOnceCard

/-- THE TIED CARD OF 'pennantlaw06.UtfKnown'. -/
def utfKnownCard : Claim7 := { stood := { row := utfKnownRow, standIns := [], harness := (true, "3147e99d8c6565994b35f8373c239e5c6286ab7c90f05c55c72c32bea8728ea5"), looks := false }, kinds := [], alts := [], laidByText := true, laidKinds := [.data, .pinned], laidTests := true, laidLooks := .later }
def UtfKnownCardSaid : Prop := Claim7.holds Tryd.pinned (.plain (OpenSpec.ofChange utfKnownSpec)) utfKnownCard

/-- THE SECOND FORM's CARD OF 'pennantlaw06.UtfChars'. -/
def utfCharsUptoCard : Claim7 := { stood := { row := utfCharsUptoRow, standIns := [], harness := (true, "3147e99d8c6565994b35f8373c239e5c6286ab7c90f05c55c72c32bea8728ea5"), looks := false }, kinds := [], alts := [], laidByText := true, laidKinds := [.data, .pinned], laidTests := true, laidLooks := .later }
def UtfCharsUptoCardSaid : Prop := Claim7.holds Tryd.pinned (.plain (OpenSpec.upto utfCharsSpec)) utfCharsUptoCard

/-- THE SECOND FORM's CARD OF 'pennantlaw06.UtfBack'. -/
def utfBackUptoCard : Claim7 := { stood := { row := utfBackUptoRow, standIns := [], harness := (true, "3147e99d8c6565994b35f8373c239e5c6286ab7c90f05c55c72c32bea8728ea5"), looks := false }, kinds := [], alts := [], laidByText := true, laidKinds := [.data, .pinned], laidTests := true, laidLooks := .later }
def UtfBackUptoCardSaid : Prop := Claim7.holds Tryd.pinned (.plain (OpenSpec.upto utfBackSpec)) utfBackUptoCard

/-- THE SECOND FORM's CARD OF 'pennantlaw06.UtfApart'. -/
def utfApartUptoCard : Claim7 := { stood := { row := utfApartUptoRow, standIns := [], harness := (true, "3147e99d8c6565994b35f8373c239e5c6286ab7c90f05c55c72c32bea8728ea5"), looks := false }, kinds := [], alts := [], laidByText := true, laidKinds := [.data, .pinned], laidTests := true, laidLooks := .later }
def UtfApartUptoCardSaid : Prop := Claim7.holds Tryd.pinned (.plain (OpenSpec.upto utfApartSpec)) utfApartUptoCard

/-- THE SECOND FORM's CARD OF 'pennantlaw06.UtfTexts'. -/
def utfTextsUptoCard : Claim7 := { stood := { row := utfTextsUptoRow, standIns := [], harness := (true, "3147e99d8c6565994b35f8373c239e5c6286ab7c90f05c55c72c32bea8728ea5"), looks := false }, kinds := [], alts := [], laidByText := true, laidKinds := [.data, .pinned], laidTests := true, laidLooks := .later }
def UtfTextsUptoCardSaid : Prop := Claim7.holds Tryd.pinned (.plain (OpenSpec.upto utfTextsSpec)) utfTextsUptoCard

/-- THE SECOND FORM's CARD OF 'pennantlaw06.UtfOnce'. -/
def utfOnceUptoCard : Claim7 := { stood := { row := utfOnceUptoRow, standIns := [], harness := (true, "3147e99d8c6565994b35f8373c239e5c6286ab7c90f05c55c72c32bea8728ea5"), looks := false }, kinds := [], alts := [], laidByText := true, laidKinds := [.data, .pinned], laidTests := true, laidLooks := .later }
def UtfOnceUptoCardSaid : Prop := Claim7.holds Tryd.pinned (.plain (OpenSpec.upto utfOnceSpec)) utfOnceUptoCard

/-- THE SECOND FORM's CARD OF 'pennantlaw06.UtfKnown'. -/
def utfKnownUptoCard : Claim7 := { stood := { row := utfKnownUptoRow, standIns := [], harness := (true, "3147e99d8c6565994b35f8373c239e5c6286ab7c90f05c55c72c32bea8728ea5"), looks := false }, kinds := [], alts := [], laidByText := true, laidKinds := [.data, .pinned], laidTests := true, laidLooks := .later }
def UtfKnownUptoCardSaid : Prop := Claim7.holds Tryd.pinned (.plain (OpenSpec.upto utfKnownSpec)) utfKnownUptoCard
end Rows
end Go.Proofs.YtgjndmpfofhhmaaDoor
