/-
  DERIVED. GIVEN WITH THE SEED: THE CARDS: each row of YtageemgcnoblnaaDoorRows.lean that lists a variable, with what it lists TIED to the program's text (the seventh form; the later family's looks); each row that meets fmt, with fmt's text TOLD by the authors' own Lean function (tested against real Go, not proved from fmt's source: count such statements apart). THE CARD IS WHAT COUNTS. Prove the row's statement (the work); the ties are given (YtageemgcnoblnaaDoorTie.lean); close each card by the builder's one call (the guide's Derived/Test/ToyasCard.lean, 'card_holds'). Laid BY PROGRAM, IN A SANDBOX (cutbox-door.mjs). By AI agents, Wed Nov 11 2026. No macro, syntax, notation, axiom, sorry.
-/
import Derived.Test.YtageemgcnoblnaaDoorRows
import GoSem.ClaimSeven
namespace Go.Proofs.YtageemgcnoblnaaDoor
namespace Rows

/-- THE TIED CARD OF 'pennantlaw16.CpsConverts'. -/
def cpsConvertsCard : Claim7 := { stood := { row := cpsConvertsRow, standIns := [], harness := (true, "ff8c4e89e93d70bd0855bacb9ebdac42d33cb8d20347f4f0b23879833d55edf3"), looks := false }, kinds := [], alts := [], laidByText := true, laidKinds := [.data, .pinned], laidTests := true, laidLooks := .later }
def CpsConvertsCardSaid : Prop := Claim7.holds Tryd.pinned (.plain (OpenSpec.ofChange cpsConvertsSpec)) cpsConvertsCard

/-- THE TIED CARD OF 'pennantlaw16.CpsLambdas'. -/
def cpsLambdasCard : Claim7 := { stood := { row := cpsLambdasRow, standIns := [], harness := (true, "ff8c4e89e93d70bd0855bacb9ebdac42d33cb8d20347f4f0b23879833d55edf3"), looks := false }, kinds := [], alts := [], laidByText := true, laidKinds := [.data, .pinned], laidTests := true, laidLooks := .later }
def CpsLambdasCardSaid : Prop := Claim7.holds Tryd.pinned (.plain (OpenSpec.ofChange cpsLambdasSpec)) cpsLambdasCard

/-- THE TIED CARD OF 'pennantlaw16.CpsKnown'. -/
def cpsKnownCard : Claim7 := { stood := { row := cpsKnownRow, standIns := [], harness := (true, "ff8c4e89e93d70bd0855bacb9ebdac42d33cb8d20347f4f0b23879833d55edf3"), looks := false }, kinds := [], alts := [], laidByText := true, laidKinds := [.data, .pinned], laidTests := true, laidLooks := .later }
def CpsKnownCardSaid : Prop := Claim7.holds Tryd.pinned (.plain (OpenSpec.ofChange cpsKnownSpec)) cpsKnownCard

/-- THE TIED CARD OF 'pennantlaw16.CpsRight'. -/
def cpsRightCard : Claim7 := { stood := { row := cpsRightRow, standIns := [], harness := (true, "ff8c4e89e93d70bd0855bacb9ebdac42d33cb8d20347f4f0b23879833d55edf3"), looks := false }, kinds := [], alts := [], laidByText := true, laidKinds := [.data, .pinned], laidTests := true, laidLooks := .later }
def CpsRightCardSaid : Prop := Claim7.holds Tryd.pinned (.plain (OpenSpec.ofChange cpsRightSpec)) cpsRightCard

/-- THE SECOND FORM's CARD OF 'pennantlaw16.CpsConverts'. -/
def cpsConvertsUptoCard : Claim7 := { stood := { row := cpsConvertsUptoRow, standIns := [], harness := (true, "ff8c4e89e93d70bd0855bacb9ebdac42d33cb8d20347f4f0b23879833d55edf3"), looks := false }, kinds := [], alts := [], laidByText := true, laidKinds := [.data, .pinned], laidTests := true, laidLooks := .later }
def CpsConvertsUptoCardSaid : Prop := Claim7.holds Tryd.pinned (.plain (OpenSpec.upto cpsConvertsSpec)) cpsConvertsUptoCard

/-- THE SECOND FORM's CARD OF 'pennantlaw16.CpsLambdas'. -/
def cpsLambdasUptoCard : Claim7 := { stood := { row := cpsLambdasUptoRow, standIns := [], harness := (true, "ff8c4e89e93d70bd0855bacb9ebdac42d33cb8d20347f4f0b23879833d55edf3"), looks := false }, kinds := [], alts := [], laidByText := true, laidKinds := [.data, .pinned], laidTests := true, laidLooks := .later }
def CpsLambdasUptoCardSaid : Prop := Claim7.holds Tryd.pinned (.plain (OpenSpec.upto cpsLambdasSpec)) cpsLambdasUptoCard

/-- THE SECOND FORM's CARD OF 'pennantlaw16.CpsKnown'. -/
def cpsKnownUptoCard : Claim7 := { stood := { row := cpsKnownUptoRow, standIns := [], harness := (true, "ff8c4e89e93d70bd0855bacb9ebdac42d33cb8d20347f4f0b23879833d55edf3"), looks := false }, kinds := [], alts := [], laidByText := true, laidKinds := [.data, .pinned], laidTests := true, laidLooks := .later }
def CpsKnownUptoCardSaid : Prop := Claim7.holds Tryd.pinned (.plain (OpenSpec.upto cpsKnownSpec)) cpsKnownUptoCard

/-- THE SECOND FORM's CARD OF 'pennantlaw16.CpsRight'. -/
def cpsRightUptoCard : Claim7 := { stood := { row := cpsRightUptoRow, standIns := [], harness := (true, "ff8c4e89e93d70bd0855bacb9ebdac42d33cb8d20347f4f0b23879833d55edf3"), looks := false }, kinds := [], alts := [], laidByText := true, laidKinds := [.data, .pinned], laidTests := true, laidLooks := .later }
def CpsRightUptoCardSaid : Prop := Claim7.holds Tryd.pinned (.plain (OpenSpec.upto cpsRightSpec)) cpsRightUptoCard
end Rows
end Go.Proofs.YtageemgcnoblnaaDoor
