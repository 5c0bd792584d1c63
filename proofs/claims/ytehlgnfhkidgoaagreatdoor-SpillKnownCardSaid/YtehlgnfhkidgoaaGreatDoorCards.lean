/-
  DERIVED. GIVEN WITH THE SEED: THE CARDS: each row of YtehlgnfhkidgoaaGreatDoorRows.lean that lists a variable, with what it lists TIED to the program's text (the seventh form; the later family's looks); each row that meets fmt, with fmt's text TOLD by the authors' own Lean function (tested against real Go, not proved from fmt's source: count such statements apart). THE CARD IS WHAT COUNTS. Prove the row's statement (the work); the ties are given (YtehlgnfhkidgoaaGreatDoorTie.lean); close each card by the builder's one call (the guide's Derived/Test/ToyasCard.lean, 'card_holds'). Laid BY PROGRAM, IN A SANDBOX (cutbox-door.mjs). By AI agents, Wed Nov 11 2026. No macro, syntax, notation, axiom, sorry.
-/
import Derived.Test.YtehlgnfhkidgoaaGreatDoorRows
import GoSem.ClaimSeven
namespace Go.Proofs.YtehlgnfhkidgoaaGreatDoor
namespace Rows

/-- THE TIED CARD OF 'pennantlaw23.SpillKnown'. -/
def spillKnownCard : Claim7 := { stood := { row := spillKnownRow, standIns := [], harness := (true, "6bdd66170db0510b065e6451c48c55776cf4c1b39e26139e29405cb7119fa2a7"), looks := false }, kinds := [], alts := [], laidByText := true, laidKinds := [.data], laidTests := true, laidLooks := .later }
def SpillKnownCardSaid : Prop := Claim7.holds Tryz.pinned (.plain (OpenSpec.ofChange spillKnownSpec)) spillKnownCard

/-- THE TIED CARD OF 'pennantlaw23.SpillMaps'. -/
def spillMapsCard : Claim7 := { stood := { row := spillMapsRow, standIns := [], harness := (true, "6bdd66170db0510b065e6451c48c55776cf4c1b39e26139e29405cb7119fa2a7"), looks := false }, kinds := [], alts := [], laidByText := true, laidKinds := [.data], laidTests := true, laidLooks := .later }
def SpillMapsCardSaid : Prop := Claim7.holds Tryz.pinned (.plain (OpenSpec.ofChange spillMapsSpec)) spillMapsCard

/-- THE SECOND FORM's CARD OF 'pennantlaw23.SpillKnown'. -/
def spillKnownUptoCard : Claim7 := { stood := { row := spillKnownUptoRow, standIns := [], harness := (true, "6bdd66170db0510b065e6451c48c55776cf4c1b39e26139e29405cb7119fa2a7"), looks := false }, kinds := [], alts := [], laidByText := true, laidKinds := [.data], laidTests := true, laidLooks := .later }
def SpillKnownUptoCardSaid : Prop := Claim7.holds Tryz.pinned (.plain (OpenSpec.upto spillKnownSpec)) spillKnownUptoCard

/-- THE SECOND FORM's CARD OF 'pennantlaw23.SpillMaps'. -/
def spillMapsUptoCard : Claim7 := { stood := { row := spillMapsUptoRow, standIns := [], harness := (true, "6bdd66170db0510b065e6451c48c55776cf4c1b39e26139e29405cb7119fa2a7"), looks := false }, kinds := [], alts := [], laidByText := true, laidKinds := [.data], laidTests := true, laidLooks := .later }
def SpillMapsUptoCardSaid : Prop := Claim7.holds Tryz.pinned (.plain (OpenSpec.upto spillMapsSpec)) spillMapsUptoCard
end Rows
end Go.Proofs.YtehlgnfhkidgoaaGreatDoor
