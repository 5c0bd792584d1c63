/-
  DERIVED. GIVEN WITH THE SEED: THE CARDS: each row of YtmlhjdekfihdnaaGreatDoorRows.lean that lists a variable, with what it lists TIED to the program's text (the seventh form; the later family's looks); each row that meets fmt, with fmt's text TOLD by the authors' own Lean function (tested against real Go, not proved from fmt's source: count such statements apart). THE CARD IS WHAT COUNTS. Prove the row's statement (the work); the ties are given (YtmlhjdekfihdnaaGreatDoorTie.lean); close each card by the builder's one call (the guide's Derived/Test/ToyasCard.lean, 'card_holds'). Laid BY PROGRAM, IN A SANDBOX (cutbox-door.mjs). By AI agents, Wed Nov 11 2026. No macro, syntax, notation, axiom, sorry.
-/
import Derived.Test.YtmlhjdekfihdnaaGreatDoorRows
import GoSem.ClaimSeven
namespace Go.Proofs.YtmlhjdekfihdnaaGreatDoor
namespace Rows

/-- THE TIED CARD OF 'pennantlaw22.GraphBuilds'. -/
def graphBuildsCard : Claim7 := { stood := { row := graphBuildsRow, standIns := [], harness := (true, "9d0c6edbc2eac37b5e6bfa3374749a2fbcbf2f37a98083ce1812e68bc2107443"), looks := false }, kinds := [], alts := [], laidByText := true, laidKinds := [.data], laidTests := true, laidLooks := .later }
def GraphBuildsCardSaid : Prop := Claim7.holds Tryz.pinned (.plain (OpenSpec.ofChange graphBuildsSpec)) graphBuildsCard

/-- THE SECOND FORM's CARD OF 'pennantlaw22.GraphBuilds'. -/
def graphBuildsUptoCard : Claim7 := { stood := { row := graphBuildsUptoRow, standIns := [], harness := (true, "9d0c6edbc2eac37b5e6bfa3374749a2fbcbf2f37a98083ce1812e68bc2107443"), looks := false }, kinds := [], alts := [], laidByText := true, laidKinds := [.data], laidTests := true, laidLooks := .later }
def GraphBuildsUptoCardSaid : Prop := Claim7.holds Tryz.pinned (.plain (OpenSpec.upto graphBuildsSpec)) graphBuildsUptoCard
end Rows
end Go.Proofs.YtmlhjdekfihdnaaGreatDoor
