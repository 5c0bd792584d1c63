/-
  DERIVED. GIVEN WITH THE SEED: THE CARDS: each row of YtehlgnfhkidgoaaDoorRows.lean that lists a variable, with what it lists TIED to the program's text (the seventh form; the later family's looks); each row that meets fmt, with fmt's text TOLD by the authors' own Lean function (tested against real Go, not proved from fmt's source: count such statements apart). THE CARD IS WHAT COUNTS. Prove the row's statement (the work); the ties are given (YtehlgnfhkidgoaaDoorTie.lean); close each card by the builder's one call (the guide's Derived/Test/ToyasCard.lean, 'card_holds'). Laid BY PROGRAM, IN A SANDBOX (cutbox-door.mjs). By AI agents, Wed Nov 11 2026. No macro, syntax, notation, axiom, sorry.
-/
import Derived.Test.YtehlgnfhkidgoaaDoorRows
import GoSem.ClaimSeven
namespace Go.Proofs.YtehlgnfhkidgoaaDoor
namespace Rows

/-- THE TIED CARD OF 'pennantlaw21.LiveSets'. -/
def liveSetsCard : Claim7 := { stood := { row := liveSetsRow, standIns := [], harness := (true, "f7e7d47f98a35d4b01b83f30d45fb546638266462be7fc168101b40b1615af50"), looks := false }, kinds := [], alts := [], laidByText := true, laidKinds := [.data], laidTests := true, laidLooks := .later }
def LiveSetsCardSaid : Prop := Claim7.holds Tryd.pinned (.plain (OpenSpec.ofChange liveSetsSpec)) liveSetsCard

/-- THE TIED CARD OF 'pennantlaw21.LiveKnown'. -/
def liveKnownCard : Claim7 := { stood := { row := liveKnownRow, standIns := [], harness := (true, "f7e7d47f98a35d4b01b83f30d45fb546638266462be7fc168101b40b1615af50"), looks := false }, kinds := [], alts := [], laidByText := true, laidKinds := [.data], laidTests := true, laidLooks := .later }
def LiveKnownCardSaid : Prop := Claim7.holds Tryd.pinned (.plain (OpenSpec.ofChange liveKnownSpec)) liveKnownCard

/-- THE TIED CARD OF 'pennantlaw21.LiveEquations'. -/
def liveEquationsCard : Claim7 := { stood := { row := liveEquationsRow, standIns := [], harness := (true, "f7e7d47f98a35d4b01b83f30d45fb546638266462be7fc168101b40b1615af50"), looks := false }, kinds := [], alts := [], laidByText := true, laidKinds := [.data], laidTests := true, laidLooks := .later }
def LiveEquationsCardSaid : Prop := Claim7.holds Tryd.pinned (.plain (OpenSpec.ofChange liveEquationsSpec)) liveEquationsCard

/-- THE SECOND FORM's CARD OF 'pennantlaw21.LiveSets'. -/
def liveSetsUptoCard : Claim7 := { stood := { row := liveSetsUptoRow, standIns := [], harness := (true, "f7e7d47f98a35d4b01b83f30d45fb546638266462be7fc168101b40b1615af50"), looks := false }, kinds := [], alts := [], laidByText := true, laidKinds := [.data], laidTests := true, laidLooks := .later }
def LiveSetsUptoCardSaid : Prop := Claim7.holds Tryd.pinned (.plain (OpenSpec.upto liveSetsSpec)) liveSetsUptoCard

/-- THE SECOND FORM's CARD OF 'pennantlaw21.LiveKnown'. -/
def liveKnownUptoCard : Claim7 := { stood := { row := liveKnownUptoRow, standIns := [], harness := (true, "f7e7d47f98a35d4b01b83f30d45fb546638266462be7fc168101b40b1615af50"), looks := false }, kinds := [], alts := [], laidByText := true, laidKinds := [.data], laidTests := true, laidLooks := .later }
def LiveKnownUptoCardSaid : Prop := Claim7.holds Tryd.pinned (.plain (OpenSpec.upto liveKnownSpec)) liveKnownUptoCard

/-- THE SECOND FORM's CARD OF 'pennantlaw21.LiveEquations'. -/
def liveEquationsUptoCard : Claim7 := { stood := { row := liveEquationsUptoRow, standIns := [], harness := (true, "f7e7d47f98a35d4b01b83f30d45fb546638266462be7fc168101b40b1615af50"), looks := false }, kinds := [], alts := [], laidByText := true, laidKinds := [.data], laidTests := true, laidLooks := .later }
def LiveEquationsUptoCardSaid : Prop := Claim7.holds Tryd.pinned (.plain (OpenSpec.upto liveEquationsSpec)) liveEquationsUptoCard
end Rows
end Go.Proofs.YtehlgnfhkidgoaaDoor
