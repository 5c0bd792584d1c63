/- What TM reads of the program's variables. Condition: none. -/
import Derived.Test.YtehlgnfhkidgoaaGreatDoorTmProg
import Derived.SevenTiedAt
import Derived.Stop.Joined
import Derived.JoinedOf
import Derived.Lay
import Derived.LaidMore
set_option maxRecDepth 100000
set_option linter.unusedSimpArgs false
set_option linter.unusedVariables false
namespace Go.Proofs.YtehlgnfhkidgoaaGreatDoor
open Go Go.TM Go.RowKit Go.ChangeShapes Go.WideShapes
theorem own:ownKnob Tryz.prog.godebug=none:=by kernel_rfl
theorem bJy:laidOutB Tryz.prog=true:=by kernel_rfl
theorem nm0 : Tryz.prog.globalNamed "math/bits.deBruijn64tab" = some 0 := by kernel_rfl
theorem ty0:(Tryz.prog.globals[0]?).map (·.type)=some 148:=by kernel_rfl
def bJz:List TypeId:=[5, 148]
theorem bT3:aYj Tryz.prog bJz=true:=by kernel_rfl
def uJ : List (String × DataW Unit) := [("math/bits.deBruijn64tab", Rows.laid_math_bits_deBruijn64tab)]
theorem iv0:aRi (Rows.laid_math_bits_deBruijn64tab:DataW Unit)=g0:=by kernel_rfl
theorem bJ0 {W:World}(hL:laidMetH Tryz.prog uJ W):rO K (eU W):=by
  rw[MakeChecks.laidMetH_plain _ _ _ (by kernel_rfl)]at hL
  obtain⟨ps, hv, _⟩:=hL
  have h0 := aHz bT3 hv "math/bits.deBruijn64tab" Rows.laid_math_bits_deBruijn64tab (by simp [uJ]) 0 148 nm0 ty0 (by decide) (by kernel_rfl)
  rw[iv0]at h0
  have hall:aH1 (fun g cs=>IR (eU W) (.cp cs) (.pointer (some ⟨g, 0, none⟩))) 0 gtbl:=⟨h0, trivial⟩
  exact fun g cs h=>aH2 hall g cs h
end Go.Proofs.YtehlgnfhkidgoaaGreatDoor
