/- What TM reads of the program's variables. Condition: none. -/
import Derived.Test.YtehlgnfhkidgoaaDoorTmProg
import Derived.SevenTiedAt
import Derived.Stop.Joined
import Derived.JoinedOf
import Derived.Lay
import Derived.LaidMore
set_option maxRecDepth 100000
set_option linter.unusedSimpArgs false
set_option linter.unusedVariables false
namespace Go.Proofs.YtehlgnfhkidgoaaDoor
open Go Go.TM Go.RowKit Go.ChangeShapes Go.WideShapes
theorem own : ownKnob Tryd.prog.godebug = none := by kernel_rfl
theorem laidOut : laidOutB Tryd.prog = true := by kernel_rfl
theorem nm0 : Tryd.prog.globalNamed "math/bits.deBruijn64tab" = some 0 := by kernel_rfl
theorem ty0 : (Tryd.prog.globals[0]?).map (·.type) = some 100 := by kernel_rfl
def rdTypes : List TypeId := [5, 100]
theorem rd_ok : tyOk Tryd.prog rdTypes = true := by kernel_rfl
def theLaid : List (String × DataW Unit) := [("math/bits.deBruijn64tab", Rows.laid_math_bits_deBruijn64tab)]
theorem iv0 : ivsD (Rows.laid_math_bits_deBruijn64tab : DataW Unit) = g0 := by kernel_rfl
theorem glob_ok {W : World} (hL : laidMetH Tryd.prog theLaid W) : GlobOK K (allMem W) := by
  rw [MakeChecks.laidMetH_plain _ _ _ (by kernel_rfl)] at hL
  obtain ⟨ps, hv, _⟩ := hL
  have h0 := laid_glob rd_ok hv "math/bits.deBruijn64tab" Rows.laid_math_bits_deBruijn64tab (by simp [theLaid]) 0 100 nm0 ty0 (by decide) (by kernel_rfl)
  rw [iv0] at h0
  have hall : AllAt (fun g cs => IR (allMem W) (.cp cs) (.pointer (some ⟨g, 0, none⟩))) 0 gtbl := ⟨h0, trivial⟩
  exact fun g cs h => allAt_get hall g cs h
end Go.Proofs.YtehlgnfhkidgoaaDoor
