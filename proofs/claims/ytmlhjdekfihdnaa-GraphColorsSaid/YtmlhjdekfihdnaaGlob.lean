/- What TM reads of the program's variables. Condition: none. -/
import Derived.Test.YtmlhjdekfihdnaaTmProg
import Derived.SevenTiedAt
import Derived.Stop.Joined
import Derived.JoinedOf
import Derived.Lay
import Derived.LaidMore
set_option maxRecDepth 100000
set_option linter.unusedSimpArgs false
set_option linter.unusedVariables false
namespace Go.Proofs.Ytmlhjdekfihdnaa
open Go Go.TM Go.RowKit Go.ChangeShapes Go.WideShapes
theorem own : ownKnob Try.prog.godebug = none := by kernel_rfl
theorem laidOut : laidOutB Try.prog = true := by kernel_rfl
theorem glob_ok {W : World} : GlobOK K (allMem W) := fun g cs h => by simp [K, gtbl] at h
end Go.Proofs.Ytmlhjdekfihdnaa
