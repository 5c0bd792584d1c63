/- BigTexts: what is parsed of a text. Condition: none. -/
import Derived.Test.YtdbffhgfjmhaiaaDoorBigSE
import Derived.Test.YtdbffhgfjmhaiaaDoorBigW
set_option maxRecDepth 100000
set_option maxHeartbeats 2000000
set_option linter.unusedSimpArgs false
set_option linter.unusedVariables false
namespace Go.Proofs.YtdbffhgfjmhaiaaDoor
open Go Go.TM
theorem pow75 : (10000 : Int) ^ 75 = 10 ^ (4 * 75) := by rw [Int.pow_mul]; rfl
theorem lt75 {v : Int} (h : v < 10000 ^ 75) : v < 10 ^ (4 * 75) := by rw [← pow75]; exact h
end Go.Proofs.YtdbffhgfjmhaiaaDoor
