/- The laws' own: same, large, positive. Condition: none. -/
import Derived.Test.YtdbffhgfjmhaiaaDoorBigK3
set_option maxRecDepth 100000
set_option linter.unusedSimpArgs false
set_option linter.unusedVariables false
namespace Go.Proofs.YtdbffhgfjmhaiaaDoor
open Go Go.TM
/-! ### large -/
instance : Inhabited Tag := ⟨.no⟩
end Go.Proofs.YtdbffhgfjmhaiaaDoor
