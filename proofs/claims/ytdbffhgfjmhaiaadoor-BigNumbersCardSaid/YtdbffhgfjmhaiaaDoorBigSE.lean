/- Digits without noughts ahead. Condition: none. -/
import Derived.Test.YtdbffhgfjmhaiaaDoorBigSD
set_option maxRecDepth 100000
set_option maxHeartbeats 2000000
set_option linter.unusedSimpArgs false
set_option linter.unusedVariables false
namespace Go.Proofs.YtdbffhgfjmhaiaaDoor
open Go Go.TM
end Go.Proofs.YtdbffhgfjmhaiaaDoor
