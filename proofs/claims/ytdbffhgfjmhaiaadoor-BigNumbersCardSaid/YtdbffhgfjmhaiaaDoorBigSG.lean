/- BigTexts: the law. Condition: none. -/
import Derived.Test.YtdbffhgfjmhaiaaDoorBigSF
set_option maxRecDepth 100000
set_option maxHeartbeats 4000000
set_option linter.unusedSimpArgs false
set_option linter.unusedVariables false
namespace Go.Proofs.YtdbffhgfjmhaiaaDoor
open Go Go.TM
end Go.Proofs.YtdbffhgfjmhaiaaDoor
