/- Big's laws: awake. Condition: none. -/
import Derived.Test.YtdbffhgfjmhaiaaDoorBigJ
set_option maxRecDepth 100000
namespace Go.Proofs.YtdbffhgfjmhaiaaDoor
open Go Go.TM
theorem works1 : ((ex K 100).call 11 [] []).allB isTrue = true := by kernel_rfl
theorem works : ((lim K).call 11 [] []).All fun r => r.1 = .iv (.bool true) := lim_allB 100 11 works1
end Go.Proofs.YtdbffhgfjmhaiaaDoor
