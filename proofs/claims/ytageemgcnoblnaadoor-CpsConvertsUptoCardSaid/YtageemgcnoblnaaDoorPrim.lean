/- The primitives of this seat. By program. Condition: none. -/
import Derived.Test.YtageemgcnoblnaaDoorRows
import Derived.Test.YtageemgcnoblnaaDoorTmF
set_option maxRecDepth 100000
namespace Go.Proofs.YtageemgcnoblnaaDoor
open Go Go.TM
def prims:List (Nat×aI0):=[]
theorem aXr (O:dM)(K:TM.bV):∀x∈prims,aCl Tryd.prog O K x.1 x.2:=by
 intro x hx
 cases hx
end Go.Proofs.YtageemgcnoblnaaDoor
