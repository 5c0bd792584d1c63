/- The primitives of this seat. By program. Condition: none. -/
import Derived.Test.YtageemgcnoblnaaDoorRows
import Derived.Test.YtageemgcnoblnaaDoorTmF
import Derived.Test.YtageemgcnoblnaaDoorKeys
set_option maxRecDepth 100000
namespace Go.Proofs.YtageemgcnoblnaaDoor
open Go Go.TM Go.Shelf
def prims:List (Nat×aD8):=[(42,jF)]
theorem aUa (O:dB)(K:TM.bI):∀x∈prims,sV Tryd.prog O K x.1 x.2:=by
 intro x hx
 simp only[prims,List.mem_cons,List.mem_nil_iff,or_false]at hx
 subst hx
 exact bE1 O K
end Go.Proofs.YtageemgcnoblnaaDoor
