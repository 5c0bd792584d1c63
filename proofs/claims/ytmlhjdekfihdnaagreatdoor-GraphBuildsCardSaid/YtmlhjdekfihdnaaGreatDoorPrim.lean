/- The primitives of this seat. By program. Condition: none. -/
import Derived.Test.YtmlhjdekfihdnaaGreatDoorRows
import Derived.Test.YtmlhjdekfihdnaaGreatDoorTmF
import Derived.Test.YtmlhjdekfihdnaaGreatDoorSortF
import Derived.Test.YtmlhjdekfihdnaaGreatDoorSort
import Derived.Shelf.Lay
set_option maxRecDepth 100000
namespace Go.Proofs.YtmlhjdekfihdnaaGreatDoor
open Go Go.TM Go.Shelf
def prims:List (Nat×aB6):=[(61,jN),(64,gF 33)]
theorem aWb (O:cT)(K:TM.aW):∀x∈prims,oM Tryz.prog O K x.1 x.2:=by
 intro x hx
 simp only[prims,List.mem_cons,List.mem_nil_iff,or_false]at hx
 rcases hx with rfl|rfl
 ·exact bIh O K
 ·exact bIi O K
end Go.Proofs.YtmlhjdekfihdnaaGreatDoor
