/- The primitives of this seat. By program. Condition: none. -/
import Derived.Test.YtehlgnfhkidgoaaGreatDoorRows
import Derived.Test.YtehlgnfhkidgoaaGreatDoorTmF
import Derived.Test.YtehlgnfhkidgoaaGreatDoorSortF
import Derived.Test.YtehlgnfhkidgoaaGreatDoorSort
import Derived.Shelf.Lay
set_option maxRecDepth 100000
namespace Go.Proofs.YtehlgnfhkidgoaaGreatDoor
open Go Go.TM Go.Shelf
def prims:List (Nat×aF9):=[(46,iK),(115,iP 84)]
theorem bE0 (O:dE)(K:TM.bD):∀x∈prims,rP Tryz.prog O K x.1 x.2:=by
 intro x hx
 simp only[prims,List.mem_cons,List.mem_nil_iff,or_false]at hx
 rcases hx with rfl|rfl
 ·exact bSr O K
 ·exact bMm O K
end Go.Proofs.YtehlgnfhkidgoaaGreatDoor
