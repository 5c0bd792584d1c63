/- The primitives of this seat. By program. Condition: none. -/
import Derived.Test.YtehlgnfhkidgoaaDoorRows
import Derived.Test.YtehlgnfhkidgoaaDoorTmF
import Derived.Test.YtehlgnfhkidgoaaDoorSort
import Derived.Shelf.Lay
set_option maxRecDepth 100000
namespace Go.Proofs.YtehlgnfhkidgoaaDoor
open Go Go.TM Go.Shelf
def prims : List (Nat × Prim) := [(32,primSort)]
theorem prims_ok (O : Opts) (K : TM.Prog) : ∀ x ∈ prims,PrimOK Tryd.prog O K x.1 x.2 := by
 intro x hx
 simp only [prims,List.mem_cons,List.mem_nil_iff,or_false] at hx
 subst hx
 exact prim32 O K
end Go.Proofs.YtehlgnfhkidgoaaDoor
