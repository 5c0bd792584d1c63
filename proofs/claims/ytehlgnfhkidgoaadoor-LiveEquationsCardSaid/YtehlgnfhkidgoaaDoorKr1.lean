/- Live: awake, by the kernel. Condition: none. -/
import Derived.Test.YtehlgnfhkidgoaaDoorTmProg
import Derived.Test.YtehlgnfhkidgoaaDoorTmF
set_option maxRecDepth 100000
set_option maxHeartbeats 64000000
set_option linter.unusedSimpArgs false
set_option linter.unusedVariables false
namespace Go.Proofs.YtehlgnfhkidgoaaDoor
open Go Go.TM
def retTrue' : Out (TV × Store) → Bool
  | .ret (.iv (.bool b), _) => b
  | _ => false
theorem retTrue_pure {f : Nat} {n : Nat} (h : retTrue' ((ex K n).call f [] []) = true) : TM.Pure K f [] (.iv (.bool true)) := by
  generalize hx : (ex K n).call f [] [] = x at h
  match x, h with
  | .ret (.iv (.bool true), S), _ => exact TM.pure_ret (S := S) (r := .iv (.bool true)) (lim_of hx) (by rw [resolve_iv])
theorem awake7 : retTrue' ((ex K 300).call 7 [] []) = true := by kernel_rfl
theorem call7 : TM.Pure K 7 [] (.iv (.bool true)) := retTrue_pure awake7
end Go.Proofs.YtehlgnfhkidgoaaDoor
