/- Cps: works, by the kernel. Condition: none. -/
import Derived.Test.YtageemgcnoblnaaDoorTmProg
import Derived.Test.YtageemgcnoblnaaDoorTmF
set_option maxRecDepth 100000
set_option maxHeartbeats 64000000
set_option linter.unusedSimpArgs false
set_option linter.unusedVariables false
namespace Go.Proofs.YtageemgcnoblnaaDoor
open Go Go.TM
def retTrue' : Out (TV × Store) → Bool
  | .ret (.iv (.bool b), _) => b
  | _ => false
theorem retTrue_pure {f : Nat} {n : Nat} (h : retTrue' ((ex K n).call f [] []) = true) : TM.Pure K f [] (.iv (.bool true)) := by
  generalize hx : (ex K n).call f [] [] = x at h
  match x, h with
  | .ret (.iv (.bool true), S), _ => exact TM.pure_ret (S := S) (r := .iv (.bool true)) (lim_of hx) (by rw [resolve_iv])
theorem works8 : retTrue' ((ex K 300).call 8 [] []) = true := by kernel_rfl
theorem call8 : TM.Pure K 8 [] (.iv (.bool true)) := retTrue_pure works8
end Go.Proofs.YtageemgcnoblnaaDoor
