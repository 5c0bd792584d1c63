/- Cps: works, by the kernel. Condition: none. -/
import Derived.Test.YtageemgcnoblnaaDoorTmProg
import Derived.Test.YtageemgcnoblnaaDoorTmF
set_option maxRecDepth 100000
set_option maxHeartbeats 64000000
set_option linter.unusedSimpArgs false
set_option linter.unusedVariables false
namespace Go.Proofs.YtageemgcnoblnaaDoor
open Go Go.TM
def aGb:Out (TV×aA)→Bool
  | .ret (.iv (.bool b), _)=>b
  | _=>false
theorem aD3 {f:Nat}{n:Nat}(h:aGb ((ex K n).call f [] [])=true):TM.Pure K f [] (.iv (.bool true)):=by
  generalize hx:(ex K n).call f [] []=x at h
  match x, h with
  | .ret (.iv (.bool true), S), _=>exact TM.cJ (S:=S) (r:=.iv (.bool true)) (bFa hx) (by rw[bQ])
theorem bE2:aGb ((ex K 300).call 8 [] [])=true:=by kernel_rfl
theorem bHc:TM.Pure K 8 [] (.iv (.bool true)):=aD3 bE2
end Go.Proofs.YtageemgcnoblnaaDoor
