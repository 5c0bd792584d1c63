/- Cps: works, by the kernel. Condition: none. -/
import Derived.Test.YtageemgcnoblnaaDoorTmProg
import Derived.Test.YtageemgcnoblnaaDoorTmF
set_option maxRecDepth 100000
set_option maxHeartbeats 64000000
set_option linter.unusedSimpArgs false
set_option linter.unusedVariables false
namespace Go.Proofs.YtageemgcnoblnaaDoor
open Go Go.TM
def aIx:Out (TV×aA)→Bool
  | .ret (.iv (.bool b), _)=>b
  | _=>false
theorem aGn {f:Nat}{n:Nat}(h:aIx ((ex K n).call f [] [])=true):TM.Pure K f [] (.iv (.bool true)):=by
  generalize hx:(ex K n).call f [] []=x at h
  match x, h with
  | .ret (.iv (.bool true), S), _=>exact TM.bO (S:=S) (r:=.iv (.bool true)) (bIy hx) (by rw[aT])
theorem bIq:aIx ((ex K 300).call 8 [] [])=true:=by kernel_rfl
theorem bLa:TM.Pure K 8 [] (.iv (.bool true)):=aGn bIq
end Go.Proofs.YtageemgcnoblnaaDoor
