/- Data: awake, by the kernel. Condition: none. -/
import Derived.Test.YtjbpbohpmfpoiaaGreatDoorTmProg
import Derived.Test.YtjbpbohpmfpoiaaGreatDoorTmF
set_option maxRecDepth 100000
set_option maxHeartbeats 64000000
set_option linter.unusedSimpArgs false
set_option linter.unusedVariables false
namespace Go.Proofs.YtjbpbohpmfpoiaaGreatDoor
open Go Go.TM
def aFb:Out (TV×aA)→Bool
  | .ret (.iv (.bool b), _)=>b
  | _=>false
theorem aCs {f:Nat}{n:Nat}(h:aFb ((ex K n).call f [] [])=true):TM.Pure K f [] (.iv (.bool true)):=by
  generalize hx:(ex K n).call f [] []=x at h
  match x, h with
  | .ret (.iv (.bool true), S), _=>exact TM.dC (S:=S) (r:=.iv (.bool true)) (aTm hx) (by rw[bW])
theorem bDo:aFb ((ex K 300).call 7 [] [])=true:=by kernel_rfl
theorem bFx:TM.Pure K 7 [] (.iv (.bool true)):=aCs bDo
end Go.Proofs.YtjbpbohpmfpoiaaGreatDoor
