/- Live: operations, by the kernel. Condition: none. -/
import Derived.Test.YtmlhjdekfihdnaaGreatDoorTmProg
import Derived.Test.YtmlhjdekfihdnaaGreatDoorTmF
set_option maxRecDepth 100000
set_option maxHeartbeats 64000000
set_option linter.unusedSimpArgs false
set_option linter.unusedVariables false
namespace Go.Proofs.YtmlhjdekfihdnaaGreatDoor
open Go Go.TM
def loM (op:Int):Int:=if op=15∨op=22∨op=24∨op=25 then -32768 else 0
def hiM (op:Int):Int:=if op=15∨op=22∨op=24∨op=25 then 32767 else if op=16∨op=17∨op=18∨op=23 then 65535 else if op=19∨op=20∨op=21 then 31 else 0
def okI (f:Nat)(op v:Int):Bool:=match (ex K 300).call f [.iv (.int .i64 op)] [] with
  | .ret (.iv (.int .i64 w), _)=>decide (w=v)
  | _=>false
def okB (f:Nat)(op:Int)(v:Bool):Bool:=match (ex K 300).call f [.iv (.int .i64 op)] [] with
  | .ret (.iv (.bool w), _)=>w==v
  | _=>false
theorem tN {f:Nat}{op v:Int}(h:okI f op v=true):TM.Pure K f [.iv (.int .i64 op)] (.iv (.int .i64 v)):=by
  unfold okI at h
  generalize hx:(ex K 300).call f [.iv (.int .i64 op)] []=x at h
  match x, h with
  | .ret (.iv (.int .i64 w), S), h =>
    have:w=v:=of_decide_eq_true h
    subst this
    exact TM.cV (S:=S) (r:=.iv (.int .i64 w)) (aXe hx) (by rw[mI])
theorem zN {f:Nat}{op:Int}{v:Bool}(h:okB f op v=true):TM.Pure K f [.iv (.int .i64 op)] (.iv (.bool v)):=by
  unfold okB at h
  generalize hx:(ex K 300).call f [.iv (.int .i64 op)] []=x at h
  match x, h with
  | .ret (.iv (.bool w), S), h =>
    have:w=v:=by simpa using h
    subst this
    exact TM.cV (S:=S) (r:=.iv (.bool w)) (aXe hx) (by rw[mI])
def aHa (op:Int):Int:=if op≤14 then 1 else if op=23 then 3 else if op=25 then 4 else 2
def bGn (op:Int):Bool:=okI 133 op (aHa op)&&okB 124 op (decide (op≤24))&&okB 125 op (decide (op≠23))&&okB 126 op (decide (op≤14∨op=25))&&okI 127 op (if op≤14 then 0 else 16)&&okI 135 op (loM op)&&okI 136 op (hiM op)
theorem aWa:(List.range 25).all (fun k=>bGn ((k:Int)+1))=true:=by kernel_rfl
end Go.Proofs.YtmlhjdekfihdnaaGreatDoor
