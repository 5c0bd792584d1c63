/- Live: operations, by the kernel. Condition: none. -/
import Derived.Test.YtehlgnfhkidgoaaGreatDoorTmProg
import Derived.Test.YtehlgnfhkidgoaaGreatDoorTmF
set_option maxRecDepth 100000
set_option maxHeartbeats 64000000
set_option linter.unusedSimpArgs false
set_option linter.unusedVariables false
namespace Go.Proofs.YtehlgnfhkidgoaaGreatDoor
open Go Go.TM
def loM (op:Int):Int:=if op=15∨op=22∨op=24∨op=25 then -32768 else 0
def hiM (op:Int):Int:=if op=15∨op=22∨op=24∨op=25 then 32767 else if op=16∨op=17∨op=18∨op=23 then 65535 else if op=19∨op=20∨op=21 then 31 else 0
end Go.Proofs.YtehlgnfhkidgoaaGreatDoor
