/- The functions of this seat, compiled for the evaluator TM, a part. By program. Condition: none. -/
import Derived.Test.YtookmpaholmmfaaGreatDoorTmProg1
set_option maxRecDepth 100000
set_option linter.unusedVariables false
namespace Go.Proofs.YtookmpaholmmfaaGreatDoor
open Go Go.TM
def a97 : Ann := { slots := [0,1,4],lb := [],mu := [],trunc := [],draws := [] }
def t97 : TFunc := ⟨2,3,[.loc 2],
(.seq (.region [s_ 2 (.mov (.cst (.bool false)))])
(.seq (.region [o_ (.mov (.loc 0)),o_ (.mov (.loc 1)),o_ (.call false false 131 [(.reg 0),(.reg 1)]),o_ (.bin .geq (.reg 2) (i_ 0)),s_ 2 (.mov (.reg 3))])
.ret))⟩
theorem c97 : compFunc Tryz.prog opts a97 Tryz.f97 = some t97 := by kernel_rfl
def a98 : Ann := { slots := [0,1,2,3,4,5,6,7,8,9,22],lb := [9,7,4,3],mu := [],trunc := [],draws := [(3,⟨[0,0,2,6,14,31,0,127],[0,1,2,3,4,6],[(5,[],[]),(7,[],[])]⟩)] }
def t98 : TFunc := ⟨2,11,[.cell 4 5 true],
(.seq (.region [s_ 2 (.boxH 77 (.loc 0)),o_ (.boxL 3 (.loc 1)),o_ (.allocL 4 [(.int .i64 0),(.int .i64 0),(.sl .nil []),(.bool false),(.sl .nil [])])])
(.seq (.region [s_ 5 (.allocH 23 [(.sl .nil [])])])
(.seq (.region [o_ (.fieldAddr 2 (.loc 3)),o_ (.load1 (.reg 0)),o_ (.mkFn 133 [] [(.loc 2),(.loc 5)]),o_ (.call false false 132 [(.reg 1),(.reg 2)]),s_ 6 (.mov (.reg 3))])
(.seq (.draw [0,1,2,3,4,6] [(5,[],[]),(7,[],[])] [o_ (.load1 (.loc 2)),o_ (.fieldAddr 4 (.loc 3)),o_ (.load1 (.reg 1)),o_ (.indexAddrS 5 (.reg 2) (i_ 0)),o_ (.loadN 5 (.reg 3)),o_ (.call false false 66 [(.reg 0),(.reg 4)]),s_ 7 (.allocH 26 [(.int .i64 0),(.int .i64 0),(.sl .nil []),(.bool false),(.sl .nil [])]),o_ (.store 5 (.reg 6) (.reg 5))])
(.seq (.seq (.region [o_ (.load1 (.loc 5)),o_ (.len .sl (.reg 0)),s_ 10 (.bin .gtr (.reg 1) (i_ 0))])
(.cond (.loc 10)
(.seq (.region [o_ (.load1 (.loc 5)),o_ (.mkFn 135 [] [(.loc 2)]),o_ (.call false false 134 [(.reg 0),(.reg 1)]),s_ 8 (.mov (.reg 2))])
(.seq (.region [o_ (.load1 (.loc 5)),o_ (.loadN 5 (.loc 7)),o_ (.lit false [(.int .i64 0),(.int .i64 0),(.sl .nil []),(.bool false),(.sl .nil [])] 1 [(0,(.reg 1))]),o_ (.build [(.int .i64 0),(.int .i64 0),(.sl .nil []),(.bool false),(.sl .nil [])] [(0,1,(i_ 7)),(2,1,(.reg 0)),(4,1,(.reg 2))]),o_ (.allocL 9 [(.int .i64 0),(.int .i64 0),(.sl .nil []),(.bool false),(.sl .nil [])]),o_ (.store 5 (.reg 4) (.reg 3))])
(.region [o_ (.loadN 5 (.loc 9)),o_ (.lit false [(.int .i64 0),(.int .i64 0),(.sl .nil []),(.bool false),(.sl .nil [])] 1 [(0,(.reg 0))]),o_ (.mov (.loc 8)),o_ (.append false 5 72 25 (.reg 1) (.reg 2)),o_ (.build [(.int .i64 0),(.int .i64 0),(.sl .nil []),(.bool false),(.sl .nil [])] [(0,1,(i_ 8)),(4,1,(.reg 3))]),o_ (.store 5 (.loc 7) (.reg 4))])))
.skip))
(.seq (.region [o_ (.mov (.loc 6)),o_ (.fieldAddr 3 (.loc 3)),o_ (.load1 (.reg 1)),o_ (.loadN 5 (.loc 7)),o_ (.lit false [(.int .i64 0),(.int .i64 0),(.sl .nil []),(.bool false),(.sl .nil [])] 1 [(0,(.reg 3))]),o_ (.build [(.int .i64 0),(.int .i64 0),(.sl .nil []),(.bool false),(.sl .nil [])] [(0,1,(i_ 7)),(2,1,(.reg 0)),(3,1,(.reg 2)),(4,1,(.reg 4))]),o_ (.store 5 (.loc 4) (.reg 5))])
.ret))))))⟩
theorem c98 : compFunc Tryz.prog opts a98 Tryz.f98 = some t98 := by kernel_rfl
def a99 : Ann := { slots := [0,1,4,5,6],lb := [5],mu := [],trunc := [],draws := [] }
def t99 : TFunc := ⟨2,5,[.loc 2],
(.seq (.region [s_ 2 (.mov (.cst (.bool false)))])
(.seq (.region [o_ (.mov (.loc 0)),o_ (.nilCheck (.reg 0)),o_ (.fieldAddr 0 (.reg 1)),o_ (.load1 (.reg 2)),o_ (.mov (.loc 1)),o_ (.lookup (.leaf .int) (.agg [(.int .i64 0)]) true (.reg 3) (.reg 4)),o_ (.mov (.reg 5)),o_ (.extract 0 (.reg 6)),o_ (.extract 1 (.reg 6)),o_ (.allocL 3 [(.int .i64 0)]),o_ (.store 1 (.reg 9) (.reg 7)),s_ 4 (.mov (.reg 8))])
(.seq (.region [o_ (.mov (.loc 4)),s_ 2 (.mov (.reg 0))])
.ret)))⟩
theorem c99 : compFunc Tryz.prog opts a99 Tryz.f99 = some t99 := by kernel_rfl
def a100 : Ann := { slots := [0,2],lb := [2],mu := [],trunc := [],draws := [] }
def t100 : TFunc := ⟨1,2,[.cell 1 5 true],
(.seq (.region [o_ (.allocL 1 [(.int .i64 0),(.int .i64 0),(.sl .nil []),(.bool false),(.sl .nil [])])])
(.seq (.region [o_ (.mov (.loc 0)),o_ (.build [(.int .i64 0),(.int .i64 0),(.sl .nil []),(.bool false),(.sl .nil [])] [(0,1,(i_ 2)),(1,1,(.reg 0))]),o_ (.store 5 (.loc 1) (.reg 1))])
.ret))⟩
theorem c100 : compFunc Tryz.prog opts a100 Tryz.f100 = some t100 := by kernel_rfl
def a101 : Ann := { slots := [0,1,4,6,7,8,9,10],lb := [6],mu := [],trunc := [],draws := [] }
def t101L0 : TCode := (.seq (.region [s_ 7 (.bin .lss (.loc 6) (.loc 5))])
(.seq (.cond (.loc 7)
.skip
(.exit 0))
(.seq (.block 1
(.seq (.region [o_ (.indexAddrS 5 (.loc 4) (.loc 6)),o_ (.loadN 5 (.reg 0)),o_ (.allocL 3 [(.int .i64 0),(.int .i64 0),(.sl .nil []),(.bool false),(.sl .nil [])]),o_ (.store 5 (.reg 2) (.reg 1))])
(.region [o_ (.mov (.loc 2)),o_ (.mov (.loc 1)),o_ (.loadN 5 (.loc 3)),o_ (.callv (.reg 1) [(.reg 2)]),o_ (.lit false [(.int .i64 0),(.int .i64 0),(.sl .nil []),(.bool false),(.sl .nil [])] 1 [(0,(.reg 3))]),o_ (.append false 5 72 25 (.reg 0) (.reg 4)),s_ 2 (.mov (.reg 5))])))
(.region [o_ (.bin .add (.loc 6) (i_ 1)),s_ 6 (.mov (.reg 0))]))))
def t101 : TFunc := ⟨2,8,[.loc 2],
(.seq (.region [s_ 2 (.mov (.cst (.sl .nil [])))])
(.seq (.seq (.region [s_ 4 (.mov (.loc 0)),s_ 5 (.len .sl (.reg 0)),s_ 6 (.mov (i_ 0))])
(.block 0
(.loop t101L0)))
(.seq (.region [o_ (.mov (.loc 2)),s_ 2 (.mov (.reg 0))])
.ret)))⟩
theorem c101 : compFunc Tryz.prog opts a101 Tryz.f101 = some t101 := by kernel_rfl
def a108 : Ann := { slots := [0,2,3,10],lb := [3],mu := [],trunc := [],draws := [] }
def t108 : TFunc := ⟨1,4,[.loc 1],
(.seq (.region [s_ 1 (.mov (i_ 0))])
(.seq (.region [o_ (.build [(.int .i64 0),(.int .i64 0),(.int .i64 0),(.int .i64 0),(.int .i64 0),(.int .i64 0),(.int .i64 0),(.int .i64 0),(.int .i64 0),(.int .i64 0),(.int .i64 0),(.int .i64 0),(.int .i64 0),(.int .i64 0),(.int .i64 0),(.int .i64 0),(.int .i64 0),(.int .i64 0),(.int .i64 0),(.int .i64 0),(.int .i64 0),(.int .i64 0),(.int .i64 0),(.int .i64 0),(.int .i64 0),(.int .i64 0),(.int .i64 0),(.int .i64 0),(.int .i64 0),(.int .i64 0),(.int .i64 0),(.int .i64 0),(.int .i64 0),(.int .i64 0),(.int .i64 0),(.int .i64 0),(.int .i64 0),(.int .i64 0),(.int .i64 0),(.int .i64 0),(.int .i64 0),(.int .i64 0)] [(0,1,(i_ 2)),(1,1,(i_ 1)),(2,1,(i_ 2)),(3,1,(i_ 1)),(4,1,(i_ 1)),(5,1,(i_ 2)),(6,1,(i_ 2)),(7,1,(i_ 1)),(8,1,(i_ 2)),(9,1,(i_ 2)),(10,1,(i_ 2)),(11,1,(i_ 2)),(12,1,(i_ 2)),(13,1,(i_ 2)),(14,1,(i_ 2)),(15,1,(i_ 1)),(16,1,(i_ 1)),(17,1,(i_ 1)),(18,1,(i_ 1)),(19,1,(i_ 2)),(20,1,(i_ 1)),(21,1,(i_ 2)),(22,1,(i_ 3)),(23,1,(i_ 1)),(24,1,(i_ 1)),(25,1,(i_ 1)),(26,1,(i_ 1)),(27,1,(i_ 2)),(28,1,(i_ 1)),(29,1,(i_ 2)),(30,1,(i_ 3)),(31,1,(i_ 1)),(32,1,(i_ 2)),(33,1,(i_ 1)),(34,1,(i_ 2)),(35,1,(i_ 3)),(36,1,(i_ 1)),(37,1,(i_ 0)),(38,1,(i_ 1)),(39,1,(i_ 1)),(40,1,(i_ 0)),(41,1,(i_ 0))]),o_ (.allocL 2 [(.int .i64 0),(.int .i64 0),(.int .i64 0),(.int .i64 0),(.int .i64 0),(.int .i64 0),(.int .i64 0),(.int .i64 0),(.int .i64 0),(.int .i64 0),(.int .i64 0),(.int .i64 0),(.int .i64 0),(.int .i64 0),(.int .i64 0),(.int .i64 0),(.int .i64 0),(.int .i64 0),(.int .i64 0),(.int .i64 0),(.int .i64 0),(.int .i64 0),(.int .i64 0),(.int .i64 0),(.int .i64 0),(.int .i64 0),(.int .i64 0),(.int .i64 0),(.int .i64 0),(.int .i64 0),(.int .i64 0),(.int .i64 0),(.int .i64 0),(.int .i64 0),(.int .i64 0),(.int .i64 0),(.int .i64 0),(.int .i64 0),(.int .i64 0),(.int .i64 0),(.int .i64 0),(.int .i64 0)]),o_ (.store 42 (.reg 1) (.reg 0))])
(.seq (.seq (.region [o_ (.mov (.loc 0)),o_ (.bin .lss (.reg 0) (i_ 0)),o_ (.mov (.reg 1)),⟨.mov (.loc 0),none,(some (2,false))⟩,⟨.bin .geq (.reg 3) (i_ 42),none,(some (2,false))⟩,s_ 3 (.pick (.reg 2) (.cst (.bool true)) (.reg 4))])
(.cond (.loc 3)
(.seq (.region [s_ 1 (.mov (i_ (-1)))])
.ret)
.skip))
(.seq (.region [o_ (.mov (.loc 0)),o_ (.indexAddrA 42 1 (.loc 2) (.reg 0)),o_ (.load1 (.reg 1)),s_ 1 (.mov (.reg 2))])
.ret))))⟩
theorem c108 : compFunc Tryz.prog opts a108 Tryz.f108 = some t108 := by kernel_rfl
def a109 : Ann := { slots := [0,2,3,10],lb := [3],mu := [],trunc := [],draws := [] }
def t109 : TFunc := ⟨1,4,[.loc 1],
(.seq (.region [s_ 1 (.mov (.cst (.str [])))])
(.seq (.region [o_ (.build [(.str []),(.str []),(.str []),(.str []),(.str []),(.str []),(.str []),(.str []),(.str []),(.str []),(.str []),(.str []),(.str []),(.str []),(.str []),(.str []),(.str []),(.str []),(.str []),(.str []),(.str []),(.str []),(.str []),(.str []),(.str []),(.str []),(.str []),(.str []),(.str []),(.str []),(.str []),(.str []),(.str []),(.str []),(.str []),(.str []),(.str []),(.str []),(.str []),(.str []),(.str []),(.str [])] [(0,1,(.cst (.str [101,113,63]))),(1,1,(.cst (.str [112,97,105,114,63]))),(2,1,(.cst (.str [99,111,110,115]))),(3,1,(.cst (.str [99,97,114]))),(4,1,(.cst (.str [99,100,114]))),(5,1,(.cst (.str [115,101,116,45,99,97,114,33]))),(6,1,(.cst (.str [115,101,116,45,99,100,114,33]))),(7,1,(.cst (.str [105,110,116,101,103,101,114,63]))),(8,1,(.cst (.str [37,43]))),(9,1,(.cst (.str [37,45]))),(10,1,(.cst (.str [37,42]))),(11,1,(.cst (.str [113,117,111,116,105,101,110,116]))),(12,1,(.cst (.str [114,101,109,97,105,110,100,101,114]))),(13,1,(.cst (.str [37,61]))),(14,1,(.cst (.str [37,60]))),(15,1,(.cst (.str [99,104,97,114,63]))),(16,1,(.cst (.str [99,104,97,114,45,62,105,110,116,101,103,101,114]))),(17,1,(.cst (.str [105,110,116,101,103,101,114,45,62,99,104,97,114]))),(18,1,(.cst (.str [115,116,114,105,110,103,63]))),(19,1,(.cst (.str [109,97,107,101,45,115,116,114,105,110,103]))),(20,1,(.cst (.str [115,116,114,105,110,103,45,108,101,110,103,116,104]))),(21,1,(.cst (.str [115,116,114,105,110,103,45,114,101,102]))),(22,1,(.cst (.str [115,116,114,105,110,103,45,115,101,116,33]))),(23,1,(.cst (.str [115,121,109,98,111,108,63]))),(24,1,(.cst (.str [115,121,109,98,111,108,45,62,115,116,114,105,110,103]))),(25,1,(.cst (.str [115,116,114,105,110,103,45,62,115,121,109,98,111,108]))),(26,1,(.cst (.str [118,101,99,116,111,114,63]))),(27,1,(.cst (.str [109,97,107,101,45,118,101,99,116,111,114]))),(28,1,(.cst (.str [118,101,99,116,111,114,45,108,101,110,103,116,104]))),(29,1,(.cst (.str [118,101,99,116,111,114,45,114,101,102]))),(30,1,(.cst (.str [118,101,99,116,111,114,45,115,101,116,33]))),(31,1,(.cst (.str [98,121,116,101,118,101,99,116,111,114,63]))),(32,1,(.cst (.str [109,97,107,101,45,98,121,116,101,118,101,99,116,111,114]))),(33,1,(.cst (.str [98,121,116,101,118,101,99,116,111,114,45,108,101,110,103,116,104]))),(34,1,(.cst (.str [98,121,116,101,118,101,99,116,111,114,45,117,56,45,114,101,102]))),(35,1,(.cst (.str [98,121,116,101,118,101,99,116,111,114,45,117,56,45,115,101,116,33]))),(36,1,(.cst (.str [112,114,111,99,101,100,117,114,101,63]))),(37,1,(.cst (.str [114,101,97,100,45,117,56]))),(38,1,(.cst (.str [119,114,105,116,101,45,117,56]))),(39,1,(.cst (.str [37,104,97,108,116]))),(40,1,(.cst (.str [101,111,102,45,111,98,106,101,99,116]))),(41,1,(.cst (.str [37,110,111,110,101])))]),o_ (.allocL 2 [(.str []),(.str []),(.str []),(.str []),(.str []),(.str []),(.str []),(.str []),(.str []),(.str []),(.str []),(.str []),(.str []),(.str []),(.str []),(.str []),(.str []),(.str []),(.str []),(.str []),(.str []),(.str []),(.str []),(.str []),(.str []),(.str []),(.str []),(.str []),(.str []),(.str []),(.str []),(.str []),(.str []),(.str []),(.str []),(.str []),(.str []),(.str []),(.str []),(.str []),(.str []),(.str [])]),o_ (.store 42 (.reg 1) (.reg 0))])
(.seq (.seq (.region [o_ (.mov (.loc 0)),o_ (.bin .lss (.reg 0) (i_ 0)),o_ (.mov (.reg 1)),⟨.mov (.loc 0),none,(some (2,false))⟩,⟨.bin .geq (.reg 3) (i_ 42),none,(some (2,false))⟩,s_ 3 (.pick (.reg 2) (.cst (.bool true)) (.reg 4))])
(.cond (.loc 3)
(.seq (.region [s_ 1 (.mov (.cst (.str [])))])
.ret)
.skip))
(.seq (.region [o_ (.mov (.loc 0)),o_ (.indexAddrA 42 1 (.loc 2) (.reg 0)),o_ (.load1 (.reg 1)),s_ 1 (.mov (.reg 2))])
.ret))))⟩
theorem c109 : compFunc Tryz.prog opts a109 Tryz.f109 = some t109 := by kernel_rfl
def a110 : Ann := { slots := [0,2],lb := [],mu := [],trunc := [],draws := [] }
def t110 : TFunc := ⟨1,2,[.loc 1],
(.seq (.region [s_ 1 (.mov (.cst (.str [])))])
(.seq (.region [o_ (.mov (.loc 0)),o_ (.call true false 138 [(.reg 0),(i_ 10)]),s_ 1 (.mov (.reg 1))])
.ret))⟩
theorem c110 : compFunc Tryz.prog opts a110 Tryz.f110 = some t110 := by kernel_rfl
def a111 : Ann := { slots := [0,2],lb := [],mu := [],trunc := [],draws := [] }
def t111 : TFunc := ⟨1,2,[.loc 1],
(.seq (.region [s_ 1 (.mov (.cst (.str [])))])
(.seq (.region [o_ (.mov (.loc 0)),o_ (.call true false 75 [(.reg 0)]),o_ (.bin .add (.cst (.str [118])) (.reg 1)),s_ 1 (.mov (.reg 2))])
.ret))⟩
theorem c111 : compFunc Tryz.prog opts a111 Tryz.f111 = some t111 := by kernel_rfl
def a112 : Ann := { slots := [0,1,7,21],lb := [],mu := [],trunc := [],draws := [(3,⟨[0,1,3,7,15,0,32,96,224,480,1023,0,4095],[0,1,2,3,4,5,6,7,8,9,10,11,12],[]⟩)] }
def t112 : TFunc := ⟨2,4,[],
(.seq (.region [o_ (.mov (.loc 0)),o_ (.prim 113 [(.reg 0)])])
(.seq (.seq (.region [o_ (.mov (.loc 1)),s_ 2 (.bin .lss (.reg 0) (i_ 0))])
(.cond (.loc 2)
(.region [o_ (.bad),o_ (.bad)])
.skip))
(.seq (.draw [0,1,2,3,4,5,6,7,8,9,10,11,12] [] [o_ (.mov (.loc 0)),o_ (.nilCheck (.reg 0)),o_ (.fieldAddr 1 (.reg 1)),o_ (.load1 (.reg 2)),o_ (.cap (.reg 3)),o_ (.mov (.loc 0)),o_ (.nilCheck (.reg 5)),o_ (.fieldAddr 1 (.reg 6)),o_ (.load1 (.reg 7)),o_ (.len .sl (.reg 8)),o_ (.bin .sub (.reg 4) (.reg 9)),o_ (.mov (.loc 1)),s_ 3 (.bin .lss (.reg 10) (.reg 11))])
(.cond (.loc 3)
(.region [o_ (.mov (.loc 0)),o_ (.mov (.loc 1)),o_ (.call false false 139 [(.reg 0),(.reg 1)])])
.skip))))⟩
theorem c112 : compFunc Tryz.prog opts a112 Tryz.f112 = some t112 := by kernel_rfl
def a115 : Ann := { slots := [0,1,4,5,7,8,9,16],lb := [],mu := [],trunc := [],draws := [] }
def t115L0 : TCode := (.seq (.region [s_ 6 (.bin .lss (.loc 5) (.loc 4))])
(.seq (.cond (.loc 6)
.skip
(.exit 0))
(.seq (.block 1
(.seq (.region [o_ (.mov (.loc 5)),s_ 3 (.mov (.reg 0))])
(.seq (.region [o_ (.mov (.loc 1)),o_ (.mov (.loc 0)),o_ (.mov (.loc 3)),o_ (.indexAddrS 5 (.reg 1) (.reg 2)),o_ (.loadN 5 (.reg 3)),s_ 7 (.callv (.reg 0) [(.reg 4)])])
(.cond (.loc 7)
(.seq (.region [o_ (.mov (.loc 3)),s_ 2 (.mov (.reg 0))])
.ret)
.skip))))
(.region [o_ (.bin .add (.loc 5) (i_ 1)),s_ 5 (.mov (.reg 0))]))))
def t115 : TFunc := ⟨2,8,[.loc 2],
(.seq (.region [s_ 2 (.mov (i_ 0))])
(.seq (.seq (.region [o_ (.mov (.loc 0)),s_ 4 (.len .sl (.reg 0)),s_ 5 (.mov (i_ 0))])
(.block 0
(.loop t115L0)))
(.seq (.region [s_ 2 (.mov (i_ (-1)))])
.ret)))⟩
theorem c115 : compFunc Tryz.prog opts a115 Tryz.f115 = some t115 := by kernel_rfl
def a116 : Ann := { slots := [0,2,3,16],lb := [],mu := [],trunc := [],draws := [] }
def t116 : TFunc := ⟨1,4,[.loc 1],
(.seq (.region [s_ 1 (.mov (.cst (.bool false)))])
(.seq (.region [o_ (.mov (.loc 0)),o_ (.call true false 148 [(.reg 0),(.cst (.str [45]))]),s_ 2 (.mov (.reg 1))])
(.seq (.seq (.region [o_ (.mov (.loc 2)),o_ (.bin .eql (.reg 0) (.cst (.str []))),o_ (.mov (.reg 1)),⟨.mov (.loc 2),none,(some (2,false))⟩,⟨.indexS (.reg 3) (i_ 0),none,(some (2,false))⟩,⟨.bin .eql (.reg 4) (.cst (.int .u8 48)),none,(some (2,false))⟩,⟨.mov (.reg 5),none,(some (2,false))⟩,⟨.mov (.loc 0),none,(some (6,true))⟩,⟨.bin .neq (.reg 7) (.cst (.str [48])),none,(some (6,true))⟩,⟨.pick (.reg 6) (.reg 8) (.cst (.bool false)),none,(some (2,false))⟩,s_ 3 (.pick (.reg 2) (.cst (.bool true)) (.reg 9))])
(.cond (.loc 3)
(.seq (.region [s_ 1 (.mov (.cst (.bool false)))])
.ret)
.skip))
(.seq (.region [o_ (.mov (.loc 2)),o_ (.call false false 149 [(.reg 0),(.fn 150)]),o_ (.un .not (.reg 1)),s_ 1 (.mov (.reg 2))])
.ret))))⟩
theorem c116 : compFunc Tryz.prog opts a116 Tryz.f116 = some t116 := by kernel_rfl
def a117 : Ann := { slots := [0,2],lb := [],mu := [],trunc := [],draws := [] }
def t117 : TFunc := ⟨1,2,[.loc 1],
(.seq (.region [s_ 1 (.mov (.cst (.bool false)))])
(.seq (.region [o_ (.mov (.loc 0)),o_ (.bin .geq (.reg 0) (i_ 0)),o_ (.mov (.reg 1)),⟨.mov (.loc 0),none,(some (2,true))⟩,⟨.bin .leq (.reg 3) (i_ 1114111),none,(some (2,true))⟩,o_ (.pick (.reg 2) (.reg 4) (.cst (.bool false))),o_ (.mov (.reg 5)),⟨.mov (.loc 0),none,(some (6,true))⟩,⟨.conv (.toInt .i32) (.reg 7),none,(some (6,true))⟩,⟨.call true false 151 [(.reg 8)],none,(some (6,true))⟩,o_ (.pick (.reg 6) (.reg 9) (.cst (.bool false))),s_ 1 (.mov (.reg 10))])
.ret))⟩
theorem c117 : compFunc Tryz.prog opts a117 Tryz.f117 = some t117 := by kernel_rfl
def a118 : Ann := { slots := [0,2,3,4,5,6,8,17,20,21,22,23],lb := [8,5],mu := [],trunc := [],draws := [(3,⟨[0,1,0,7],[0,1,2,3],[]⟩)] }
def t118L0 : TCode := (.seq (.region [s_ 11 (.bin .lss (.loc 10) (.loc 9))])
(.seq (.cond (.loc 11)
.skip
(.exit 0))
(.seq (.block 1
(.seq (.region [o_ (.indexAddrS 2 (.loc 8) (.loc 10)),o_ (.loadN 2 (.reg 0)),o_ (.allocL 6 [(.int .i64 0),(.int .i64 0)]),o_ (.store 2 (.reg 2) (.reg 1))])
(.region [o_ (.mov (.loc 5)),o_ (.fieldAddr 0 (.loc 6)),o_ (.load1 (.reg 1)),o_ (.lit false [(.int .i64 0)] 1 [(0,(.reg 2))]),o_ (.append false 1 8 3 (.reg 0) (.reg 3)),s_ 5 (.mov (.reg 4))])))
(.region [o_ (.bin .add (.loc 10) (i_ 1)),s_ 10 (.mov (.reg 0))]))))
def t118 : TFunc := ⟨1,12,[.loc 1,.loc 2],
(.seq (.region [s_ 1 (.mov (.cst (.sl .nil []))),s_ 2 (.mov (i_ 0))])
(.seq (.region [o_ (.mov (.loc 0)),o_ (.conv .strBytes (.reg 0)),o_ (.call true false 152 [(.reg 1)]),o_ (.mov (.reg 2)),o_ (.extract 0 (.reg 3)),o_ (.extract 1 (.reg 3)),o_ (.allocL 4 [(.int .i64 0),(.int .i64 0)]),s_ 3 (.mov (.reg 4)),o_ (.store 2 (.reg 6) (.reg 5))])
(.seq (.seq (.region [o_ (.fieldAddr 0 (.loc 4)),o_ (.load1 (.reg 0)),s_ 7 (.bin .neq (.reg 1) (i_ 0))])
(.cond (.loc 7)
(.seq (.draw [0,1,2,3] [] [o_ (.fieldAddr 0 (.loc 4)),o_ (.load1 (.reg 0)),s_ 1 (.mov (.cst (.sl .nil []))),s_ 2 (.mov (.reg 1))])
.ret)
.skip))
(.seq (.region [s_ 5 (.mov (.cst (.sl .nil [])))])
(.seq (.seq (.region [s_ 8 (.mov (.loc 3)),s_ 9 (.len .sl (.reg 0)),s_ 10 (.mov (i_ 0))])
(.block 0
(.loop t118L0)))
(.seq (.region [o_ (.mov (.loc 5)),s_ 1 (.mov (.reg 0)),s_ 2 (.mov (i_ 0))])
.ret))))))⟩
theorem c118 : compFunc Tryz.prog opts a118 Tryz.f118 = some t118 := by kernel_rfl
def a119 : Ann := { slots := [0,1,4],lb := [],mu := [],trunc := [],draws := [] }
def t119 : TFunc := ⟨2,3,[.loc 2],
(.seq (.region [s_ 2 (.mov (.cst (.bool false)))])
(.seq (.region [o_ (.mov (.loc 0)),o_ (.bin .geq (.reg 0) (i_ 0)),o_ (.mov (.reg 1)),⟨.mov (.loc 0),none,(some (2,true))⟩,⟨.mov (.loc 1),none,(some (2,true))⟩,⟨.bin .lss (.reg 3) (.reg 4),none,(some (2,true))⟩,o_ (.pick (.reg 2) (.reg 5) (.cst (.bool false))),s_ 2 (.mov (.reg 6))])
.ret))⟩
theorem c119 : compFunc Tryz.prog opts a119 Tryz.f119 = some t119 := by kernel_rfl
def a120 : Ann := { slots := [0,1,4],lb := [],mu := [],trunc := [],draws := [] }
def t120 : TFunc := ⟨2,3,[.loc 2],
(.seq (.region [s_ 2 (.mov (.cst (.bool false)))])
(.seq (.region [o_ (.mov (.loc 0)),o_ (.mov (.loc 1)),o_ (.call false false 153 [(.reg 0),(.reg 1)]),o_ (.bin .geq (.reg 2) (i_ 0)),s_ 2 (.mov (.reg 3))])
.ret))⟩
theorem c120 : compFunc Tryz.prog opts a120 Tryz.f120 = some t120 := by kernel_rfl
def a121 : Ann := { slots := [0,1,2,4],lb := [],mu := [],trunc := [],draws := [(1,⟨[0,0,0,4,12,28,60,127,255,511],[0,1,2,3,4,5,6],[(7,[],[8,9])]⟩)] }
def t121 : TFunc := ⟨3,4,[.loc 3],
(.seq (.region [s_ 3 (.mov (.cst (.bool false)))])
(.seq (.draw [0,1,2,3,4,5,6] [(7,[],[8,9])] [o_ (.load1 (.loc 1)),o_ (.mov (.loc 0)),o_ (.load1 (.loc 2)),o_ (.nilCheck (.reg 2)),o_ (.fieldAddr 0 (.reg 3)),o_ (.fieldAddr 6 (.reg 4)),o_ (.load1 (.reg 5)),o_ (.callv (.reg 0) [(.reg 1),(.reg 6)]),o_ (.un .not (.reg 7)),s_ 3 (.mov (.reg 8))])
.ret))⟩
theorem c121 : compFunc Tryz.prog opts a121 Tryz.f121 = some t121 := by kernel_rfl
def a125 : Ann := { slots := [0,1,4,5,6,7,8,16,26,50],lb := [],mu := [],trunc := [],draws := [(7,⟨[0,1,3,7,15,31,7,7,7,7,775,1991,4039,8191,16383],[0],[(1,[],[2,3,6,7,8,9,10,11,12]),(4,[11,12],[5,13,14])]⟩)] }
def t125L0 : TCode := (.seq (.seq (.region [o_ (.mov (.loc 5)),o_ (.bin .leq (.reg 0) (i_ 4)),o_ (.mov (.reg 1)),⟨.mov (.loc 1),none,(some (2,true))⟩,⟨.mov (.loc 5),none,(some (2,true))⟩,⟨.bin .add (.reg 3) (.reg 4),none,(some (2,true))⟩,⟨.mov (.loc 0),none,(some (2,true))⟩,⟨.len .sl (.reg 6),none,(some (2,true))⟩,⟨.bin .leq (.reg 5) (.reg 7),none,(some (2,true))⟩,s_ 8 (.pick (.reg 2) (.reg 8) (.cst (.bool false)))])
(.cond (.loc 8)
.skip
(.exit 0)))
(.seq (.block 1
(.seq (.region [o_ (.mov (.loc 0)),o_ (.mov (.loc 1)),o_ (.mov (.loc 1)),o_ (.mov (.loc 5)),o_ (.bin .add (.reg 2) (.reg 3)),o_ (.slice (.sl 1) (.reg 0) (some (.reg 1)) (some (.reg 4)) none),o_ (.call true false 157 [(.reg 5)]),s_ 6 (.mov (.reg 6))])
(.seq (.draw [0] [(1,[],[2,3,6,7,8,9,10,11,12]),(4,[11,12],[5,13,14])] [o_ (.mov (.loc 6)),o_ (.call true false 53 [(.reg 0)]),o_ (.mov (.reg 1)),⟨.mov (.loc 6),none,(some (2,true))⟩,⟨.call true false 158 [(.reg 3)],none,(some (2,true))⟩,⟨.conv .bytesStr (.reg 4),none,(some (2,true))⟩,⟨.mov (.loc 0),none,(some (2,true))⟩,⟨.mov (.loc 1),none,(some (2,true))⟩,⟨.mov (.loc 1),none,(some (2,true))⟩,⟨.mov (.loc 5),none,(some (2,true))⟩,⟨.bin .add (.reg 8) (.reg 9),none,(some (2,true))⟩,⟨.slice (.sl 1) (.reg 6) (some (.reg 7)) (some (.reg 10)) none,none,(some (2,true))⟩,⟨.conv .bytesStr (.reg 11),none,(some (2,true))⟩,⟨.bin .eql (.reg 5) (.reg 12),none,(some (2,true))⟩,s_ 9 (.pick (.reg 2) (.reg 13) (.cst (.bool false)))])
(.cond (.loc 9)
(.seq (.region [o_ (.mov (.loc 6)),o_ (.mov (.loc 5)),s_ 2 (.mov (.reg 0)),s_ 3 (.mov (.reg 1)),s_ 4 (.mov (i_ 0))])
.ret)
.skip))))
(.region [o_ (.mov (.loc 5)),o_ (.bin .add (.reg 0) (i_ 1)),s_ 5 (.mov (.reg 1))])))
def t125 : TFunc := ⟨2,10,[.loc 2,.loc 3,.loc 4],
(.seq (.region [s_ 2 (.mov (i_ 0)),s_ 3 (.mov (i_ 0)),s_ 4 (.mov (i_ 0))])
(.seq (.seq (.region [o_ (.mov (.loc 1)),o_ (.bin .lss (.reg 0) (i_ 0)),o_ (.mov (.reg 1)),⟨.mov (.loc 1),none,(some (2,false))⟩,⟨.mov (.loc 0),none,(some (2,false))⟩,⟨.len .sl (.reg 4),none,(some (2,false))⟩,⟨.bin .geq (.reg 3) (.reg 5),none,(some (2,false))⟩,s_ 7 (.pick (.reg 2) (.cst (.bool true)) (.reg 6))])
(.cond (.loc 7)
(.seq (.region [s_ 2 (.mov (i_ 0)),s_ 3 (.mov (i_ 0)),s_ 4 (.mov (i_ 2))])
.ret)
.skip))
(.seq (.seq (.region [s_ 5 (.mov (i_ 1))])
(.block 0
(.loop t125L0)))
(.seq (.region [s_ 2 (.mov (i_ 0)),s_ 3 (.mov (i_ 0)),s_ 4 (.mov (i_ 4))])
.ret))))⟩
theorem c125 : compFunc Tryz.prog opts a125 Tryz.f125 = some t125 := by kernel_rfl
def a131 : Ann := { slots := [0,1,4,5,7,8,9,16],lb := [],mu := [],trunc := [],draws := [] }
def t131L0 : TCode := (.seq (.region [s_ 6 (.bin .lss (.loc 5) (.loc 4))])
(.seq (.cond (.loc 6)
.skip
(.exit 0))
(.seq (.block 1
(.seq (.region [o_ (.mov (.loc 5)),s_ 3 (.mov (.reg 0))])
(.seq (.region [o_ (.mov (.loc 1)),o_ (.mov (.loc 0)),o_ (.mov (.loc 3)),o_ (.indexAddrS 5 (.reg 1) (.reg 2)),o_ (.loadN 5 (.reg 3)),s_ 7 (.callv (.reg 0) [(.reg 4)])])
(.cond (.loc 7)
(.seq (.region [o_ (.mov (.loc 3)),s_ 2 (.mov (.reg 0))])
.ret)
.skip))))
(.region [o_ (.bin .add (.loc 5) (i_ 1)),s_ 5 (.mov (.reg 0))]))))
def t131 : TFunc := ⟨2,8,[.loc 2],
(.seq (.region [s_ 2 (.mov (i_ 0))])
(.seq (.seq (.region [o_ (.mov (.loc 0)),s_ 4 (.len .sl (.reg 0)),s_ 5 (.mov (i_ 0))])
(.block 0
(.loop t131L0)))
(.seq (.region [s_ 2 (.mov (i_ (-1)))])
.ret)))⟩
theorem c131 : compFunc Tryz.prog opts a131 Tryz.f131 = some t131 := by kernel_rfl
def a132 : Ann := { slots := [0,1,4,6,7,8,9,10],lb := [],mu := [],trunc := [],draws := [] }
def t132L0 : TCode := (.seq (.region [s_ 7 (.bin .lss (.loc 6) (.loc 5))])
(.seq (.cond (.loc 7)
.skip
(.exit 0))
(.seq (.block 1
(.seq (.region [o_ (.indexAddrS 1 (.loc 4) (.loc 6)),o_ (.load1 (.reg 0)),s_ 3 (.mov (.reg 1))])
(.region [o_ (.mov (.loc 2)),o_ (.mov (.loc 1)),o_ (.mov (.loc 3)),o_ (.callv (.reg 1) [(.reg 2)]),o_ (.lit false [(.int .i64 0)] 1 [(0,(.reg 3))]),o_ (.append false 1 8 3 (.reg 0) (.reg 4)),s_ 2 (.mov (.reg 5))])))
(.region [o_ (.bin .add (.loc 6) (i_ 1)),s_ 6 (.mov (.reg 0))]))))
def t132 : TFunc := ⟨2,8,[.loc 2],
(.seq (.region [s_ 2 (.mov (.cst (.sl .nil [])))])
(.seq (.seq (.region [s_ 4 (.mov (.loc 0)),s_ 5 (.len .sl (.reg 0)),s_ 6 (.mov (i_ 0))])
(.block 0
(.loop t132L0)))
(.seq (.region [o_ (.mov (.loc 2)),s_ 2 (.mov (.reg 0))])
.ret)))⟩
theorem c132 : compFunc Tryz.prog opts a132 Tryz.f132 = some t132 := by kernel_rfl
def a133 : Ann := { slots := [0,1,2,4,8],lb := [],mu := [],trunc := [],draws := [(4,⟨[0,1,3,7,0,0,32,96,224,480,1023],[0,1,2,3,4,5,6,7,8,9],[(10,[],[])]⟩)] }
def t133 : TFunc := ⟨3,5,[.loc 3],
(.seq (.region [s_ 3 (.mov (i_ 0))])
(.seq (.seq (.region [o_ (.load1 (.loc 1)),o_ (.mov (.loc 0)),o_ (.call false false 99 [(.reg 0),(.reg 1)]),s_ 4 (.un .not (.reg 2))])
(.cond (.loc 4)
(.seq (.region [o_ (.mov (.loc 0)),s_ 3 (.mov (.reg 0))])
.ret)
.skip))
(.seq (.region [o_ (.load1 (.loc 2)),o_ (.mov (.loc 0)),o_ (.lit false [(.int .i64 0)] 1 [(0,(.reg 1))]),o_ (.append false 1 8 3 (.reg 0) (.reg 2)),o_ (.store 1 (.loc 2) (.reg 3))])
(.seq (.draw [0,1,2,3,4,5,6,7,8,9] [(10,[],[])] [o_ (.load1 (.loc 1)),o_ (.nilCheck (.reg 0)),o_ (.fieldAddr 0 (.reg 1)),o_ (.load1 (.reg 2)),o_ (.mov (.loc 0)),o_ (.load1 (.loc 1)),o_ (.nilCheck (.reg 5)),o_ (.fieldAddr 1 (.reg 6)),o_ (.load1 (.reg 7)),o_ (.build [(.int .i64 0)] [(0,1,(.reg 8))]),o_ (.update (.leaf .int) (.reg 3) (.reg 4) (.reg 9))])
(.seq (.region [o_ (.load1 (.loc 1)),o_ (.nilCheck (.reg 0)),o_ (.fieldAddr 1 (.reg 1)),o_ (.load1 (.reg 2)),o_ (.bin .add (.reg 3) (i_ 1)),o_ (.nilCheck (.reg 0)),o_ (.fieldAddr 1 (.reg 5)),o_ (.store 1 (.reg 6) (.reg 4))])
(.seq (.region [o_ (.load1 (.loc 1)),o_ (.nilCheck (.reg 0)),o_ (.fieldAddr 0 (.reg 1)),o_ (.load1 (.reg 2)),o_ (.mov (.loc 0)),o_ (.lookup (.leaf .int) (.agg [(.int .i64 0)]) false (.reg 3) (.reg 4)),o_ (.field 0 1 false (.reg 5)),s_ 3 (.mov (.reg 6))])
.ret))))))⟩
theorem c133 : compFunc Tryz.prog opts a133 Tryz.f133 = some t133 := by kernel_rfl
def a134 : Ann := { slots := [0,1,4,6,7,8,9,10],lb := [],mu := [],trunc := [],draws := [] }
def t134L0 : TCode := (.seq (.region [s_ 7 (.bin .lss (.loc 6) (.loc 5))])
(.seq (.cond (.loc 7)
.skip
(.exit 0))
(.seq (.block 1
(.seq (.region [o_ (.indexAddrS 1 (.loc 4) (.loc 6)),o_ (.load1 (.reg 0)),s_ 3 (.mov (.reg 1))])
(.region [o_ (.mov (.loc 2)),o_ (.mov (.loc 1)),o_ (.mov (.loc 3)),o_ (.callv (.reg 1) [(.reg 2)]),o_ (.lit false [(.int .i64 0),(.int .i64 0),(.sl .nil []),(.bool false),(.sl .nil [])] 1 [(0,(.reg 3))]),o_ (.append false 5 72 25 (.reg 0) (.reg 4)),s_ 2 (.mov (.reg 5))])))
(.region [o_ (.bin .add (.loc 6) (i_ 1)),s_ 6 (.mov (.reg 0))]))))
def t134 : TFunc := ⟨2,8,[.loc 2],
(.seq (.region [s_ 2 (.mov (.cst (.sl .nil [])))])
(.seq (.seq (.region [s_ 4 (.mov (.loc 0)),s_ 5 (.len .sl (.reg 0)),s_ 6 (.mov (i_ 0))])
(.block 0
(.loop t134L0)))
(.seq (.region [o_ (.mov (.loc 2)),s_ 2 (.mov (.reg 0))])
.ret)))⟩
theorem c134 : compFunc Tryz.prog opts a134 Tryz.f134 = some t134 := by kernel_rfl
def a135 : Ann := { slots := [0,1,3],lb := [3],mu := [],trunc := [],draws := [] }
def t135 : TFunc := ⟨2,3,[.cell 2 5 true],
(.seq (.region [o_ (.allocL 2 [(.int .i64 0),(.int .i64 0),(.sl .nil []),(.bool false),(.sl .nil [])])])
(.seq (.region [o_ (.load1 (.loc 1)),o_ (.nilCheck (.reg 0)),o_ (.fieldAddr 0 (.reg 1)),o_ (.load1 (.reg 2)),o_ (.mov (.loc 0)),o_ (.lookup (.leaf .int) (.agg [(.int .i64 0)]) false (.reg 3) (.reg 4)),o_ (.field 0 1 false (.reg 5)),o_ (.call true false 100 [(.reg 6)]),o_ (.lit false [(.int .i64 0),(.int .i64 0),(.sl .nil []),(.bool false),(.sl .nil [])] 1 [(0,(.reg 7))]),o_ (.build [(.int .i64 0),(.int .i64 0),(.sl .nil []),(.bool false),(.sl .nil [])] [(0,1,(i_ 12)),(4,1,(.reg 8))]),o_ (.store 5 (.loc 2) (.reg 9))])
.ret))⟩
theorem c135 : compFunc Tryz.prog opts a135 Tryz.f135 = some t135 := by kernel_rfl
def a138 : Ann := { slots := [0,1,4,5,6,7,9,11,17,23,34],lb := [],mu := [],trunc := [],draws := [] }
def t138 : TFunc := ⟨2,11,[.loc 2],
(.seq (.region [s_ 2 (.mov (.cst (.str [])))])
(.seq (.seq (.region [o_ (.mov (.loc 1)),s_ 7 (.bin .eql (.reg 0) (i_ 10))])
(.cond (.loc 7)
(.seq (.seq (.region [o_ (.mov (.loc 0)),o_ (.bin .leq (i_ 0) (.reg 0)),o_ (.mov (.reg 1)),⟨.mov (.loc 0),none,(some (2,true))⟩,⟨.bin .lss (.reg 3) (i_ 100),none,(some (2,true))⟩,s_ 8 (.pick (.reg 2) (.reg 4) (.cst (.bool false)))])
(.cond (.loc 8)
(.seq (.region [o_ (.mov (.loc 0)),o_ (.call true false 161 [(.reg 0)]),s_ 2 (.mov (.reg 1))])
.ret)
.skip))
(.seq (.region [s_ 3 (.allocH 176 [(.int .u8 0),(.int .u8 0),(.int .u8 0),(.int .u8 0),(.int .u8 0),(.int .u8 0),(.int .u8 0),(.int .u8 0),(.int .u8 0),(.int .u8 0),(.int .u8 0),(.int .u8 0),(.int .u8 0),(.int .u8 0),(.int .u8 0),(.int .u8 0),(.int .u8 0),(.int .u8 0),(.int .u8 0),(.int .u8 0),(.int .u8 0),(.int .u8 0),(.int .u8 0),(.int .u8 0)])])
(.seq (.region [o_ (.mov (.loc 0)),o_ (.conv (.toInt .u64) (.reg 0)),s_ 4 (.mov (.reg 1))])
(.seq (.seq (.region [o_ (.mov (.loc 0)),s_ 9 (.bin .lss (.reg 0) (i_ 0))])
(.cond (.loc 9)
(.region [o_ (.mov (.loc 4)),o_ (.un .neg (.reg 0)),s_ 4 (.mov (.reg 1))])
.skip))
(.seq (.region [o_ (.mov (.loc 4)),o_ (.call true false 162 [(.reg 0)]),s_ 5 (.mov (.reg 1))])
(.seq (.region [o_ (.mov (.loc 5)),o_ (.bin .add (i_ 1) (.reg 0)),o_ (.slice (.arr 24 1) (.loc 3) (some (i_ 1)) (some (.reg 1)) none),o_ (.mov (.loc 4)),o_ (.call false false 163 [(.reg 2),(.reg 3)])])
(.seq (.seq (.region [o_ (.mov (.loc 0)),s_ 10 (.bin .lss (.reg 0) (i_ 0))])
(.cond (.loc 10)
(.seq (.region [o_ (.indexAddrA 24 1 (.loc 3) (i_ 0)),o_ (.store 1 (.reg 0) (.cst (.int .u8 45)))])
(.seq (.region [o_ (.mov (.loc 5)),o_ (.bin .add (i_ 1) (.reg 0)),o_ (.slice (.arr 24 1) (.loc 3) none (some (.reg 1)) none),o_ (.conv .bytesStr (.reg 2)),s_ 2 (.mov (.reg 3))])
.ret))
.skip))
(.seq (.region [o_ (.mov (.loc 5)),o_ (.bin .add (i_ 1) (.reg 0)),o_ (.slice (.arr 24 1) (.loc 3) (some (i_ 1)) (some (.reg 1)) none),o_ (.conv .bytesStr (.reg 2)),s_ 2 (.mov (.reg 3))])
.ret))))))))
.skip))
(.seq (.region [o_ (.mov (.loc 0)),o_ (.conv (.toInt .u64) (.reg 0)),o_ (.mov (.loc 1)),o_ (.mov (.loc 0)),o_ (.bin .lss (.reg 3) (i_ 0)),o_ (.call true false 164 [(.cst (.sl .nil [])),(.reg 1),(.reg 2),(.reg 4),(.cst (.bool false))]),o_ (.mov (.reg 5)),o_ (.extract 0 (.reg 6)),o_ (.extract 1 (.reg 6)),o_ (.mov (.reg 7)),s_ 6 (.mov (.reg 8))])
(.seq (.region [o_ (.mov (.loc 6)),s_ 2 (.mov (.reg 0))])
.ret))))⟩
theorem c138 : compFunc Tryz.prog opts a138 Tryz.f138 = some t138 := by kernel_rfl
def a139 : Ann := { slots := [0,1,4],lb := [],mu := [],trunc := [],draws := [(0,⟨[0,1,3,7,15,31,0,127,255,0,512,1536,3584,7680,16383,32767],[0,1,2,3,4,5,6,7,9,10,11,12,13],[(8,[12,13],[14,15])]⟩)] }
def t139 : TFunc := ⟨2,3,[],
(.seq (.draw [0,1,2,3,4,5,6,7,9,10,11,12,13] [(8,[12,13],[14,15])] [o_ (.mov (.loc 0)),o_ (.nilCheck (.reg 0)),o_ (.fieldAddr 1 (.reg 1)),o_ (.load1 (.reg 2)),o_ (.cap (.reg 3)),o_ (.bin .mul (i_ 2) (.reg 4)),o_ (.mov (.loc 1)),o_ (.bin .add (.reg 5) (.reg 6)),o_ (.prim 165 [(.reg 7)]),o_ (.mov (.loc 0)),o_ (.nilCheck (.reg 9)),o_ (.fieldAddr 1 (.reg 10)),o_ (.load1 (.reg 11)),o_ (.len .sl (.reg 12)),o_ (.slice (.sl 1) (.reg 8) none (some (.reg 13)) none),s_ 2 (.mov (.reg 14))])
(.seq (.region [o_ (.mov (.loc 2)),o_ (.mov (.loc 0)),o_ (.nilCheck (.reg 1)),o_ (.fieldAddr 1 (.reg 2)),o_ (.load1 (.reg 3)),o_ (.copy 1 (.reg 0) (.reg 4))])
(.region [o_ (.mov (.loc 0)),o_ (.mov (.loc 2)),o_ (.nilCheck (.reg 0)),o_ (.fieldAddr 1 (.reg 2)),o_ (.store 1 (.reg 3) (.reg 1))])))⟩
theorem c139 : compFunc Tryz.prog opts a139 Tryz.f139 = some t139 := by kernel_rfl
def a148 : Ann := { slots := [0,1,4],lb := [],mu := [],trunc := [],draws := [] }
def t148 : TFunc := ⟨2,3,[.loc 2],
(.seq (.region [s_ 2 (.mov (.cst (.str [])))])
(.seq (.region [o_ (.mov (.loc 0)),o_ (.mov (.loc 1)),o_ (.call true false 170 [(.reg 0),(.reg 1)]),s_ 2 (.mov (.reg 2))])
.ret))⟩
theorem c148 : compFunc Tryz.prog opts a148 Tryz.f148 = some t148 := by kernel_rfl
def a149 : Ann := { slots := [0,1,4],lb := [],mu := [],trunc := [],draws := [] }
def t149 : TFunc := ⟨2,3,[.loc 2],
(.seq (.region [s_ 2 (.mov (.cst (.bool false)))])
(.seq (.region [o_ (.mov (.loc 0)),o_ (.mov (.loc 1)),o_ (.call false false 171 [(.reg 0),(.reg 1)]),o_ (.bin .geq (.reg 2) (i_ 0)),s_ 2 (.mov (.reg 3))])
.ret))⟩
theorem c149 : compFunc Tryz.prog opts a149 Tryz.f149 = some t149 := by kernel_rfl
def a150 : Ann := { slots := [0,2],lb := [],mu := [],trunc := [],draws := [] }
def t150 : TFunc := ⟨1,2,[.loc 1],
(.seq (.region [s_ 1 (.mov (.cst (.bool false)))])
(.seq (.region [o_ (.mov (.loc 0)),o_ (.bin .lss (.reg 0) (.cst (.int .i32 48))),o_ (.mov (.reg 1)),⟨.mov (.loc 0),none,(some (2,false))⟩,⟨.bin .gtr (.reg 3) (.cst (.int .i32 57)),none,(some (2,false))⟩,o_ (.pick (.reg 2) (.cst (.bool true)) (.reg 4)),s_ 1 (.mov (.reg 5))])
.ret))⟩
theorem c150 : compFunc Tryz.prog opts a150 Tryz.f150 = some t150 := by kernel_rfl
def a151 : Ann := { slots := [0,2,3,10],lb := [],mu := [],trunc := [],draws := [] }
def t151 : TFunc := ⟨1,4,[.loc 1],
(.seq (.region [s_ 1 (.mov (.cst (.bool false)))])
(.seq (.block 0
(.seq (.region [o_ (.mov (.loc 0)),o_ (.bin .leq (.cst (.int .i32 0)) (.reg 0)),o_ (.mov (.reg 1)),⟨.mov (.loc 0),none,(some (2,true))⟩,⟨.bin .lss (.reg 3) (.cst (.int .i32 55296)),none,(some (2,true))⟩,o_ (.pick (.reg 2) (.reg 4) (.cst (.bool false))),s_ 2 (.mov (.reg 5))])
(.cond (.loc 2)
(.seq (.region [s_ 1 (.mov (.cst (.bool true)))])
.ret)
(.seq (.region [o_ (.mov (.loc 0)),o_ (.bin .lss (.cst (.int .i32 57343)) (.reg 0)),o_ (.mov (.reg 1)),⟨.mov (.loc 0),none,(some (2,true))⟩,⟨.bin .leq (.reg 3) (.cst (.int .i32 1114111)),none,(some (2,true))⟩,o_ (.pick (.reg 2) (.reg 4) (.cst (.bool false))),s_ 3 (.mov (.reg 5))])
(.cond (.loc 3)
(.seq (.region [s_ 1 (.mov (.cst (.bool true)))])
.ret)
.skip)))))
(.seq (.region [s_ 1 (.mov (.cst (.bool false)))])
.ret)))⟩
theorem c151 : compFunc Tryz.prog opts a151 Tryz.f151 = some t151 := by kernel_rfl
def a152 : Ann := { slots := [0,2,3,4,5,6,8,11,12,13,17,27],lb := [3],mu := [],trunc := [],draws := [] }
def t152L0 : TCode := (.seq (.region [s_ 8 (.nextS (.loc 7)),s_ 9 (.extract 0 (.reg 0))])
(.seq (.cond (.loc 9)
.skip
(.exit 0))
(.block 1
(.seq (.region [o_ (.extract 1 (.loc 8)),o_ (.extract 2 (.loc 8)),s_ 4 (.mov (.reg 0)),s_ 5 (.mov (.reg 1))])
(.seq (.seq (.region [o_ (.mov (.loc 5)),s_ 10 (.bin .eql (.reg 0) (.cst (.int .i32 65533)))])
(.cond (.loc 10)
(.seq (.region [o_ (.mov (.loc 0)),o_ (.mov (.loc 4)),o_ (.slice (.sl 1) (.reg 0) (some (.reg 1)) none none),o_ (.call true false 172 [(.reg 2)]),o_ (.mov (.reg 3)),o_ (.extract 0 (.reg 4)),o_ (.extract 1 (.reg 4)),o_ (.mov (.reg 5)),s_ 6 (.mov (.reg 6))])
(.seq (.region [o_ (.mov (.loc 5)),o_ (.mov (.loc 6)),s_ 11 (.call true false 173 [(.reg 0),(.reg 1)])])
(.cond (.loc 11)
(.seq (.region [o_ (.mov (.loc 4)),o_ (.build [(.int .i64 0),(.int .i64 0)] [(0,1,(i_ 4)),(1,1,(.reg 0))]),s_ 1 (.mov (.cst (.sl .nil []))),o_ (.store 2 (.loc 2) (.reg 1))])
.ret)
.skip)))
.skip))
(.region [o_ (.mov (.loc 3)),o_ (.mov (.loc 5)),o_ (.conv (.toInt .i64) (.reg 1)),o_ (.mov (.loc 4)),o_ (.build [(.int .i64 0),(.int .i64 0)] [(0,1,(.reg 2)),(1,1,(.reg 3))]),o_ (.lit false [(.int .i64 0),(.int .i64 0)] 1 [(0,(.reg 4))]),o_ (.append false 2 16 167 (.reg 0) (.reg 5)),s_ 3 (.mov (.reg 6))]))))))
def t152 : TFunc := ⟨1,12,[.loc 1,.cell 2 2 true],
(.seq (.region [s_ 1 (.mov (.cst (.sl .nil []))),o_ (.allocL 2 [(.int .i64 0),(.int .i64 0)])])
(.seq (.region [s_ 3 (.mov (.cst (.sl .nil [])))])
(.seq (.seq (.region [o_ (.mov (.loc 0)),o_ (.conv .bytesStr (.reg 0)),s_ 7 (.range true (.reg 1))])
(.block 0
(.loop t152L0)))
(.seq (.region [o_ (.mov (.loc 3)),o_ (.build [(.int .i64 0),(.int .i64 0)] []),s_ 1 (.mov (.reg 0)),o_ (.store 2 (.loc 2) (.reg 1))])
.ret))))⟩
theorem c152 : compFunc Tryz.prog opts a152 Tryz.f152 = some t152 := by kernel_rfl
def a153 : Ann := { slots := [0,1,4,5,7,8,9,16],lb := [],mu := [],trunc := [],draws := [] }
def t153L0 : TCode := (.seq (.region [s_ 6 (.bin .lss (.loc 5) (.loc 4))])
(.seq (.cond (.loc 6)
.skip
(.exit 0))
(.seq (.block 1
(.seq (.region [o_ (.mov (.loc 5)),s_ 3 (.mov (.reg 0))])
(.seq (.region [o_ (.mov (.loc 1)),o_ (.mov (.loc 0)),o_ (.mov (.loc 3)),o_ (.indexAddrS 1 (.reg 1) (.reg 2)),o_ (.load1 (.reg 3)),s_ 7 (.callv (.reg 0) [(.reg 4)])])
(.cond (.loc 7)
(.seq (.region [o_ (.mov (.loc 3)),s_ 2 (.mov (.reg 0))])
.ret)
.skip))))
(.region [o_ (.bin .add (.loc 5) (i_ 1)),s_ 5 (.mov (.reg 0))]))))
def t153 : TFunc := ⟨2,8,[.loc 2],
(.seq (.region [s_ 2 (.mov (i_ 0))])
(.seq (.seq (.region [o_ (.mov (.loc 0)),s_ 4 (.len .sl (.reg 0)),s_ 5 (.mov (i_ 0))])
(.block 0
(.loop t153L0)))
(.seq (.region [s_ 2 (.mov (i_ (-1)))])
.ret)))⟩
theorem c153 : compFunc Tryz.prog opts a153 Tryz.f153 = some t153 := by kernel_rfl
def a157 : Ann := { slots := [0,2,3,4,5,13,18,23,29],lb := [],mu := [],trunc := [],draws := [] }
def t157L0 : TCode := (.seq (.seq (.region [o_ (.mov (.loc 4)),o_ (.mov (.loc 0)),o_ (.len .sl (.reg 1)),s_ 8 (.bin .lss (.reg 0) (.reg 2))])
(.cond (.loc 8)
.skip
(.exit 0)))
(.seq (.block 1
(.region [o_ (.mov (.loc 3)),o_ (.bin .mul (i_ 64) (.reg 0)),o_ (.mov (.loc 0)),o_ (.mov (.loc 4)),o_ (.indexAddrS 1 (.reg 2) (.reg 3)),o_ (.load1 (.reg 4)),o_ (.conv (.toInt .i64) (.reg 5)),o_ (.bin .rem (.reg 6) (i_ 64)),o_ (.bin .add (.reg 1) (.reg 7)),s_ 3 (.mov (.reg 8))]))
(.region [o_ (.mov (.loc 4)),o_ (.bin .add (.reg 0) (i_ 1)),s_ 4 (.mov (.reg 1))])))
def t157 : TFunc := ⟨1,9,[.loc 1],
(.seq (.region [s_ 1 (.mov (i_ 0))])
(.seq (.region [o_ (.mov (.loc 0)),o_ (.indexAddrS 1 (.reg 0) (i_ 0)),o_ (.load1 (.reg 1)),o_ (.conv (.toInt .i64) (.reg 2)),s_ 2 (.mov (.reg 3))])
(.seq (.region [o_ (.mov (.loc 2)),s_ 3 (.mov (.reg 0))])
(.seq (.seq (.region [o_ (.mov (.loc 0)),o_ (.len .sl (.reg 0)),s_ 5 (.bin .eql (.reg 1) (i_ 2))])
(.cond (.loc 5)
(.region [o_ (.mov (.loc 2)),o_ (.bin .rem (.reg 0) (i_ 32)),s_ 3 (.mov (.reg 1))])
.skip))
(.seq (.seq (.region [o_ (.mov (.loc 0)),o_ (.len .sl (.reg 0)),s_ 6 (.bin .eql (.reg 1) (i_ 3))])
(.cond (.loc 6)
(.region [o_ (.mov (.loc 2)),o_ (.bin .rem (.reg 0) (i_ 16)),s_ 3 (.mov (.reg 1))])
.skip))
(.seq (.seq (.region [o_ (.mov (.loc 0)),o_ (.len .sl (.reg 0)),s_ 7 (.bin .eql (.reg 1) (i_ 4))])
(.cond (.loc 7)
(.region [o_ (.mov (.loc 2)),o_ (.bin .rem (.reg 0) (i_ 8)),s_ 3 (.mov (.reg 1))])
.skip))
(.seq (.seq (.region [s_ 4 (.mov (i_ 1))])
(.block 0
(.loop t157L0)))
(.seq (.region [o_ (.mov (.loc 3)),s_ 1 (.mov (.reg 0))])
.ret))))))))⟩
theorem c157 : compFunc Tryz.prog opts a157 Tryz.f157 = some t157 := by kernel_rfl
def a158 : Ann := { slots := [0,2,4,9,20],lb := [],mu := [],trunc := [],draws := [] }
def t158 : TFunc := ⟨1,5,[.loc 1],
(.seq (.region [s_ 1 (.mov (.cst (.sl .nil [])))])
(.seq (.seq (.region [o_ (.mov (.loc 0)),s_ 2 (.bin .lss (.reg 0) (i_ 128))])
(.cond (.loc 2)
(.seq (.region [o_ (.mov (.loc 0)),o_ (.conv (.toInt .u8) (.reg 0)),o_ (.lit false [(.int .u8 0)] 1 [(0,(.reg 1))]),s_ 1 (.mov (.reg 2))])
.ret)
.skip))
(.seq (.seq (.region [o_ (.mov (.loc 0)),s_ 3 (.bin .lss (.reg 0) (i_ 2048))])
(.cond (.loc 3)
(.seq (.region [o_ (.mov (.loc 0)),o_ (.bin .quo (.reg 0) (i_ 64)),o_ (.bin .add (i_ 192) (.reg 1)),o_ (.conv (.toInt .u8) (.reg 2)),o_ (.mov (.loc 0)),o_ (.bin .rem (.reg 4) (i_ 64)),o_ (.bin .add (i_ 128) (.reg 5)),o_ (.conv (.toInt .u8) (.reg 6)),o_ (.lit false [(.int .u8 0)] 2 [(0,(.reg 3)),(1,(.reg 7))]),s_ 1 (.mov (.reg 8))])
.ret)
.skip))
(.seq (.seq (.region [o_ (.mov (.loc 0)),s_ 4 (.bin .lss (.reg 0) (i_ 65536))])
(.cond (.loc 4)
(.seq (.region [o_ (.mov (.loc 0)),o_ (.bin .quo (.reg 0) (i_ 4096)),o_ (.bin .add (i_ 224) (.reg 1)),o_ (.conv (.toInt .u8) (.reg 2)),o_ (.mov (.loc 0)),o_ (.bin .quo (.reg 4) (i_ 64)),o_ (.bin .rem (.reg 5) (i_ 64)),o_ (.bin .add (i_ 128) (.reg 6)),o_ (.conv (.toInt .u8) (.reg 7)),o_ (.mov (.loc 0)),o_ (.bin .rem (.reg 9) (i_ 64)),o_ (.bin .add (i_ 128) (.reg 10)),o_ (.conv (.toInt .u8) (.reg 11)),o_ (.lit false [(.int .u8 0)] 3 [(0,(.reg 3)),(1,(.reg 8)),(2,(.reg 12))]),s_ 1 (.mov (.reg 13))])
.ret)
.skip))
(.seq (.region [o_ (.mov (.loc 0)),o_ (.bin .quo (.reg 0) (i_ 262144)),o_ (.bin .add (i_ 240) (.reg 1)),o_ (.conv (.toInt .u8) (.reg 2)),o_ (.mov (.loc 0)),o_ (.bin .quo (.reg 4) (i_ 4096)),o_ (.bin .rem (.reg 5) (i_ 64)),o_ (.bin .add (i_ 128) (.reg 6)),o_ (.conv (.toInt .u8) (.reg 7)),o_ (.mov (.loc 0)),o_ (.bin .quo (.reg 9) (i_ 64)),o_ (.bin .rem (.reg 10) (i_ 64)),o_ (.bin .add (i_ 128) (.reg 11)),o_ (.conv (.toInt .u8) (.reg 12)),o_ (.mov (.loc 0)),o_ (.bin .rem (.reg 14) (i_ 64)),o_ (.bin .add (i_ 128) (.reg 15)),o_ (.conv (.toInt .u8) (.reg 16)),o_ (.lit false [(.int .u8 0)] 4 [(0,(.reg 3)),(1,(.reg 8)),(2,(.reg 13)),(3,(.reg 17))]),s_ 1 (.mov (.reg 18))])
.ret)))))⟩
theorem c158 : compFunc Tryz.prog opts a158 Tryz.f158 = some t158 := by kernel_rfl
def a161 : Ann := { slots := [0,2,4],lb := [],mu := [],trunc := [],draws := [] }
def t161 : TFunc := ⟨1,3,[.loc 1],
(.seq (.region [s_ 1 (.mov (.cst (.str [])))])
(.seq (.seq (.region [o_ (.mov (.loc 0)),s_ 2 (.bin .lss (.reg 0) (i_ 10))])
(.cond (.loc 2)
(.seq (.region [o_ (.mov (.loc 0)),o_ (.mov (.loc 0)),o_ (.bin .add (.reg 1) (i_ 1)),o_ (.slice .str (.cst (.str [48,49,50,51,52,53,54,55,56,57,97,98,99,100,101,102,103,104,105,106,107,108,109,110,111,112,113,114,115,116,117,118,119,120,121,122])) (some (.reg 0)) (some (.reg 2)) none),s_ 1 (.mov (.reg 3))])
.ret)
.skip))
(.seq (.region [o_ (.mov (.loc 0)),o_ (.bin .mul (.reg 0) (i_ 2)),o_ (.mov (.loc 0)),o_ (.bin .mul (.reg 2) (i_ 2)),o_ (.bin .add (.reg 3) (i_ 2)),o_ (.slice .str (.cst (.str [48,48,48,49,48,50,48,51,48,52,48,53,48,54,48,55,48,56,48,57,49,48,49,49,49,50,49,51,49,52,49,53,49,54,49,55,49,56,49,57,50,48,50,49,50,50,50,51,50,52,50,53,50,54,50,55,50,56,50,57,51,48,51,49,51,50,51,51,51,52,51,53,51,54,51,55,51,56,51,57,52,48,52,49,52,50,52,51,52,52,52,53,52,54,52,55,52,56,52,57,53,48,53,49,53,50,53,51,53,52,53,53,53,54,53,55,53,56,53,57,54,48,54,49,54,50,54,51,54,52,54,53,54,54,54,55,54,56,54,57,55,48,55,49,55,50,55,51,55,52,55,53,55,54,55,55,55,56,55,57,56,48,56,49,56,50,56,51,56,52,56,53,56,54,56,55,56,56,56,57,57,48,57,49,57,50,57,51,57,52,57,53,57,54,57,55,57,56,57,57])) (some (.reg 1)) (some (.reg 4)) none),s_ 1 (.mov (.reg 5))])
.ret)))⟩
theorem c161 : compFunc Tryz.prog opts a161 Tryz.f161 = some t161 := by kernel_rfl
def a162 : Ann := { slots := [0,2,3],lb := [],mu := [],trunc := [],draws := [] }
def t162 : TFunc := ⟨1,3,[.loc 1],
(.seq (.region [s_ 1 (.mov (i_ 0))])
(.seq (.region [o_ (.mov (.loc 0)),o_ (.call true false 184 [(.reg 0)]),o_ (.call true false 185 [(.reg 1)]),s_ 2 (.mov (.reg 2))])
(.seq (.region [o_ (.mov (.loc 2)),o_ (.mov (.loc 0)),o_ (.mov (.loc 2)),o_ (.indexAddrA 20 1 (.glob 0) (.reg 2)),o_ (.load1 (.reg 3)),o_ (.bin .geq (.reg 1) (.reg 4)),o_ (.call true false 186 [(.reg 5)]),o_ (.bin .add (.reg 0) (.reg 6)),s_ 1 (.mov (.reg 7))])
.ret)))⟩
theorem c162 : compFunc Tryz.prog opts a162 Tryz.f162 = some t162 := by kernel_rfl
def a163 : Ann := { slots := [0,1,4,5,6,7,8,9,10,11,12,13,14,15,16,20,99,139,161],lb := [],mu := [],trunc := [],draws := [(7,⟨[0,0,2,0,0,16,0,64,192,0,512,455,2503,8191,16383],[0,1,2,3,4,5,6,7,8,9,10,11],[(12,[],[13]),(14,[],[])]⟩),(8,⟨[0,0,2,0,0,16,0,64,192,0,512,455,2503,8191,16383],[0,1,2,3,4,5,6,7,8,9,10,11],[(12,[],[13]),(14,[],[])]⟩),(9,⟨[0,0,2,0,0,16,0,64,192,0,512,455,2503,8191,16383],[0,1,2,3,4,5,6,7,8,9,10,11],[(12,[],[13]),(14,[],[])]⟩),(10,⟨[0,0,2,0,0,16,0,64,192,0,512,455,2503,8191,16383],[0,1,2,3,4,5,6,7,8,9,10,11],[(12,[],[13]),(14,[],[])]⟩),(17,⟨[0,0,2,0,0,16,0,64,192,0,512,455,2503,8191,16383],[0,1,2,3,4,5,6,7,8,9,10,11],[(12,[],[13]),(14,[],[])]⟩),(18,⟨[0,0,2,0,0,16,0,64,192,0,512,455,2503,8191,16383],[0,1,2,3,4,5,6,7,8,9,10,11],[(12,[],[13]),(14,[],[])]⟩),(23,⟨[0,0,2,0,0,16,0,64,192,0,512,455,2503,8191,16383],[0,1,2,3,4,5,6,7,8,9,10,11],[(12,[],[13]),(14,[],[])]⟩)] }
def t163L0 : TCode := (.seq (.seq (.region [o_ (.mov (.loc 2)),s_ 15 (.bin .geq (.reg 0) (i_ 8))])
(.cond (.loc 15)
.skip
(.exit 0)))
(.block 1
(.seq (.region [o_ (.mov (.loc 1)),o_ (.bin .rem (.reg 0) (.cst (.int .u64 100000000))),o_ (.conv (.toInt .u32) (.reg 1)),s_ 3 (.mov (.reg 2))])
(.seq (.region [o_ (.mov (.loc 1)),o_ (.bin .quo (.reg 0) (.cst (.int .u64 100000000))),s_ 1 (.mov (.reg 1))])
(.seq (.region [o_ (.mov (.loc 3)),o_ (.bin .quo (.reg 0) (.cst (.int .u32 10000))),o_ (.mov (.loc 3)),o_ (.bin .rem (.reg 2) (.cst (.int .u32 10000))),s_ 4 (.mov (.reg 1)),s_ 5 (.mov (.reg 3))])
(.seq (.region [o_ (.mov (.loc 5)),o_ (.bin .quo (.reg 0) (.cst (.int .u32 100))),o_ (.bin .mul (.reg 1) (.cst (.int .u32 2))),o_ (.mov (.loc 5)),o_ (.bin .rem (.reg 3) (.cst (.int .u32 100))),o_ (.bin .mul (.reg 4) (.cst (.int .u32 2))),s_ 6 (.mov (.reg 2)),s_ 7 (.mov (.reg 5))])
(.seq (.region [o_ (.mov (.loc 4)),o_ (.bin .quo (.reg 0) (.cst (.int .u32 100))),o_ (.bin .mul (.reg 1) (.cst (.int .u32 2))),o_ (.mov (.loc 4)),o_ (.bin .rem (.reg 3) (.cst (.int .u32 100))),o_ (.bin .mul (.reg 4) (.cst (.int .u32 2))),s_ 8 (.mov (.reg 2)),s_ 9 (.mov (.reg 5))])
(.seq (.draw [0,1,2,3,4,5,6,7,8,9,10,11] [(12,[],[13]),(14,[],[])] [o_ (.mov (.loc 0)),o_ (.mov (.loc 2)),o_ (.bin .sub (.reg 1) (i_ 1)),o_ (.mov (.loc 0)),o_ (.mov (.loc 2)),o_ (.bin .sub (.reg 4) (i_ 2)),o_ (.mov (.loc 7)),o_ (.bin .add (.reg 6) (.cst (.int .u32 1))),o_ (.indexS (.cst (.str [48,48,48,49,48,50,48,51,48,52,48,53,48,54,48,55,48,56,48,57,49,48,49,49,49,50,49,51,49,52,49,53,49,54,49,55,49,56,49,57,50,48,50,49,50,50,50,51,50,52,50,53,50,54,50,55,50,56,50,57,51,48,51,49,51,50,51,51,51,52,51,53,51,54,51,55,51,56,51,57,52,48,52,49,52,50,52,51,52,52,52,53,52,54,52,55,52,56,52,57,53,48,53,49,53,50,53,51,53,52,53,53,53,54,53,55,53,56,53,57,54,48,54,49,54,50,54,51,54,52,54,53,54,54,54,55,54,56,54,57,55,48,55,49,55,50,55,51,55,52,55,53,55,54,55,55,55,56,55,57,56,48,56,49,56,50,56,51,56,52,56,53,56,54,56,55,56,56,56,57,57,48,57,49,57,50,57,51,57,52,57,53,57,54,57,55,57,56,57,57])) (.reg 7)),o_ (.mov (.loc 7)),o_ (.indexS (.cst (.str [48,48,48,49,48,50,48,51,48,52,48,53,48,54,48,55,48,56,48,57,49,48,49,49,49,50,49,51,49,52,49,53,49,54,49,55,49,56,49,57,50,48,50,49,50,50,50,51,50,52,50,53,50,54,50,55,50,56,50,57,51,48,51,49,51,50,51,51,51,52,51,53,51,54,51,55,51,56,51,57,52,48,52,49,52,50,52,51,52,52,52,53,52,54,52,55,52,56,52,57,53,48,53,49,53,50,53,51,53,52,53,53,53,54,53,55,53,56,53,57,54,48,54,49,54,50,54,51,54,52,54,53,54,54,54,55,54,56,54,57,55,48,55,49,55,50,55,51,55,52,55,53,55,54,55,55,55,56,55,57,56,48,56,49,56,50,56,51,56,52,56,53,56,54,56,55,56,56,56,57,57,48,57,49,57,50,57,51,57,52,57,53,57,54,57,55,57,56,57,57])) (.reg 9)),o_ (.indexAddrS 1 (.reg 0) (.reg 2)),o_ (.store 1 (.reg 11) (.reg 8)),o_ (.indexAddrS 1 (.reg 3) (.reg 5)),o_ (.store 1 (.reg 13) (.reg 10))])
(.seq (.draw [0,1,2,3,4,5,6,7,8,9,10,11] [(12,[],[13]),(14,[],[])] [o_ (.mov (.loc 0)),o_ (.mov (.loc 2)),o_ (.bin .sub (.reg 1) (i_ 3)),o_ (.mov (.loc 0)),o_ (.mov (.loc 2)),o_ (.bin .sub (.reg 4) (i_ 4)),o_ (.mov (.loc 6)),o_ (.bin .add (.reg 6) (.cst (.int .u32 1))),o_ (.indexS (.cst (.str [48,48,48,49,48,50,48,51,48,52,48,53,48,54,48,55,48,56,48,57,49,48,49,49,49,50,49,51,49,52,49,53,49,54,49,55,49,56,49,57,50,48,50,49,50,50,50,51,50,52,50,53,50,54,50,55,50,56,50,57,51,48,51,49,51,50,51,51,51,52,51,53,51,54,51,55,51,56,51,57,52,48,52,49,52,50,52,51,52,52,52,53,52,54,52,55,52,56,52,57,53,48,53,49,53,50,53,51,53,52,53,53,53,54,53,55,53,56,53,57,54,48,54,49,54,50,54,51,54,52,54,53,54,54,54,55,54,56,54,57,55,48,55,49,55,50,55,51,55,52,55,53,55,54,55,55,55,56,55,57,56,48,56,49,56,50,56,51,56,52,56,53,56,54,56,55,56,56,56,57,57,48,57,49,57,50,57,51,57,52,57,53,57,54,57,55,57,56,57,57])) (.reg 7)),o_ (.mov (.loc 6)),o_ (.indexS (.cst (.str [48,48,48,49,48,50,48,51,48,52,48,53,48,54,48,55,48,56,48,57,49,48,49,49,49,50,49,51,49,52,49,53,49,54,49,55,49,56,49,57,50,48,50,49,50,50,50,51,50,52,50,53,50,54,50,55,50,56,50,57,51,48,51,49,51,50,51,51,51,52,51,53,51,54,51,55,51,56,51,57,52,48,52,49,52,50,52,51,52,52,52,53,52,54,52,55,52,56,52,57,53,48,53,49,53,50,53,51,53,52,53,53,53,54,53,55,53,56,53,57,54,48,54,49,54,50,54,51,54,52,54,53,54,54,54,55,54,56,54,57,55,48,55,49,55,50,55,51,55,52,55,53,55,54,55,55,55,56,55,57,56,48,56,49,56,50,56,51,56,52,56,53,56,54,56,55,56,56,56,57,57,48,57,49,57,50,57,51,57,52,57,53,57,54,57,55,57,56,57,57])) (.reg 9)),o_ (.indexAddrS 1 (.reg 0) (.reg 2)),o_ (.store 1 (.reg 11) (.reg 8)),o_ (.indexAddrS 1 (.reg 3) (.reg 5)),o_ (.store 1 (.reg 13) (.reg 10))])
(.seq (.draw [0,1,2,3,4,5,6,7,8,9,10,11] [(12,[],[13]),(14,[],[])] [o_ (.mov (.loc 0)),o_ (.mov (.loc 2)),o_ (.bin .sub (.reg 1) (i_ 5)),o_ (.mov (.loc 0)),o_ (.mov (.loc 2)),o_ (.bin .sub (.reg 4) (i_ 6)),o_ (.mov (.loc 9)),o_ (.bin .add (.reg 6) (.cst (.int .u32 1))),o_ (.indexS (.cst (.str [48,48,48,49,48,50,48,51,48,52,48,53,48,54,48,55,48,56,48,57,49,48,49,49,49,50,49,51,49,52,49,53,49,54,49,55,49,56,49,57,50,48,50,49,50,50,50,51,50,52,50,53,50,54,50,55,50,56,50,57,51,48,51,49,51,50,51,51,51,52,51,53,51,54,51,55,51,56,51,57,52,48,52,49,52,50,52,51,52,52,52,53,52,54,52,55,52,56,52,57,53,48,53,49,53,50,53,51,53,52,53,53,53,54,53,55,53,56,53,57,54,48,54,49,54,50,54,51,54,52,54,53,54,54,54,55,54,56,54,57,55,48,55,49,55,50,55,51,55,52,55,53,55,54,55,55,55,56,55,57,56,48,56,49,56,50,56,51,56,52,56,53,56,54,56,55,56,56,56,57,57,48,57,49,57,50,57,51,57,52,57,53,57,54,57,55,57,56,57,57])) (.reg 7)),o_ (.mov (.loc 9)),o_ (.indexS (.cst (.str [48,48,48,49,48,50,48,51,48,52,48,53,48,54,48,55,48,56,48,57,49,48,49,49,49,50,49,51,49,52,49,53,49,54,49,55,49,56,49,57,50,48,50,49,50,50,50,51,50,52,50,53,50,54,50,55,50,56,50,57,51,48,51,49,51,50,51,51,51,52,51,53,51,54,51,55,51,56,51,57,52,48,52,49,52,50,52,51,52,52,52,53,52,54,52,55,52,56,52,57,53,48,53,49,53,50,53,51,53,52,53,53,53,54,53,55,53,56,53,57,54,48,54,49,54,50,54,51,54,52,54,53,54,54,54,55,54,56,54,57,55,48,55,49,55,50,55,51,55,52,55,53,55,54,55,55,55,56,55,57,56,48,56,49,56,50,56,51,56,52,56,53,56,54,56,55,56,56,56,57,57,48,57,49,57,50,57,51,57,52,57,53,57,54,57,55,57,56,57,57])) (.reg 9)),o_ (.indexAddrS 1 (.reg 0) (.reg 2)),o_ (.store 1 (.reg 11) (.reg 8)),o_ (.indexAddrS 1 (.reg 3) (.reg 5)),o_ (.store 1 (.reg 13) (.reg 10))])
(.seq (.draw [0,1,2,3,4,5,6,7,8,9,10,11] [(12,[],[13]),(14,[],[])] [o_ (.mov (.loc 0)),o_ (.mov (.loc 2)),o_ (.bin .sub (.reg 1) (i_ 7)),o_ (.mov (.loc 0)),o_ (.mov (.loc 2)),o_ (.bin .sub (.reg 4) (i_ 8)),o_ (.mov (.loc 8)),o_ (.bin .add (.reg 6) (.cst (.int .u32 1))),o_ (.indexS (.cst (.str [48,48,48,49,48,50,48,51,48,52,48,53,48,54,48,55,48,56,48,57,49,48,49,49,49,50,49,51,49,52,49,53,49,54,49,55,49,56,49,57,50,48,50,49,50,50,50,51,50,52,50,53,50,54,50,55,50,56,50,57,51,48,51,49,51,50,51,51,51,52,51,53,51,54,51,55,51,56,51,57,52,48,52,49,52,50,52,51,52,52,52,53,52,54,52,55,52,56,52,57,53,48,53,49,53,50,53,51,53,52,53,53,53,54,53,55,53,56,53,57,54,48,54,49,54,50,54,51,54,52,54,53,54,54,54,55,54,56,54,57,55,48,55,49,55,50,55,51,55,52,55,53,55,54,55,55,55,56,55,57,56,48,56,49,56,50,56,51,56,52,56,53,56,54,56,55,56,56,56,57,57,48,57,49,57,50,57,51,57,52,57,53,57,54,57,55,57,56,57,57])) (.reg 7)),o_ (.mov (.loc 8)),o_ (.indexS (.cst (.str [48,48,48,49,48,50,48,51,48,52,48,53,48,54,48,55,48,56,48,57,49,48,49,49,49,50,49,51,49,52,49,53,49,54,49,55,49,56,49,57,50,48,50,49,50,50,50,51,50,52,50,53,50,54,50,55,50,56,50,57,51,48,51,49,51,50,51,51,51,52,51,53,51,54,51,55,51,56,51,57,52,48,52,49,52,50,52,51,52,52,52,53,52,54,52,55,52,56,52,57,53,48,53,49,53,50,53,51,53,52,53,53,53,54,53,55,53,56,53,57,54,48,54,49,54,50,54,51,54,52,54,53,54,54,54,55,54,56,54,57,55,48,55,49,55,50,55,51,55,52,55,53,55,54,55,55,55,56,55,57,56,48,56,49,56,50,56,51,56,52,56,53,56,54,56,55,56,56,56,57,57,48,57,49,57,50,57,51,57,52,57,53,57,54,57,55,57,56,57,57])) (.reg 9)),o_ (.indexAddrS 1 (.reg 0) (.reg 2)),o_ (.store 1 (.reg 11) (.reg 8)),o_ (.indexAddrS 1 (.reg 3) (.reg 5)),o_ (.store 1 (.reg 13) (.reg 10))])
(.region [o_ (.mov (.loc 2)),o_ (.bin .sub (.reg 0) (i_ 8)),s_ 2 (.mov (.reg 1))]))))))))))))
def t163 : TFunc := ⟨2,19,[],
(.seq (.region [o_ (.mov (.loc 0)),o_ (.len .sl (.reg 0)),s_ 2 (.mov (.reg 1))])
(.seq (.block 0
(.loop t163L0))
(.seq (.region [o_ (.mov (.loc 1)),o_ (.conv (.toInt .u32) (.reg 0)),s_ 10 (.mov (.reg 1))])
(.seq (.seq (.region [o_ (.mov (.loc 2)),s_ 16 (.bin .geq (.reg 0) (i_ 4))])
(.cond (.loc 16)
(.seq (.region [o_ (.mov (.loc 10)),o_ (.bin .rem (.reg 0) (.cst (.int .u32 10000))),s_ 11 (.mov (.reg 1))])
(.seq (.region [o_ (.mov (.loc 10)),o_ (.bin .quo (.reg 0) (.cst (.int .u32 10000))),s_ 10 (.mov (.reg 1))])
(.seq (.region [o_ (.mov (.loc 11)),o_ (.bin .quo (.reg 0) (.cst (.int .u32 100))),o_ (.bin .mul (.reg 1) (.cst (.int .u32 2))),o_ (.mov (.loc 11)),o_ (.bin .rem (.reg 3) (.cst (.int .u32 100))),o_ (.bin .mul (.reg 4) (.cst (.int .u32 2))),s_ 12 (.mov (.reg 2)),s_ 13 (.mov (.reg 5))])
(.seq (.draw [0,1,2,3,4,5,6,7,8,9,10,11] [(12,[],[13]),(14,[],[])] [o_ (.mov (.loc 0)),o_ (.mov (.loc 2)),o_ (.bin .sub (.reg 1) (i_ 1)),o_ (.mov (.loc 0)),o_ (.mov (.loc 2)),o_ (.bin .sub (.reg 4) (i_ 2)),o_ (.mov (.loc 13)),o_ (.bin .add (.reg 6) (.cst (.int .u32 1))),o_ (.indexS (.cst (.str [48,48,48,49,48,50,48,51,48,52,48,53,48,54,48,55,48,56,48,57,49,48,49,49,49,50,49,51,49,52,49,53,49,54,49,55,49,56,49,57,50,48,50,49,50,50,50,51,50,52,50,53,50,54,50,55,50,56,50,57,51,48,51,49,51,50,51,51,51,52,51,53,51,54,51,55,51,56,51,57,52,48,52,49,52,50,52,51,52,52,52,53,52,54,52,55,52,56,52,57,53,48,53,49,53,50,53,51,53,52,53,53,53,54,53,55,53,56,53,57,54,48,54,49,54,50,54,51,54,52,54,53,54,54,54,55,54,56,54,57,55,48,55,49,55,50,55,51,55,52,55,53,55,54,55,55,55,56,55,57,56,48,56,49,56,50,56,51,56,52,56,53,56,54,56,55,56,56,56,57,57,48,57,49,57,50,57,51,57,52,57,53,57,54,57,55,57,56,57,57])) (.reg 7)),o_ (.mov (.loc 13)),o_ (.indexS (.cst (.str [48,48,48,49,48,50,48,51,48,52,48,53,48,54,48,55,48,56,48,57,49,48,49,49,49,50,49,51,49,52,49,53,49,54,49,55,49,56,49,57,50,48,50,49,50,50,50,51,50,52,50,53,50,54,50,55,50,56,50,57,51,48,51,49,51,50,51,51,51,52,51,53,51,54,51,55,51,56,51,57,52,48,52,49,52,50,52,51,52,52,52,53,52,54,52,55,52,56,52,57,53,48,53,49,53,50,53,51,53,52,53,53,53,54,53,55,53,56,53,57,54,48,54,49,54,50,54,51,54,52,54,53,54,54,54,55,54,56,54,57,55,48,55,49,55,50,55,51,55,52,55,53,55,54,55,55,55,56,55,57,56,48,56,49,56,50,56,51,56,52,56,53,56,54,56,55,56,56,56,57,57,48,57,49,57,50,57,51,57,52,57,53,57,54,57,55,57,56,57,57])) (.reg 9)),o_ (.indexAddrS 1 (.reg 0) (.reg 2)),o_ (.store 1 (.reg 11) (.reg 8)),o_ (.indexAddrS 1 (.reg 3) (.reg 5)),o_ (.store 1 (.reg 13) (.reg 10))])
(.seq (.draw [0,1,2,3,4,5,6,7,8,9,10,11] [(12,[],[13]),(14,[],[])] [o_ (.mov (.loc 0)),o_ (.mov (.loc 2)),o_ (.bin .sub (.reg 1) (i_ 3)),o_ (.mov (.loc 0)),o_ (.mov (.loc 2)),o_ (.bin .sub (.reg 4) (i_ 4)),o_ (.mov (.loc 12)),o_ (.bin .add (.reg 6) (.cst (.int .u32 1))),o_ (.indexS (.cst (.str [48,48,48,49,48,50,48,51,48,52,48,53,48,54,48,55,48,56,48,57,49,48,49,49,49,50,49,51,49,52,49,53,49,54,49,55,49,56,49,57,50,48,50,49,50,50,50,51,50,52,50,53,50,54,50,55,50,56,50,57,51,48,51,49,51,50,51,51,51,52,51,53,51,54,51,55,51,56,51,57,52,48,52,49,52,50,52,51,52,52,52,53,52,54,52,55,52,56,52,57,53,48,53,49,53,50,53,51,53,52,53,53,53,54,53,55,53,56,53,57,54,48,54,49,54,50,54,51,54,52,54,53,54,54,54,55,54,56,54,57,55,48,55,49,55,50,55,51,55,52,55,53,55,54,55,55,55,56,55,57,56,48,56,49,56,50,56,51,56,52,56,53,56,54,56,55,56,56,56,57,57,48,57,49,57,50,57,51,57,52,57,53,57,54,57,55,57,56,57,57])) (.reg 7)),o_ (.mov (.loc 12)),o_ (.indexS (.cst (.str [48,48,48,49,48,50,48,51,48,52,48,53,48,54,48,55,48,56,48,57,49,48,49,49,49,50,49,51,49,52,49,53,49,54,49,55,49,56,49,57,50,48,50,49,50,50,50,51,50,52,50,53,50,54,50,55,50,56,50,57,51,48,51,49,51,50,51,51,51,52,51,53,51,54,51,55,51,56,51,57,52,48,52,49,52,50,52,51,52,52,52,53,52,54,52,55,52,56,52,57,53,48,53,49,53,50,53,51,53,52,53,53,53,54,53,55,53,56,53,57,54,48,54,49,54,50,54,51,54,52,54,53,54,54,54,55,54,56,54,57,55,48,55,49,55,50,55,51,55,52,55,53,55,54,55,55,55,56,55,57,56,48,56,49,56,50,56,51,56,52,56,53,56,54,56,55,56,56,56,57,57,48,57,49,57,50,57,51,57,52,57,53,57,54,57,55,57,56,57,57])) (.reg 9)),o_ (.indexAddrS 1 (.reg 0) (.reg 2)),o_ (.store 1 (.reg 11) (.reg 8)),o_ (.indexAddrS 1 (.reg 3) (.reg 5)),o_ (.store 1 (.reg 13) (.reg 10))])
(.region [o_ (.mov (.loc 2)),o_ (.bin .sub (.reg 0) (i_ 4)),s_ 2 (.mov (.reg 1))]))))))
.skip))
(.seq (.seq (.region [o_ (.mov (.loc 2)),s_ 17 (.bin .geq (.reg 0) (i_ 2))])
(.cond (.loc 17)
(.seq (.region [o_ (.mov (.loc 10)),o_ (.bin .rem (.reg 0) (.cst (.int .u32 100))),o_ (.bin .mul (.reg 1) (.cst (.int .u32 2))),s_ 14 (.mov (.reg 2))])
(.seq (.region [o_ (.mov (.loc 10)),o_ (.bin .quo (.reg 0) (.cst (.int .u32 100))),s_ 10 (.mov (.reg 1))])
(.seq (.draw [0,1,2,3,4,5,6,7,8,9,10,11] [(12,[],[13]),(14,[],[])] [o_ (.mov (.loc 0)),o_ (.mov (.loc 2)),o_ (.bin .sub (.reg 1) (i_ 1)),o_ (.mov (.loc 0)),o_ (.mov (.loc 2)),o_ (.bin .sub (.reg 4) (i_ 2)),o_ (.mov (.loc 14)),o_ (.bin .add (.reg 6) (.cst (.int .u32 1))),o_ (.indexS (.cst (.str [48,48,48,49,48,50,48,51,48,52,48,53,48,54,48,55,48,56,48,57,49,48,49,49,49,50,49,51,49,52,49,53,49,54,49,55,49,56,49,57,50,48,50,49,50,50,50,51,50,52,50,53,50,54,50,55,50,56,50,57,51,48,51,49,51,50,51,51,51,52,51,53,51,54,51,55,51,56,51,57,52,48,52,49,52,50,52,51,52,52,52,53,52,54,52,55,52,56,52,57,53,48,53,49,53,50,53,51,53,52,53,53,53,54,53,55,53,56,53,57,54,48,54,49,54,50,54,51,54,52,54,53,54,54,54,55,54,56,54,57,55,48,55,49,55,50,55,51,55,52,55,53,55,54,55,55,55,56,55,57,56,48,56,49,56,50,56,51,56,52,56,53,56,54,56,55,56,56,56,57,57,48,57,49,57,50,57,51,57,52,57,53,57,54,57,55,57,56,57,57])) (.reg 7)),o_ (.mov (.loc 14)),o_ (.indexS (.cst (.str [48,48,48,49,48,50,48,51,48,52,48,53,48,54,48,55,48,56,48,57,49,48,49,49,49,50,49,51,49,52,49,53,49,54,49,55,49,56,49,57,50,48,50,49,50,50,50,51,50,52,50,53,50,54,50,55,50,56,50,57,51,48,51,49,51,50,51,51,51,52,51,53,51,54,51,55,51,56,51,57,52,48,52,49,52,50,52,51,52,52,52,53,52,54,52,55,52,56,52,57,53,48,53,49,53,50,53,51,53,52,53,53,53,54,53,55,53,56,53,57,54,48,54,49,54,50,54,51,54,52,54,53,54,54,54,55,54,56,54,57,55,48,55,49,55,50,55,51,55,52,55,53,55,54,55,55,55,56,55,57,56,48,56,49,56,50,56,51,56,52,56,53,56,54,56,55,56,56,56,57,57,48,57,49,57,50,57,51,57,52,57,53,57,54,57,55,57,56,57,57])) (.reg 9)),o_ (.indexAddrS 1 (.reg 0) (.reg 2)),o_ (.store 1 (.reg 11) (.reg 8)),o_ (.indexAddrS 1 (.reg 3) (.reg 5)),o_ (.store 1 (.reg 13) (.reg 10))])
(.region [o_ (.mov (.loc 2)),o_ (.bin .sub (.reg 0) (i_ 2)),s_ 2 (.mov (.reg 1))]))))
.skip))
(.seq (.region [o_ (.mov (.loc 2)),s_ 18 (.bin .gtr (.reg 0) (i_ 0))])
(.cond (.loc 18)
(.region [o_ (.mov (.loc 0)),o_ (.mov (.loc 10)),o_ (.bin .add (.cst (.int .u32 48)) (.reg 1)),o_ (.conv (.toInt .u8) (.reg 2)),o_ (.indexAddrS 1 (.reg 0) (i_ 0)),o_ (.store 1 (.reg 4) (.reg 3))])
.skip)))))))⟩
theorem c163 : compFunc Tryz.prog opts a163 Tryz.f163 = some t163 := by kernel_rfl
def a164 : Ann := { slots := [0,1,2,3,4,10,11,12,13,14,15,16,17,18,28,30,34,46,68,89,94],lb := [],mu := [],trunc := [],draws := [] }
def t164L0 : TCode := (.seq (.seq (.region [o_ (.mov (.loc 1)),o_ (.mov (.loc 12)),s_ 18 (.bin .geq (.reg 0) (.reg 1))])
(.cond (.loc 18)
.skip
(.exit 2)))
(.block 3
(.seq (.region [o_ (.mov (.loc 8)),o_ (.bin .sub (.reg 0) (i_ 1)),s_ 8 (.mov (.reg 1))])
(.seq (.region [o_ (.mov (.loc 1)),o_ (.mov (.loc 12)),o_ (.bin .quo (.reg 0) (.reg 1)),s_ 13 (.mov (.reg 2))])
(.seq (.region [o_ (.mov (.loc 8)),o_ (.mov (.loc 1)),o_ (.mov (.loc 13)),o_ (.mov (.loc 12)),o_ (.bin .mul (.reg 2) (.reg 3)),o_ (.bin .sub (.reg 1) (.reg 4)),o_ (.indexS (.cst (.str [48,49,50,51,52,53,54,55,56,57,97,98,99,100,101,102,103,104,105,106,107,108,109,110,111,112,113,114,115,116,117,118,119,120,121,122])) (.reg 5)),o_ (.indexAddrA 65 1 (.loc 7) (.reg 0)),o_ (.store 1 (.reg 7) (.reg 6))])
(.region [o_ (.mov (.loc 13)),s_ 1 (.mov (.reg 0))]))))))
def t164L1 : TCode := (.seq (.seq (.region [o_ (.mov (.loc 1)),o_ (.mov (.loc 10)),s_ 17 (.bin .geq (.reg 0) (.reg 1))])
(.cond (.loc 17)
.skip
(.exit 0)))
(.block 1
(.seq (.region [o_ (.mov (.loc 8)),o_ (.bin .sub (.reg 0) (i_ 1)),s_ 8 (.mov (.reg 1))])
(.seq (.region [o_ (.mov (.loc 8)),o_ (.mov (.loc 1)),o_ (.mov (.loc 11)),o_ (.bin .and (.reg 1) (.reg 2)),o_ (.indexS (.cst (.str [48,49,50,51,52,53,54,55,56,57,97,98,99,100,101,102,103,104,105,106,107,108,109,110,111,112,113,114,115,116,117,118,119,120,121,122])) (.reg 3)),o_ (.indexAddrA 65 1 (.loc 7) (.reg 0)),o_ (.store 1 (.reg 5) (.reg 4))])
(.region [o_ (.mov (.loc 1)),o_ (.mov (.loc 9)),o_ (.bin .shr (.reg 0) (.reg 1)),s_ 1 (.mov (.reg 2))])))))
def t164 : TFunc := ⟨5,21,[.loc 5,.loc 6],
(.seq (.region [s_ 5 (.mov (.cst (.sl .nil []))),s_ 6 (.mov (.cst (.str [])))])
(.seq (.seq (.region [o_ (.mov (.loc 2)),o_ (.bin .lss (.reg 0) (i_ 2)),o_ (.mov (.reg 1)),⟨.mov (.loc 2),none,(some (2,false))⟩,⟨.bin .eql (.reg 3) (i_ 10),none,(some (2,false))⟩,o_ (.pick (.reg 2) (.cst (.bool true)) (.reg 4)),o_ (.mov (.reg 5)),⟨.mov (.loc 2),none,(some (6,false))⟩,⟨.bin .gtr (.reg 7) (i_ 36),none,(some (6,false))⟩,s_ 14 (.pick (.reg 6) (.cst (.bool true)) (.reg 8))])
(.cond (.loc 14)
(.region [o_ (.bad),o_ (.bad)])
.skip))
(.seq (.region [s_ 7 (.allocH 200 [(.int .u8 0),(.int .u8 0),(.int .u8 0),(.int .u8 0),(.int .u8 0),(.int .u8 0),(.int .u8 0),(.int .u8 0),(.int .u8 0),(.int .u8 0),(.int .u8 0),(.int .u8 0),(.int .u8 0),(.int .u8 0),(.int .u8 0),(.int .u8 0),(.int .u8 0),(.int .u8 0),(.int .u8 0),(.int .u8 0),(.int .u8 0),(.int .u8 0),(.int .u8 0),(.int .u8 0),(.int .u8 0),(.int .u8 0),(.int .u8 0),(.int .u8 0),(.int .u8 0),(.int .u8 0),(.int .u8 0),(.int .u8 0),(.int .u8 0),(.int .u8 0),(.int .u8 0),(.int .u8 0),(.int .u8 0),(.int .u8 0),(.int .u8 0),(.int .u8 0),(.int .u8 0),(.int .u8 0),(.int .u8 0),(.int .u8 0),(.int .u8 0),(.int .u8 0),(.int .u8 0),(.int .u8 0),(.int .u8 0),(.int .u8 0),(.int .u8 0),(.int .u8 0),(.int .u8 0),(.int .u8 0),(.int .u8 0),(.int .u8 0),(.int .u8 0),(.int .u8 0),(.int .u8 0),(.int .u8 0),(.int .u8 0),(.int .u8 0),(.int .u8 0),(.int .u8 0),(.int .u8 0)])])
(.seq (.region [s_ 8 (.mov (i_ 65))])
(.seq (.seq (.region [s_ 15 (.mov (.loc 3))])
(.cond (.loc 15)
(.region [o_ (.mov (.loc 1)),o_ (.un .neg (.reg 0)),s_ 1 (.mov (.reg 1))])
.skip))
(.seq (.seq (.region [o_ (.mov (.loc 2)),s_ 16 (.call true false 187 [(.reg 0)])])
(.cond (.loc 16)
(.seq (.region [o_ (.mov (.loc 2)),o_ (.conv (.toInt .u64) (.reg 0)),o_ (.call true false 188 [(.reg 1)]),o_ (.conv (.toInt .u64) (.reg 2)),s_ 9 (.mov (.reg 3))])
(.seq (.region [o_ (.mov (.loc 2)),o_ (.conv (.toInt .u64) (.reg 0)),s_ 10 (.mov (.reg 1))])
(.seq (.region [o_ (.mov (.loc 2)),o_ (.conv (.toInt .u64) (.reg 0)),o_ (.bin .sub (.reg 1) (.cst (.int .u64 1))),s_ 11 (.mov (.reg 2))])
(.seq (.block 0
(.loop t164L1))
(.seq (.region [o_ (.mov (.loc 8)),o_ (.bin .sub (.reg 0) (i_ 1)),s_ 8 (.mov (.reg 1))])
(.region [o_ (.mov (.loc 8)),o_ (.mov (.loc 1)),o_ (.indexS (.cst (.str [48,49,50,51,52,53,54,55,56,57,97,98,99,100,101,102,103,104,105,106,107,108,109,110,111,112,113,114,115,116,117,118,119,120,121,122])) (.reg 1)),o_ (.indexAddrA 65 1 (.loc 7) (.reg 0)),o_ (.store 1 (.reg 3) (.reg 2))]))))))
(.seq (.region [o_ (.mov (.loc 2)),o_ (.conv (.toInt .u64) (.reg 0)),s_ 12 (.mov (.reg 1))])
(.seq (.block 2
(.loop t164L0))
(.seq (.region [o_ (.mov (.loc 8)),o_ (.bin .sub (.reg 0) (i_ 1)),s_ 8 (.mov (.reg 1))])
(.region [o_ (.mov (.loc 8)),o_ (.mov (.loc 1)),o_ (.indexS (.cst (.str [48,49,50,51,52,53,54,55,56,57,97,98,99,100,101,102,103,104,105,106,107,108,109,110,111,112,113,114,115,116,117,118,119,120,121,122])) (.reg 1)),o_ (.indexAddrA 65 1 (.loc 7) (.reg 0)),o_ (.store 1 (.reg 3) (.reg 2))]))))))
(.seq (.seq (.region [s_ 19 (.mov (.loc 3))])
(.cond (.loc 19)
(.seq (.region [o_ (.mov (.loc 8)),o_ (.bin .sub (.reg 0) (i_ 1)),s_ 8 (.mov (.reg 1))])
(.region [o_ (.mov (.loc 8)),o_ (.indexAddrA 65 1 (.loc 7) (.reg 0)),o_ (.store 1 (.reg 1) (.cst (.int .u8 45)))]))
.skip))
(.seq (.seq (.region [s_ 20 (.mov (.loc 4))])
(.cond (.loc 20)
(.seq (.region [o_ (.mov (.loc 0)),o_ (.mov (.loc 8)),o_ (.slice (.arr 65 1) (.loc 7) (some (.reg 1)) none none),o_ (.append false 1 1 5 (.reg 0) (.reg 2)),s_ 5 (.mov (.reg 3))])
.ret)
.skip))
(.seq (.region [o_ (.mov (.loc 8)),o_ (.slice (.arr 65 1) (.loc 7) (some (.reg 0)) none none),o_ (.conv .bytesStr (.reg 1)),s_ 6 (.mov (.reg 2))])
.ret)))))))))⟩
theorem c164 : compFunc Tryz.prog opts a164 Tryz.f164 = some t164 := by kernel_rfl
def a170 : Ann := { slots := [0,1,4,7],lb := [],mu := [],trunc := [],draws := [] }
def t170 : TFunc := ⟨2,4,[.loc 2],
(.seq (.region [s_ 2 (.mov (.cst (.str [])))])
(.seq (.seq (.region [o_ (.mov (.loc 0)),o_ (.mov (.loc 1)),s_ 3 (.call true false 190 [(.reg 0),(.reg 1)])])
(.cond (.loc 3)
(.seq (.region [o_ (.mov (.loc 0)),o_ (.mov (.loc 1)),o_ (.len .str (.reg 1)),o_ (.slice .str (.reg 0) (some (.reg 2)) none none),s_ 2 (.mov (.reg 3))])
.ret)
.skip))
(.seq (.region [o_ (.mov (.loc 0)),s_ 2 (.mov (.reg 0))])
.ret)))⟩
theorem c170 : compFunc Tryz.prog opts a170 Tryz.f170 = some t170 := by kernel_rfl
def a171 : Ann := { slots := [0,1,4],lb := [],mu := [],trunc := [],draws := [] }
def t171 : TFunc := ⟨2,3,[.loc 2],
(.seq (.region [s_ 2 (.mov (i_ 0))])
(.seq (.region [o_ (.mov (.loc 0)),o_ (.mov (.loc 1)),o_ (.call false false 191 [(.reg 0),(.reg 1),(.cst (.bool true))]),s_ 2 (.mov (.reg 2))])
.ret))⟩
theorem c171 : compFunc Tryz.prog opts a171 Tryz.f171 = some t171 := by kernel_rfl
def a172 : Ann := { slots := [0,2,3,5,6,7,8,9,13],lb := [],mu := [],trunc := [],draws := [] }
def t172L0 : TCode := (.seq (.region [s_ 7 (.bin .lss (.loc 6) (.loc 5))])
(.seq (.cond (.loc 7)
.skip
(.exit 0))
(.seq (.block 1
(.seq (.region [o_ (.indexAddrS 1 (.loc 4) (.loc 6)),o_ (.load1 (.reg 0)),s_ 3 (.mov (.reg 1))])
(.seq (.seq (.region [o_ (.mov (.loc 3)),s_ 8 (.bin .lss (.reg 0) (.cst (.int .u8 128)))])
(.cond (.loc 8)
(.seq (.region [o_ (.mov (.loc 3)),o_ (.conv (.toInt .i32) (.reg 0)),s_ 1 (.mov (.reg 1)),s_ 2 (.mov (i_ 1))])
.ret)
.skip))
(.exit 0))))
(.region [o_ (.bin .add (.loc 6) (i_ 1)),s_ 6 (.mov (.reg 0))]))))
def t172 : TFunc := ⟨1,9,[.loc 1,.loc 2],
(.seq (.region [s_ 1 (.mov (.cst (.int .i32 0))),s_ 2 (.mov (i_ 0))])
(.seq (.seq (.region [s_ 4 (.mov (.loc 0)),s_ 5 (.len .sl (.reg 0)),s_ 6 (.mov (i_ 0))])
(.block 0
(.loop t172L0)))
(.seq (.region [o_ (.mov (.loc 0)),o_ (.call true false 192 [(.reg 0)]),o_ (.mov (.reg 1)),o_ (.extract 0 (.reg 2)),o_ (.extract 1 (.reg 2)),s_ 1 (.mov (.reg 3)),s_ 2 (.mov (.reg 4))])
.ret)))⟩
theorem c172 : compFunc Tryz.prog opts a172 Tryz.f172 = some t172 := by kernel_rfl
def a173 : Ann := { slots := [0,1,4],lb := [],mu := [],trunc := [],draws := [] }
def t173 : TFunc := ⟨2,3,[.loc 2],
(.seq (.region [s_ 2 (.mov (.cst (.bool false)))])
(.seq (.region [o_ (.mov (.loc 0)),o_ (.bin .eql (.reg 0) (.cst (.int .i32 65533))),o_ (.mov (.reg 1)),⟨.mov (.loc 1),none,(some (2,true))⟩,⟨.bin .leq (.reg 3) (i_ 1),none,(some (2,true))⟩,o_ (.pick (.reg 2) (.reg 4) (.cst (.bool false))),s_ 2 (.mov (.reg 5))])
.ret))⟩
theorem c173 : compFunc Tryz.prog opts a173 Tryz.f173 = some t173 := by kernel_rfl
def a184 : Ann := { slots := [0,2,4,8,14],lb := [],mu := [],trunc := [],draws := [] }
def t184 : TFunc := ⟨1,5,[.loc 1],
(.seq (.region [s_ 1 (.mov (i_ 0))])
(.seq (.seq (.region [o_ (.mov (.loc 0)),s_ 2 (.bin .geq (.reg 0) (.cst (.int .u64 4294967296)))])
(.cond (.loc 2)
(.seq (.region [o_ (.mov (.loc 0)),o_ (.bin .shr (.reg 0) (.cst (.int .u64 32))),s_ 0 (.mov (.reg 1))])
(.region [s_ 1 (.mov (i_ 32))]))
.skip))
(.seq (.seq (.region [o_ (.mov (.loc 0)),s_ 3 (.bin .geq (.reg 0) (.cst (.int .u64 65536)))])
(.cond (.loc 3)
(.seq (.region [o_ (.mov (.loc 0)),o_ (.bin .shr (.reg 0) (.cst (.int .u64 16))),s_ 0 (.mov (.reg 1))])
(.region [o_ (.mov (.loc 1)),o_ (.bin .add (.reg 0) (i_ 16)),s_ 1 (.mov (.reg 1))]))
.skip))
(.seq (.seq (.region [o_ (.mov (.loc 0)),s_ 4 (.bin .geq (.reg 0) (.cst (.int .u64 256)))])
(.cond (.loc 4)
(.seq (.region [o_ (.mov (.loc 0)),o_ (.bin .shr (.reg 0) (.cst (.int .u64 8))),s_ 0 (.mov (.reg 1))])
(.region [o_ (.mov (.loc 1)),o_ (.bin .add (.reg 0) (i_ 8)),s_ 1 (.mov (.reg 1))]))
.skip))
(.seq (.region [o_ (.mov (.loc 1)),o_ (.mov (.loc 0)),o_ (.conv (.toInt .u8) (.reg 1)),o_ (.indexS (.cst (.str [0,1,2,2,3,3,3,3,4,4,4,4,4,4,4,4,5,5,5,5,5,5,5,5,5,5,5,5,5,5,5,5,6,6,6,6,6,6,6,6,6,6,6,6,6,6,6,6,6,6,6,6,6,6,6,6,6,6,6,6,6,6,6,6,7,7,7,7,7,7,7,7,7,7,7,7,7,7,7,7,7,7,7,7,7,7,7,7,7,7,7,7,7,7,7,7,7,7,7,7,7,7,7,7,7,7,7,7,7,7,7,7,7,7,7,7,7,7,7,7,7,7,7,7,7,7,7,7,8,8,8,8,8,8,8,8,8,8,8,8,8,8,8,8,8,8,8,8,8,8,8,8,8,8,8,8,8,8,8,8,8,8,8,8,8,8,8,8,8,8,8,8,8,8,8,8,8,8,8,8,8,8,8,8,8,8,8,8,8,8,8,8,8,8,8,8,8,8,8,8,8,8,8,8,8,8,8,8,8,8,8,8,8,8,8,8,8,8,8,8,8,8,8,8,8,8,8,8,8,8,8,8,8,8,8,8,8,8,8,8,8,8,8,8,8,8,8,8,8,8,8,8,8,8,8,8])) (.reg 2)),o_ (.conv (.toInt .i64) (.reg 3)),o_ (.bin .add (.reg 0) (.reg 4)),s_ 1 (.mov (.reg 5))])
.ret)))))⟩
theorem c184 : compFunc Tryz.prog opts a184 Tryz.f184 = some t184 := by kernel_rfl
def a185 : Ann := { slots := [0,2],lb := [],mu := [],trunc := [],draws := [] }
def t185 : TFunc := ⟨1,2,[.loc 1],
(.seq (.region [s_ 1 (.mov (i_ 0))])
(.seq (.region [o_ (.mov (.loc 0)),o_ (.bin .mul (.reg 0) (i_ 78913)),o_ (.bin .shr (.reg 1) (.cst (.int .u64 18))),s_ 1 (.mov (.reg 2))])
.ret))⟩
theorem c185 : compFunc Tryz.prog opts a185 Tryz.f185 = some t185 := by kernel_rfl
def a186 : Ann := { slots := [0,2,3],lb := [],mu := [],trunc := [],draws := [] }
def t186 : TFunc := ⟨1,3,[.loc 1],
(.seq (.region [s_ 1 (.mov (i_ 0))])
(.seq (.seq (.region [s_ 2 (.mov (.loc 0))])
(.cond (.loc 2)
(.seq (.region [s_ 1 (.mov (i_ 1))])
.ret)
.skip))
(.seq (.region [s_ 1 (.mov (i_ 0))])
.ret)))⟩
theorem c186 : compFunc Tryz.prog opts a186 Tryz.f186 = some t186 := by kernel_rfl
def a187 : Ann := { slots := [0,2],lb := [],mu := [],trunc := [],draws := [] }
def t187 : TFunc := ⟨1,2,[.loc 1],
(.seq (.region [s_ 1 (.mov (.cst (.bool false)))])
(.seq (.region [o_ (.mov (.loc 0)),o_ (.mov (.loc 0)),o_ (.bin .sub (.reg 1) (i_ 1)),o_ (.bin .and (.reg 0) (.reg 2)),o_ (.bin .eql (.reg 3) (i_ 0)),s_ 1 (.mov (.reg 4))])
.ret))⟩
theorem c187 : compFunc Tryz.prog opts a187 Tryz.f187 = some t187 := by kernel_rfl
def a188 : Ann := { slots := [0,2],lb := [],mu := [],trunc := [],draws := [] }
def t188 : TFunc := ⟨1,2,[.loc 1],
(.seq (.region [s_ 1 (.mov (i_ 0))])
(.seq (.cond (.cst (.bool false))
(.seq (.region [o_ (.mov (.loc 0)),o_ (.conv (.toInt .u32) (.reg 0)),o_ (.call true false 199 [(.reg 1)]),s_ 1 (.mov (.reg 2))])
.ret)
.skip)
(.seq (.region [o_ (.mov (.loc 0)),o_ (.call true false 200 [(.reg 0)]),s_ 1 (.mov (.reg 1))])
.ret)))⟩
theorem c188 : compFunc Tryz.prog opts a188 Tryz.f188 = some t188 := by kernel_rfl
def a190 : Ann := { slots := [0,1,4],lb := [],mu := [],trunc := [],draws := [] }
def t190 : TFunc := ⟨2,3,[.loc 2],
(.seq (.region [s_ 2 (.mov (.cst (.bool false)))])
(.seq (.region [o_ (.mov (.loc 0)),o_ (.len .str (.reg 0)),o_ (.mov (.loc 1)),o_ (.len .str (.reg 2)),o_ (.bin .geq (.reg 1) (.reg 3)),o_ (.mov (.reg 4)),⟨.mov (.loc 0),none,(some (5,true))⟩,⟨.mov (.loc 1),none,(some (5,true))⟩,⟨.len .str (.reg 7),none,(some (5,true))⟩,⟨.slice .str (.reg 6) none (some (.reg 8)) none,none,(some (5,true))⟩,⟨.mov (.loc 1),none,(some (5,true))⟩,⟨.bin .eql (.reg 9) (.reg 10),none,(some (5,true))⟩,o_ (.pick (.reg 5) (.reg 11) (.cst (.bool false))),s_ 2 (.mov (.reg 12))])
.ret))⟩
theorem c190 : compFunc Tryz.prog opts a190 Tryz.f190 = some t190 := by kernel_rfl
def a191 : Ann := { slots := [0,1,2,6,7,8,10,11,12,19],lb := [],mu := [],trunc := [],draws := [] }
def t191L0 : TCode := (.seq (.region [s_ 7 (.nextS (.loc 6)),s_ 8 (.extract 0 (.reg 0))])
(.seq (.cond (.loc 8)
.skip
(.exit 0))
(.block 1
(.seq (.region [o_ (.extract 1 (.loc 7)),o_ (.extract 2 (.loc 7)),s_ 4 (.mov (.reg 0)),s_ 5 (.mov (.reg 1))])
(.seq (.region [o_ (.mov (.loc 1)),o_ (.mov (.loc 5)),o_ (.callv (.reg 0) [(.reg 1)]),o_ (.mov (.loc 2)),s_ 9 (.eqB false .bool (.reg 2) (.reg 3))])
(.cond (.loc 9)
(.seq (.region [o_ (.mov (.loc 4)),s_ 3 (.mov (.reg 0))])
.ret)
.skip))))))
def t191 : TFunc := ⟨3,10,[.loc 3],
(.seq (.region [s_ 3 (.mov (i_ 0))])
(.seq (.seq (.region [o_ (.mov (.loc 0)),s_ 6 (.range true (.reg 0))])
(.block 0
(.loop t191L0)))
(.seq (.region [s_ 3 (.mov (i_ (-1)))])
.ret)))⟩
theorem c191 : compFunc Tryz.prog opts a191 Tryz.f191 = some t191 := by kernel_rfl
def a192 : Ann := { slots := [0,2,3,4,5,6,7,8,9,10,11,12,16,24,47,60,62,79,81,103],lb := [9],mu := [],trunc := [],draws := [] }
def t192 : TFunc := ⟨1,20,[.loc 1,.loc 2],
(.seq (.region [s_ 1 (.mov (.cst (.int .i32 0))),s_ 2 (.mov (i_ 0))])
(.seq (.region [o_ (.mov (.loc 0)),o_ (.len .sl (.reg 0)),s_ 3 (.mov (.reg 1))])
(.seq (.seq (.region [o_ (.mov (.loc 3)),s_ 12 (.bin .lss (.reg 0) (i_ 1))])
(.cond (.loc 12)
(.seq (.region [s_ 1 (.mov (.cst (.int .i32 65533))),s_ 2 (.mov (i_ 0))])
.ret)
.skip))
(.seq (.region [o_ (.mov (.loc 0)),o_ (.indexAddrS 1 (.reg 0) (i_ 0)),o_ (.load1 (.reg 1)),s_ 4 (.mov (.reg 2))])
(.seq (.region [o_ (.mov (.loc 4)),o_ (.indexAddrA 256 1 (.glob 2) (.reg 0)),o_ (.load1 (.reg 1)),s_ 5 (.mov (.reg 2))])
(.seq (.seq (.region [o_ (.mov (.loc 5)),s_ 13 (.bin .geq (.reg 0) (.cst (.int .u8 240)))])
(.cond (.loc 13)
(.seq (.region [o_ (.mov (.loc 5)),o_ (.conv (.toInt .i32) (.reg 0)),o_ (.bin .shl (.reg 1) (.cst (.int .u64 31))),o_ (.bin .shr (.reg 2) (.cst (.int .u64 31))),s_ 6 (.mov (.reg 3))])
(.seq (.region [o_ (.mov (.loc 0)),o_ (.indexAddrS 1 (.reg 0) (i_ 0)),o_ (.load1 (.reg 1)),o_ (.conv (.toInt .i32) (.reg 2)),o_ (.mov (.loc 6)),o_ (.bin .andNot (.reg 3) (.reg 4)),o_ (.mov (.loc 6)),o_ (.bin .and (.cst (.int .i32 65533)) (.reg 6)),o_ (.bin .or (.reg 5) (.reg 7)),s_ 1 (.mov (.reg 8)),s_ 2 (.mov (i_ 1))])
.ret))
.skip))
(.seq (.region [o_ (.mov (.loc 5)),o_ (.bin .and (.reg 0) (.cst (.int .u8 7))),o_ (.conv (.toInt .i64) (.reg 1)),s_ 7 (.mov (.reg 2))])
(.seq (.region [o_ (.mov (.loc 5)),o_ (.bin .shr (.reg 0) (.cst (.int .u64 4))),o_ (.indexAddrA 16 2 (.glob 3) (.reg 1)),o_ (.loadN 2 (.reg 2)),o_ (.allocL 8 [(.int .u8 0),(.int .u8 0)]),o_ (.store 2 (.reg 4) (.reg 3))])
(.seq (.seq (.region [o_ (.mov (.loc 3)),o_ (.mov (.loc 7)),s_ 14 (.bin .lss (.reg 0) (.reg 1))])
(.cond (.loc 14)
(.seq (.region [s_ 1 (.mov (.cst (.int .i32 65533))),s_ 2 (.mov (i_ 1))])
.ret)
.skip))
(.seq (.region [o_ (.mov (.loc 0)),o_ (.indexAddrS 1 (.reg 0) (i_ 1)),o_ (.load1 (.reg 1)),s_ 9 (.mov (.reg 2))])
(.seq (.seq (.region [o_ (.mov (.loc 9)),o_ (.fieldAddr 0 (.loc 8)),o_ (.load1 (.reg 1)),o_ (.bin .lss (.reg 0) (.reg 2)),o_ (.mov (.reg 3)),⟨.fieldAddr 1 (.loc 8),none,(some (4,false))⟩,⟨.load1 (.reg 5),none,(some (4,false))⟩,⟨.mov (.loc 9),none,(some (4,false))⟩,⟨.bin .lss (.reg 6) (.reg 7),none,(some (4,false))⟩,s_ 15 (.pick (.reg 4) (.cst (.bool true)) (.reg 8))])
(.cond (.loc 15)
(.seq (.region [s_ 1 (.mov (.cst (.int .i32 65533))),s_ 2 (.mov (i_ 1))])
.ret)
.skip))
(.seq (.seq (.region [o_ (.mov (.loc 7)),s_ 16 (.bin .leq (.reg 0) (i_ 2))])
(.cond (.loc 16)
(.seq (.region [o_ (.mov (.loc 4)),o_ (.bin .and (.reg 0) (.cst (.int .u8 31))),o_ (.conv (.toInt .i32) (.reg 1)),o_ (.bin .shl (.reg 2) (.cst (.int .u64 6))),o_ (.mov (.loc 9)),o_ (.bin .and (.reg 4) (.cst (.int .u8 63))),o_ (.conv (.toInt .i32) (.reg 5)),o_ (.bin .or (.reg 3) (.reg 6)),s_ 1 (.mov (.reg 7)),s_ 2 (.mov (i_ 2))])
.ret)
.skip))
(.seq (.region [o_ (.mov (.loc 0)),o_ (.indexAddrS 1 (.reg 0) (i_ 2)),o_ (.load1 (.reg 1)),s_ 10 (.mov (.reg 2))])
(.seq (.seq (.region [o_ (.mov (.loc 10)),o_ (.bin .lss (.reg 0) (.cst (.int .u8 128))),o_ (.mov (.reg 1)),⟨.mov (.loc 10),none,(some (2,false))⟩,⟨.bin .lss (.cst (.int .u8 191)) (.reg 3),none,(some (2,false))⟩,s_ 17 (.pick (.reg 2) (.cst (.bool true)) (.reg 4))])
(.cond (.loc 17)
(.seq (.region [s_ 1 (.mov (.cst (.int .i32 65533))),s_ 2 (.mov (i_ 1))])
.ret)
.skip))
(.seq (.seq (.region [o_ (.mov (.loc 7)),s_ 18 (.bin .leq (.reg 0) (i_ 3))])
(.cond (.loc 18)
(.seq (.region [o_ (.mov (.loc 4)),o_ (.bin .and (.reg 0) (.cst (.int .u8 15))),o_ (.conv (.toInt .i32) (.reg 1)),o_ (.bin .shl (.reg 2) (.cst (.int .u64 12))),o_ (.mov (.loc 9)),o_ (.bin .and (.reg 4) (.cst (.int .u8 63))),o_ (.conv (.toInt .i32) (.reg 5)),o_ (.bin .shl (.reg 6) (.cst (.int .u64 6))),o_ (.bin .or (.reg 3) (.reg 7)),o_ (.mov (.loc 10)),o_ (.bin .and (.reg 9) (.cst (.int .u8 63))),o_ (.conv (.toInt .i32) (.reg 10)),o_ (.bin .or (.reg 8) (.reg 11)),s_ 1 (.mov (.reg 12)),s_ 2 (.mov (i_ 3))])
.ret)
.skip))
(.seq (.region [o_ (.mov (.loc 0)),o_ (.indexAddrS 1 (.reg 0) (i_ 3)),o_ (.load1 (.reg 1)),s_ 11 (.mov (.reg 2))])
(.seq (.seq (.region [o_ (.mov (.loc 11)),o_ (.bin .lss (.reg 0) (.cst (.int .u8 128))),o_ (.mov (.reg 1)),⟨.mov (.loc 11),none,(some (2,false))⟩,⟨.bin .lss (.cst (.int .u8 191)) (.reg 3),none,(some (2,false))⟩,s_ 19 (.pick (.reg 2) (.cst (.bool true)) (.reg 4))])
(.cond (.loc 19)
(.seq (.region [s_ 1 (.mov (.cst (.int .i32 65533))),s_ 2 (.mov (i_ 1))])
.ret)
.skip))
(.seq (.region [o_ (.mov (.loc 4)),o_ (.bin .and (.reg 0) (.cst (.int .u8 7))),o_ (.conv (.toInt .i32) (.reg 1)),o_ (.bin .shl (.reg 2) (.cst (.int .u64 18))),o_ (.mov (.loc 9)),o_ (.bin .and (.reg 4) (.cst (.int .u8 63))),o_ (.conv (.toInt .i32) (.reg 5)),o_ (.bin .shl (.reg 6) (.cst (.int .u64 12))),o_ (.bin .or (.reg 3) (.reg 7)),o_ (.mov (.loc 10)),o_ (.bin .and (.reg 9) (.cst (.int .u8 63))),o_ (.conv (.toInt .i32) (.reg 10)),o_ (.bin .shl (.reg 11) (.cst (.int .u64 6))),o_ (.bin .or (.reg 8) (.reg 12)),o_ (.mov (.loc 11)),o_ (.bin .and (.reg 14) (.cst (.int .u8 63))),o_ (.conv (.toInt .i32) (.reg 15)),o_ (.bin .or (.reg 13) (.reg 16)),s_ 1 (.mov (.reg 17)),s_ 2 (.mov (i_ 4))])
.ret))))))))))))))))))⟩
theorem c192 : compFunc Tryz.prog opts a192 Tryz.f192 = some t192 := by kernel_rfl
def a199 : Ann := { slots := [0,2,4],lb := [],mu := [],trunc := [],draws := [] }
def t199 : TFunc := ⟨1,3,[.loc 1],
(.seq (.region [s_ 1 (.mov (i_ 0))])
(.seq (.seq (.region [o_ (.mov (.loc 0)),s_ 2 (.bin .eql (.reg 0) (.cst (.int .u32 0)))])
(.cond (.loc 2)
(.seq (.region [s_ 1 (.mov (i_ 32))])
.ret)
.skip))
(.seq (.region [o_ (.mov (.loc 0)),o_ (.mov (.loc 0)),o_ (.un .neg (.reg 1)),o_ (.bin .and (.reg 0) (.reg 2)),o_ (.bin .mul (.reg 3) (.cst (.int .u32 125613361))),o_ (.bin .shr (.reg 4) (.cst (.int .u64 27))),o_ (.indexAddrA 32 1 (.glob 4) (.reg 5)),o_ (.load1 (.reg 6)),o_ (.conv (.toInt .i64) (.reg 7)),s_ 1 (.mov (.reg 8))])
.ret)))⟩
theorem c199 : compFunc Tryz.prog opts a199 Tryz.f199 = some t199 := by kernel_rfl
def a200 : Ann := { slots := [0,2,4],lb := [],mu := [],trunc := [],draws := [] }
def t200 : TFunc := ⟨1,3,[.loc 1],
(.seq (.region [s_ 1 (.mov (i_ 0))])
(.seq (.seq (.region [o_ (.mov (.loc 0)),s_ 2 (.bin .eql (.reg 0) (.cst (.int .u64 0)))])
(.cond (.loc 2)
(.seq (.region [s_ 1 (.mov (i_ 64))])
.ret)
.skip))
(.seq (.region [o_ (.mov (.loc 0)),o_ (.mov (.loc 0)),o_ (.un .neg (.reg 1)),o_ (.bin .and (.reg 0) (.reg 2)),o_ (.bin .mul (.reg 3) (.cst (.int .u64 285870213051353865))),o_ (.bin .shr (.reg 4) (.cst (.int .u64 58))),o_ (.indexAddrA 64 1 (.glob 5) (.reg 5)),o_ (.load1 (.reg 6)),o_ (.conv (.toInt .i64) (.reg 7)),s_ 1 (.mov (.reg 8))])
.ret)))⟩
theorem c200 : compFunc Tryz.prog opts a200 Tryz.f200 = some t200 := by kernel_rfl
def g0 : List IV := [(.int .u64 1),(.int .u64 10),(.int .u64 100),(.int .u64 1000),(.int .u64 10000),(.int .u64 100000),(.int .u64 1000000),(.int .u64 10000000),(.int .u64 100000000),(.int .u64 1000000000),(.int .u64 10000000000),(.int .u64 100000000000),(.int .u64 1000000000000),(.int .u64 10000000000000),(.int .u64 100000000000000),(.int .u64 1000000000000000),(.int .u64 10000000000000000),(.int .u64 100000000000000000),(.int .u64 1000000000000000000),(.int .u64 10000000000000000000)]
def g2 : List IV := [(.int .u8 240),(.int .u8 240),(.int .u8 240),(.int .u8 240),(.int .u8 240),(.int .u8 240),(.int .u8 240),(.int .u8 240),(.int .u8 240),(.int .u8 240),(.int .u8 240),(.int .u8 240),(.int .u8 240),(.int .u8 240),(.int .u8 240),(.int .u8 240),(.int .u8 240),(.int .u8 240),(.int .u8 240),(.int .u8 240),(.int .u8 240),(.int .u8 240),(.int .u8 240),(.int .u8 240),(.int .u8 240),(.int .u8 240),(.int .u8 240),(.int .u8 240),(.int .u8 240),(.int .u8 240),(.int .u8 240),(.int .u8 240),(.int .u8 240),(.int .u8 240),(.int .u8 240),(.int .u8 240),(.int .u8 240),(.int .u8 240),(.int .u8 240),(.int .u8 240),(.int .u8 240),(.int .u8 240),(.int .u8 240),(.int .u8 240),(.int .u8 240),(.int .u8 240),(.int .u8 240),(.int .u8 240),(.int .u8 240),(.int .u8 240),(.int .u8 240),(.int .u8 240),(.int .u8 240),(.int .u8 240),(.int .u8 240),(.int .u8 240),(.int .u8 240),(.int .u8 240),(.int .u8 240),(.int .u8 240),(.int .u8 240),(.int .u8 240),(.int .u8 240),(.int .u8 240),(.int .u8 240),(.int .u8 240),(.int .u8 240),(.int .u8 240),(.int .u8 240),(.int .u8 240),(.int .u8 240),(.int .u8 240),(.int .u8 240),(.int .u8 240),(.int .u8 240),(.int .u8 240),(.int .u8 240),(.int .u8 240),(.int .u8 240),(.int .u8 240),(.int .u8 240),(.int .u8 240),(.int .u8 240),(.int .u8 240),(.int .u8 240),(.int .u8 240),(.int .u8 240),(.int .u8 240),(.int .u8 240),(.int .u8 240),(.int .u8 240),(.int .u8 240),(.int .u8 240),(.int .u8 240),(.int .u8 240),(.int .u8 240),(.int .u8 240),(.int .u8 240),(.int .u8 240),(.int .u8 240),(.int .u8 240),(.int .u8 240),(.int .u8 240),(.int .u8 240),(.int .u8 240),(.int .u8 240),(.int .u8 240),(.int .u8 240),(.int .u8 240),(.int .u8 240),(.int .u8 240),(.int .u8 240),(.int .u8 240),(.int .u8 240),(.int .u8 240),(.int .u8 240),(.int .u8 240),(.int .u8 240),(.int .u8 240),(.int .u8 240),(.int .u8 240),(.int .u8 240),(.int .u8 240),(.int .u8 240),(.int .u8 240),(.int .u8 240),(.int .u8 240),(.int .u8 240),(.int .u8 241),(.int .u8 241),(.int .u8 241),(.int .u8 241),(.int .u8 241),(.int .u8 241),(.int .u8 241),(.int .u8 241),(.int .u8 241),(.int .u8 241),(.int .u8 241),(.int .u8 241),(.int .u8 241),(.int .u8 241),(.int .u8 241),(.int .u8 241),(.int .u8 241),(.int .u8 241),(.int .u8 241),(.int .u8 241),(.int .u8 241),(.int .u8 241),(.int .u8 241),(.int .u8 241),(.int .u8 241),(.int .u8 241),(.int .u8 241),(.int .u8 241),(.int .u8 241),(.int .u8 241),(.int .u8 241),(.int .u8 241),(.int .u8 241),(.int .u8 241),(.int .u8 241),(.int .u8 241),(.int .u8 241),(.int .u8 241),(.int .u8 241),(.int .u8 241),(.int .u8 241),(.int .u8 241),(.int .u8 241),(.int .u8 241),(.int .u8 241),(.int .u8 241),(.int .u8 241),(.int .u8 241),(.int .u8 241),(.int .u8 241),(.int .u8 241),(.int .u8 241),(.int .u8 241),(.int .u8 241),(.int .u8 241),(.int .u8 241),(.int .u8 241),(.int .u8 241),(.int .u8 241),(.int .u8 241),(.int .u8 241),(.int .u8 241),(.int .u8 241),(.int .u8 241),(.int .u8 241),(.int .u8 241),(.int .u8 2),(.int .u8 2),(.int .u8 2),(.int .u8 2),(.int .u8 2),(.int .u8 2),(.int .u8 2),(.int .u8 2),(.int .u8 2),(.int .u8 2),(.int .u8 2),(.int .u8 2),(.int .u8 2),(.int .u8 2),(.int .u8 2),(.int .u8 2),(.int .u8 2),(.int .u8 2),(.int .u8 2),(.int .u8 2),(.int .u8 2),(.int .u8 2),(.int .u8 2),(.int .u8 2),(.int .u8 2),(.int .u8 2),(.int .u8 2),(.int .u8 2),(.int .u8 2),(.int .u8 2),(.int .u8 19),(.int .u8 3),(.int .u8 3),(.int .u8 3),(.int .u8 3),(.int .u8 3),(.int .u8 3),(.int .u8 3),(.int .u8 3),(.int .u8 3),(.int .u8 3),(.int .u8 3),(.int .u8 3),(.int .u8 35),(.int .u8 3),(.int .u8 3),(.int .u8 52),(.int .u8 4),(.int .u8 4),(.int .u8 4),(.int .u8 68),(.int .u8 241),(.int .u8 241),(.int .u8 241),(.int .u8 241),(.int .u8 241),(.int .u8 241),(.int .u8 241),(.int .u8 241),(.int .u8 241),(.int .u8 241),(.int .u8 241)]
def g3 : List IV := [(.int .u8 128),(.int .u8 191),(.int .u8 160),(.int .u8 191),(.int .u8 128),(.int .u8 159),(.int .u8 144),(.int .u8 191),(.int .u8 128),(.int .u8 143),(.int .u8 0),(.int .u8 0),(.int .u8 0),(.int .u8 0),(.int .u8 0),(.int .u8 0),(.int .u8 0),(.int .u8 0),(.int .u8 0),(.int .u8 0),(.int .u8 0),(.int .u8 0),(.int .u8 0),(.int .u8 0),(.int .u8 0),(.int .u8 0),(.int .u8 0),(.int .u8 0),(.int .u8 0),(.int .u8 0),(.int .u8 0),(.int .u8 0)]
def g4 : List IV := [(.int .u8 0),(.int .u8 1),(.int .u8 28),(.int .u8 2),(.int .u8 29),(.int .u8 14),(.int .u8 24),(.int .u8 3),(.int .u8 30),(.int .u8 22),(.int .u8 20),(.int .u8 15),(.int .u8 25),(.int .u8 17),(.int .u8 4),(.int .u8 8),(.int .u8 31),(.int .u8 27),(.int .u8 13),(.int .u8 23),(.int .u8 21),(.int .u8 19),(.int .u8 16),(.int .u8 7),(.int .u8 26),(.int .u8 12),(.int .u8 18),(.int .u8 6),(.int .u8 11),(.int .u8 5),(.int .u8 10),(.int .u8 9)]
def g5 : List IV := [(.int .u8 0),(.int .u8 1),(.int .u8 56),(.int .u8 2),(.int .u8 57),(.int .u8 49),(.int .u8 28),(.int .u8 3),(.int .u8 61),(.int .u8 58),(.int .u8 42),(.int .u8 50),(.int .u8 38),(.int .u8 29),(.int .u8 17),(.int .u8 4),(.int .u8 62),(.int .u8 47),(.int .u8 59),(.int .u8 36),(.int .u8 45),(.int .u8 43),(.int .u8 51),(.int .u8 22),(.int .u8 53),(.int .u8 39),(.int .u8 33),(.int .u8 30),(.int .u8 24),(.int .u8 18),(.int .u8 12),(.int .u8 5),(.int .u8 63),(.int .u8 55),(.int .u8 48),(.int .u8 27),(.int .u8 60),(.int .u8 41),(.int .u8 37),(.int .u8 16),(.int .u8 46),(.int .u8 35),(.int .u8 44),(.int .u8 21),(.int .u8 52),(.int .u8 32),(.int .u8 23),(.int .u8 11),(.int .u8 54),(.int .u8 26),(.int .u8 40),(.int .u8 15),(.int .u8 34),(.int .u8 20),(.int .u8 31),(.int .u8 10),(.int .u8 25),(.int .u8 14),(.int .u8 19),(.int .u8 9),(.int .u8 13),(.int .u8 8),(.int .u8 7),(.int .u8 6)]
def tbl : List (Option TFunc) := [none,none,none,none,none,none,none,some t7,none,some t9,some t10,none,some t12,some t13,some t14,some t15,some t16,some t17,none,some t19,none,some t21,some t22,none,some t24,none,some t26,some t27,some t28,some t29,none,some t31,some t32,none,none,none,none,none,some t38,none,some t40,none,some t42,some t43,some t44,some t45,some t46,none,some t48,some t49,none,some t51,none,some t53,some t54,some t55,some t56,none,some t58,some t59,some t60,some t61,none,none,none,some t65,some t66,some t67,none,none,none,none,none,none,some t74,some t75,some t76,some t77,some t78,none,none,none,some t82,some t83,some t84,some t85,some t86,some t87,none,none,some t90,some t91,some t92,some t93,none,none,none,some t97,some t98,some t99,some t100,some t101,none,none,none,none,none,none,some t108,some t109,some t110,some t111,some t112,none,none,some t115,some t116,some t117,some t118,some t119,some t120,some t121,none,none,none,some t125,none,none,none,none,none,some t131,some t132,some t133,some t134,some t135,none,none,some t138,some t139,none,none,none,none,none,none,none,none,some t148,some t149,some t150,some t151,some t152,some t153,none,none,none,some t157,some t158,none,none,some t161,some t162,some t163,some t164,none,none,none,none,none,some t170,some t171,some t172,some t173,none,none,none,none,none,none,none,none,none,none,some t184,some t185,some t186,some t187,some t188,none,some t190,some t191,some t192,none,none,none,none,none,none,some t199,some t200]
def gtbl : List (Option (List IV)) := [some g0,none,some g2,some g3,some g4,some g5]
def K : TM.Prog := ⟨fun k => tbl.getD k none,fun g => gtbl.getD g none,fun f => primAt prims f⟩
def Good (k : Nat) (tf : TFunc) : Prop := ∃ (A : Ann) (fn : Func), Tryz.prog.funcs[k]? = some fn ∧ fn.name ≠ "runtime.NumGoroutine" ∧ compFunc Tryz.prog opts A fn = some tf
theorem n7 : (Tryz.f7.name == "runtime.NumGoroutine") = false := by kernel_rfl
theorem q7 : Good 7 t7 := ⟨a7,Tryz.f7,Tryz.func7,fun e => by have h := n7; rw [e] at h; simp at h,c7⟩
theorem n9 : (Tryz.f9.name == "runtime.NumGoroutine") = false := by kernel_rfl
theorem q9 : Good 9 t9 := ⟨a9,Tryz.f9,Tryz.func9,fun e => by have h := n9; rw [e] at h; simp at h,c9⟩
theorem n10 : (Tryz.f10.name == "runtime.NumGoroutine") = false := by kernel_rfl
theorem q10 : Good 10 t10 := ⟨a10,Tryz.f10,Tryz.func10,fun e => by have h := n10; rw [e] at h; simp at h,c10⟩
theorem n12 : (Tryz.f12.name == "runtime.NumGoroutine") = false := by kernel_rfl
theorem q12 : Good 12 t12 := ⟨a12,Tryz.f12,Tryz.func12,fun e => by have h := n12; rw [e] at h; simp at h,c12⟩
theorem n13 : (Tryz.f13.name == "runtime.NumGoroutine") = false := by kernel_rfl
theorem q13 : Good 13 t13 := ⟨a13,Tryz.f13,Tryz.func13,fun e => by have h := n13; rw [e] at h; simp at h,c13⟩
theorem n14 : (Tryz.f14.name == "runtime.NumGoroutine") = false := by kernel_rfl
theorem q14 : Good 14 t14 := ⟨a14,Tryz.f14,Tryz.func14,fun e => by have h := n14; rw [e] at h; simp at h,c14⟩
theorem n15 : (Tryz.f15.name == "runtime.NumGoroutine") = false := by kernel_rfl
theorem q15 : Good 15 t15 := ⟨a15,Tryz.f15,Tryz.func15,fun e => by have h := n15; rw [e] at h; simp at h,c15⟩
theorem n16 : (Tryz.f16.name == "runtime.NumGoroutine") = false := by kernel_rfl
theorem q16 : Good 16 t16 := ⟨a16,Tryz.f16,Tryz.func16,fun e => by have h := n16; rw [e] at h; simp at h,c16⟩
theorem n17 : (Tryz.f17.name == "runtime.NumGoroutine") = false := by kernel_rfl
theorem q17 : Good 17 t17 := ⟨a17,Tryz.f17,Tryz.func17,fun e => by have h := n17; rw [e] at h; simp at h,c17⟩
theorem n19 : (Tryz.f19.name == "runtime.NumGoroutine") = false := by kernel_rfl
theorem q19 : Good 19 t19 := ⟨a19,Tryz.f19,Tryz.func19,fun e => by have h := n19; rw [e] at h; simp at h,c19⟩
theorem n21 : (Tryz.f21.name == "runtime.NumGoroutine") = false := by kernel_rfl
theorem q21 : Good 21 t21 := ⟨a21,Tryz.f21,Tryz.func21,fun e => by have h := n21; rw [e] at h; simp at h,c21⟩
theorem n22 : (Tryz.f22.name == "runtime.NumGoroutine") = false := by kernel_rfl
theorem q22 : Good 22 t22 := ⟨a22,Tryz.f22,Tryz.func22,fun e => by have h := n22; rw [e] at h; simp at h,c22⟩
theorem n24 : (Tryz.f24.name == "runtime.NumGoroutine") = false := by kernel_rfl
theorem q24 : Good 24 t24 := ⟨a24,Tryz.f24,Tryz.func24,fun e => by have h := n24; rw [e] at h; simp at h,c24⟩
theorem n26 : (Tryz.f26.name == "runtime.NumGoroutine") = false := by kernel_rfl
theorem q26 : Good 26 t26 := ⟨a26,Tryz.f26,Tryz.func26,fun e => by have h := n26; rw [e] at h; simp at h,c26⟩
theorem n27 : (Tryz.f27.name == "runtime.NumGoroutine") = false := by kernel_rfl
theorem q27 : Good 27 t27 := ⟨a27,Tryz.f27,Tryz.func27,fun e => by have h := n27; rw [e] at h; simp at h,c27⟩
theorem n28 : (Tryz.f28.name == "runtime.NumGoroutine") = false := by kernel_rfl
theorem q28 : Good 28 t28 := ⟨a28,Tryz.f28,Tryz.func28,fun e => by have h := n28; rw [e] at h; simp at h,c28⟩
theorem n29 : (Tryz.f29.name == "runtime.NumGoroutine") = false := by kernel_rfl
theorem q29 : Good 29 t29 := ⟨a29,Tryz.f29,Tryz.func29,fun e => by have h := n29; rw [e] at h; simp at h,c29⟩
theorem n31 : (Tryz.f31.name == "runtime.NumGoroutine") = false := by kernel_rfl
theorem q31 : Good 31 t31 := ⟨a31,Tryz.f31,Tryz.func31,fun e => by have h := n31; rw [e] at h; simp at h,c31⟩
theorem n32 : (Tryz.f32.name == "runtime.NumGoroutine") = false := by kernel_rfl
theorem q32 : Good 32 t32 := ⟨a32,Tryz.f32,Tryz.func32,fun e => by have h := n32; rw [e] at h; simp at h,c32⟩
theorem n38 : (Tryz.f38.name == "runtime.NumGoroutine") = false := by kernel_rfl
theorem q38 : Good 38 t38 := ⟨a38,Tryz.f38,Tryz.func38,fun e => by have h := n38; rw [e] at h; simp at h,c38⟩
theorem n40 : (Tryz.f40.name == "runtime.NumGoroutine") = false := by kernel_rfl
theorem q40 : Good 40 t40 := ⟨a40,Tryz.f40,Tryz.func40,fun e => by have h := n40; rw [e] at h; simp at h,c40⟩
theorem n42 : (Tryz.f42.name == "runtime.NumGoroutine") = false := by kernel_rfl
theorem q42 : Good 42 t42 := ⟨a42,Tryz.f42,Tryz.func42,fun e => by have h := n42; rw [e] at h; simp at h,c42⟩
theorem n43 : (Tryz.f43.name == "runtime.NumGoroutine") = false := by kernel_rfl
theorem q43 : Good 43 t43 := ⟨a43,Tryz.f43,Tryz.func43,fun e => by have h := n43; rw [e] at h; simp at h,c43⟩
theorem n44 : (Tryz.f44.name == "runtime.NumGoroutine") = false := by kernel_rfl
theorem q44 : Good 44 t44 := ⟨a44,Tryz.f44,Tryz.func44,fun e => by have h := n44; rw [e] at h; simp at h,c44⟩
theorem n45 : (Tryz.f45.name == "runtime.NumGoroutine") = false := by kernel_rfl
theorem q45 : Good 45 t45 := ⟨a45,Tryz.f45,Tryz.func45,fun e => by have h := n45; rw [e] at h; simp at h,c45⟩
theorem n46 : (Tryz.f46.name == "runtime.NumGoroutine") = false := by kernel_rfl
theorem q46 : Good 46 t46 := ⟨a46,Tryz.f46,Tryz.func46,fun e => by have h := n46; rw [e] at h; simp at h,c46⟩
theorem n48 : (Tryz.f48.name == "runtime.NumGoroutine") = false := by kernel_rfl
theorem q48 : Good 48 t48 := ⟨a48,Tryz.f48,Tryz.func48,fun e => by have h := n48; rw [e] at h; simp at h,c48⟩
theorem n49 : (Tryz.f49.name == "runtime.NumGoroutine") = false := by kernel_rfl
theorem q49 : Good 49 t49 := ⟨a49,Tryz.f49,Tryz.func49,fun e => by have h := n49; rw [e] at h; simp at h,c49⟩
theorem n51 : (Tryz.f51.name == "runtime.NumGoroutine") = false := by kernel_rfl
theorem q51 : Good 51 t51 := ⟨a51,Tryz.f51,Tryz.func51,fun e => by have h := n51; rw [e] at h; simp at h,c51⟩
theorem n53 : (Tryz.f53.name == "runtime.NumGoroutine") = false := by kernel_rfl
theorem q53 : Good 53 t53 := ⟨a53,Tryz.f53,Tryz.func53,fun e => by have h := n53; rw [e] at h; simp at h,c53⟩
theorem n54 : (Tryz.f54.name == "runtime.NumGoroutine") = false := by kernel_rfl
theorem q54 : Good 54 t54 := ⟨a54,Tryz.f54,Tryz.func54,fun e => by have h := n54; rw [e] at h; simp at h,c54⟩
theorem n55 : (Tryz.f55.name == "runtime.NumGoroutine") = false := by kernel_rfl
theorem q55 : Good 55 t55 := ⟨a55,Tryz.f55,Tryz.func55,fun e => by have h := n55; rw [e] at h; simp at h,c55⟩
theorem n56 : (Tryz.f56.name == "runtime.NumGoroutine") = false := by kernel_rfl
theorem q56 : Good 56 t56 := ⟨a56,Tryz.f56,Tryz.func56,fun e => by have h := n56; rw [e] at h; simp at h,c56⟩
theorem n58 : (Tryz.f58.name == "runtime.NumGoroutine") = false := by kernel_rfl
theorem q58 : Good 58 t58 := ⟨a58,Tryz.f58,Tryz.func58,fun e => by have h := n58; rw [e] at h; simp at h,c58⟩
theorem n59 : (Tryz.f59.name == "runtime.NumGoroutine") = false := by kernel_rfl
theorem q59 : Good 59 t59 := ⟨a59,Tryz.f59,Tryz.func59,fun e => by have h := n59; rw [e] at h; simp at h,c59⟩
theorem n60 : (Tryz.f60.name == "runtime.NumGoroutine") = false := by kernel_rfl
theorem q60 : Good 60 t60 := ⟨a60,Tryz.f60,Tryz.func60,fun e => by have h := n60; rw [e] at h; simp at h,c60⟩
theorem n61 : (Tryz.f61.name == "runtime.NumGoroutine") = false := by kernel_rfl
theorem q61 : Good 61 t61 := ⟨a61,Tryz.f61,Tryz.func61,fun e => by have h := n61; rw [e] at h; simp at h,c61⟩
theorem n65 : (Tryz.f65.name == "runtime.NumGoroutine") = false := by kernel_rfl
theorem q65 : Good 65 t65 := ⟨a65,Tryz.f65,Tryz.func65,fun e => by have h := n65; rw [e] at h; simp at h,c65⟩
theorem n66 : (Tryz.f66.name == "runtime.NumGoroutine") = false := by kernel_rfl
theorem q66 : Good 66 t66 := ⟨a66,Tryz.f66,Tryz.func66,fun e => by have h := n66; rw [e] at h; simp at h,c66⟩
theorem n67 : (Tryz.f67.name == "runtime.NumGoroutine") = false := by kernel_rfl
theorem q67 : Good 67 t67 := ⟨a67,Tryz.f67,Tryz.func67,fun e => by have h := n67; rw [e] at h; simp at h,c67⟩
theorem n74 : (Tryz.f74.name == "runtime.NumGoroutine") = false := by kernel_rfl
theorem q74 : Good 74 t74 := ⟨a74,Tryz.f74,Tryz.func74,fun e => by have h := n74; rw [e] at h; simp at h,c74⟩
theorem n75 : (Tryz.f75.name == "runtime.NumGoroutine") = false := by kernel_rfl
theorem q75 : Good 75 t75 := ⟨a75,Tryz.f75,Tryz.func75,fun e => by have h := n75; rw [e] at h; simp at h,c75⟩
theorem n76 : (Tryz.f76.name == "runtime.NumGoroutine") = false := by kernel_rfl
theorem q76 : Good 76 t76 := ⟨a76,Tryz.f76,Tryz.func76,fun e => by have h := n76; rw [e] at h; simp at h,c76⟩
theorem n77 : (Tryz.f77.name == "runtime.NumGoroutine") = false := by kernel_rfl
theorem q77 : Good 77 t77 := ⟨a77,Tryz.f77,Tryz.func77,fun e => by have h := n77; rw [e] at h; simp at h,c77⟩
theorem n78 : (Tryz.f78.name == "runtime.NumGoroutine") = false := by kernel_rfl
theorem q78 : Good 78 t78 := ⟨a78,Tryz.f78,Tryz.func78,fun e => by have h := n78; rw [e] at h; simp at h,c78⟩
theorem n82 : (Tryz.f82.name == "runtime.NumGoroutine") = false := by kernel_rfl
theorem q82 : Good 82 t82 := ⟨a82,Tryz.f82,Tryz.func82,fun e => by have h := n82; rw [e] at h; simp at h,c82⟩
theorem n83 : (Tryz.f83.name == "runtime.NumGoroutine") = false := by kernel_rfl
theorem q83 : Good 83 t83 := ⟨a83,Tryz.f83,Tryz.func83,fun e => by have h := n83; rw [e] at h; simp at h,c83⟩
theorem n84 : (Tryz.f84.name == "runtime.NumGoroutine") = false := by kernel_rfl
theorem q84 : Good 84 t84 := ⟨a84,Tryz.f84,Tryz.func84,fun e => by have h := n84; rw [e] at h; simp at h,c84⟩
theorem n85 : (Tryz.f85.name == "runtime.NumGoroutine") = false := by kernel_rfl
theorem q85 : Good 85 t85 := ⟨a85,Tryz.f85,Tryz.func85,fun e => by have h := n85; rw [e] at h; simp at h,c85⟩
theorem n86 : (Tryz.f86.name == "runtime.NumGoroutine") = false := by kernel_rfl
theorem q86 : Good 86 t86 := ⟨a86,Tryz.f86,Tryz.func86,fun e => by have h := n86; rw [e] at h; simp at h,c86⟩
theorem n87 : (Tryz.f87.name == "runtime.NumGoroutine") = false := by kernel_rfl
theorem q87 : Good 87 t87 := ⟨a87,Tryz.f87,Tryz.func87,fun e => by have h := n87; rw [e] at h; simp at h,c87⟩
theorem n90 : (Tryz.f90.name == "runtime.NumGoroutine") = false := by kernel_rfl
theorem q90 : Good 90 t90 := ⟨a90,Tryz.f90,Tryz.func90,fun e => by have h := n90; rw [e] at h; simp at h,c90⟩
theorem n91 : (Tryz.f91.name == "runtime.NumGoroutine") = false := by kernel_rfl
theorem q91 : Good 91 t91 := ⟨a91,Tryz.f91,Tryz.func91,fun e => by have h := n91; rw [e] at h; simp at h,c91⟩
theorem n92 : (Tryz.f92.name == "runtime.NumGoroutine") = false := by kernel_rfl
theorem q92 : Good 92 t92 := ⟨a92,Tryz.f92,Tryz.func92,fun e => by have h := n92; rw [e] at h; simp at h,c92⟩
theorem n93 : (Tryz.f93.name == "runtime.NumGoroutine") = false := by kernel_rfl
theorem q93 : Good 93 t93 := ⟨a93,Tryz.f93,Tryz.func93,fun e => by have h := n93; rw [e] at h; simp at h,c93⟩
theorem n97 : (Tryz.f97.name == "runtime.NumGoroutine") = false := by kernel_rfl
theorem q97 : Good 97 t97 := ⟨a97,Tryz.f97,Tryz.func97,fun e => by have h := n97; rw [e] at h; simp at h,c97⟩
theorem n98 : (Tryz.f98.name == "runtime.NumGoroutine") = false := by kernel_rfl
theorem q98 : Good 98 t98 := ⟨a98,Tryz.f98,Tryz.func98,fun e => by have h := n98; rw [e] at h; simp at h,c98⟩
theorem n99 : (Tryz.f99.name == "runtime.NumGoroutine") = false := by kernel_rfl
theorem q99 : Good 99 t99 := ⟨a99,Tryz.f99,Tryz.func99,fun e => by have h := n99; rw [e] at h; simp at h,c99⟩
theorem n100 : (Tryz.f100.name == "runtime.NumGoroutine") = false := by kernel_rfl
theorem q100 : Good 100 t100 := ⟨a100,Tryz.f100,Tryz.func100,fun e => by have h := n100; rw [e] at h; simp at h,c100⟩
theorem n101 : (Tryz.f101.name == "runtime.NumGoroutine") = false := by kernel_rfl
theorem q101 : Good 101 t101 := ⟨a101,Tryz.f101,Tryz.func101,fun e => by have h := n101; rw [e] at h; simp at h,c101⟩
theorem n108 : (Tryz.f108.name == "runtime.NumGoroutine") = false := by kernel_rfl
theorem q108 : Good 108 t108 := ⟨a108,Tryz.f108,Tryz.func108,fun e => by have h := n108; rw [e] at h; simp at h,c108⟩
theorem n109 : (Tryz.f109.name == "runtime.NumGoroutine") = false := by kernel_rfl
theorem q109 : Good 109 t109 := ⟨a109,Tryz.f109,Tryz.func109,fun e => by have h := n109; rw [e] at h; simp at h,c109⟩
theorem n110 : (Tryz.f110.name == "runtime.NumGoroutine") = false := by kernel_rfl
theorem q110 : Good 110 t110 := ⟨a110,Tryz.f110,Tryz.func110,fun e => by have h := n110; rw [e] at h; simp at h,c110⟩
theorem n111 : (Tryz.f111.name == "runtime.NumGoroutine") = false := by kernel_rfl
theorem q111 : Good 111 t111 := ⟨a111,Tryz.f111,Tryz.func111,fun e => by have h := n111; rw [e] at h; simp at h,c111⟩
theorem n112 : (Tryz.f112.name == "runtime.NumGoroutine") = false := by kernel_rfl
theorem q112 : Good 112 t112 := ⟨a112,Tryz.f112,Tryz.func112,fun e => by have h := n112; rw [e] at h; simp at h,c112⟩
theorem n115 : (Tryz.f115.name == "runtime.NumGoroutine") = false := by kernel_rfl
theorem q115 : Good 115 t115 := ⟨a115,Tryz.f115,Tryz.func115,fun e => by have h := n115; rw [e] at h; simp at h,c115⟩
theorem n116 : (Tryz.f116.name == "runtime.NumGoroutine") = false := by kernel_rfl
theorem q116 : Good 116 t116 := ⟨a116,Tryz.f116,Tryz.func116,fun e => by have h := n116; rw [e] at h; simp at h,c116⟩
theorem n117 : (Tryz.f117.name == "runtime.NumGoroutine") = false := by kernel_rfl
theorem q117 : Good 117 t117 := ⟨a117,Tryz.f117,Tryz.func117,fun e => by have h := n117; rw [e] at h; simp at h,c117⟩
theorem n118 : (Tryz.f118.name == "runtime.NumGoroutine") = false := by kernel_rfl
theorem q118 : Good 118 t118 := ⟨a118,Tryz.f118,Tryz.func118,fun e => by have h := n118; rw [e] at h; simp at h,c118⟩
theorem n119 : (Tryz.f119.name == "runtime.NumGoroutine") = false := by kernel_rfl
theorem q119 : Good 119 t119 := ⟨a119,Tryz.f119,Tryz.func119,fun e => by have h := n119; rw [e] at h; simp at h,c119⟩
theorem n120 : (Tryz.f120.name == "runtime.NumGoroutine") = false := by kernel_rfl
theorem q120 : Good 120 t120 := ⟨a120,Tryz.f120,Tryz.func120,fun e => by have h := n120; rw [e] at h; simp at h,c120⟩
theorem n121 : (Tryz.f121.name == "runtime.NumGoroutine") = false := by kernel_rfl
theorem q121 : Good 121 t121 := ⟨a121,Tryz.f121,Tryz.func121,fun e => by have h := n121; rw [e] at h; simp at h,c121⟩
theorem n125 : (Tryz.f125.name == "runtime.NumGoroutine") = false := by kernel_rfl
theorem q125 : Good 125 t125 := ⟨a125,Tryz.f125,Tryz.func125,fun e => by have h := n125; rw [e] at h; simp at h,c125⟩
theorem n131 : (Tryz.f131.name == "runtime.NumGoroutine") = false := by kernel_rfl
theorem q131 : Good 131 t131 := ⟨a131,Tryz.f131,Tryz.func131,fun e => by have h := n131; rw [e] at h; simp at h,c131⟩
theorem n132 : (Tryz.f132.name == "runtime.NumGoroutine") = false := by kernel_rfl
theorem q132 : Good 132 t132 := ⟨a132,Tryz.f132,Tryz.func132,fun e => by have h := n132; rw [e] at h; simp at h,c132⟩
theorem n133 : (Tryz.f133.name == "runtime.NumGoroutine") = false := by kernel_rfl
theorem q133 : Good 133 t133 := ⟨a133,Tryz.f133,Tryz.func133,fun e => by have h := n133; rw [e] at h; simp at h,c133⟩
theorem n134 : (Tryz.f134.name == "runtime.NumGoroutine") = false := by kernel_rfl
theorem q134 : Good 134 t134 := ⟨a134,Tryz.f134,Tryz.func134,fun e => by have h := n134; rw [e] at h; simp at h,c134⟩
theorem n135 : (Tryz.f135.name == "runtime.NumGoroutine") = false := by kernel_rfl
theorem q135 : Good 135 t135 := ⟨a135,Tryz.f135,Tryz.func135,fun e => by have h := n135; rw [e] at h; simp at h,c135⟩
theorem n138 : (Tryz.f138.name == "runtime.NumGoroutine") = false := by kernel_rfl
theorem q138 : Good 138 t138 := ⟨a138,Tryz.f138,Tryz.func138,fun e => by have h := n138; rw [e] at h; simp at h,c138⟩
theorem n139 : (Tryz.f139.name == "runtime.NumGoroutine") = false := by kernel_rfl
theorem q139 : Good 139 t139 := ⟨a139,Tryz.f139,Tryz.func139,fun e => by have h := n139; rw [e] at h; simp at h,c139⟩
theorem n148 : (Tryz.f148.name == "runtime.NumGoroutine") = false := by kernel_rfl
theorem q148 : Good 148 t148 := ⟨a148,Tryz.f148,Tryz.func148,fun e => by have h := n148; rw [e] at h; simp at h,c148⟩
theorem n149 : (Tryz.f149.name == "runtime.NumGoroutine") = false := by kernel_rfl
theorem q149 : Good 149 t149 := ⟨a149,Tryz.f149,Tryz.func149,fun e => by have h := n149; rw [e] at h; simp at h,c149⟩
theorem n150 : (Tryz.f150.name == "runtime.NumGoroutine") = false := by kernel_rfl
theorem q150 : Good 150 t150 := ⟨a150,Tryz.f150,Tryz.func150,fun e => by have h := n150; rw [e] at h; simp at h,c150⟩
theorem n151 : (Tryz.f151.name == "runtime.NumGoroutine") = false := by kernel_rfl
theorem q151 : Good 151 t151 := ⟨a151,Tryz.f151,Tryz.func151,fun e => by have h := n151; rw [e] at h; simp at h,c151⟩
theorem n152 : (Tryz.f152.name == "runtime.NumGoroutine") = false := by kernel_rfl
theorem q152 : Good 152 t152 := ⟨a152,Tryz.f152,Tryz.func152,fun e => by have h := n152; rw [e] at h; simp at h,c152⟩
theorem n153 : (Tryz.f153.name == "runtime.NumGoroutine") = false := by kernel_rfl
theorem q153 : Good 153 t153 := ⟨a153,Tryz.f153,Tryz.func153,fun e => by have h := n153; rw [e] at h; simp at h,c153⟩
theorem n157 : (Tryz.f157.name == "runtime.NumGoroutine") = false := by kernel_rfl
theorem q157 : Good 157 t157 := ⟨a157,Tryz.f157,Tryz.func157,fun e => by have h := n157; rw [e] at h; simp at h,c157⟩
theorem n158 : (Tryz.f158.name == "runtime.NumGoroutine") = false := by kernel_rfl
theorem q158 : Good 158 t158 := ⟨a158,Tryz.f158,Tryz.func158,fun e => by have h := n158; rw [e] at h; simp at h,c158⟩
theorem n161 : (Tryz.f161.name == "runtime.NumGoroutine") = false := by kernel_rfl
theorem q161 : Good 161 t161 := ⟨a161,Tryz.f161,Tryz.func161,fun e => by have h := n161; rw [e] at h; simp at h,c161⟩
theorem n162 : (Tryz.f162.name == "runtime.NumGoroutine") = false := by kernel_rfl
theorem q162 : Good 162 t162 := ⟨a162,Tryz.f162,Tryz.func162,fun e => by have h := n162; rw [e] at h; simp at h,c162⟩
theorem n163 : (Tryz.f163.name == "runtime.NumGoroutine") = false := by kernel_rfl
theorem q163 : Good 163 t163 := ⟨a163,Tryz.f163,Tryz.func163,fun e => by have h := n163; rw [e] at h; simp at h,c163⟩
theorem n164 : (Tryz.f164.name == "runtime.NumGoroutine") = false := by kernel_rfl
theorem q164 : Good 164 t164 := ⟨a164,Tryz.f164,Tryz.func164,fun e => by have h := n164; rw [e] at h; simp at h,c164⟩
theorem n170 : (Tryz.f170.name == "runtime.NumGoroutine") = false := by kernel_rfl
theorem q170 : Good 170 t170 := ⟨a170,Tryz.f170,Tryz.func170,fun e => by have h := n170; rw [e] at h; simp at h,c170⟩
theorem n171 : (Tryz.f171.name == "runtime.NumGoroutine") = false := by kernel_rfl
theorem q171 : Good 171 t171 := ⟨a171,Tryz.f171,Tryz.func171,fun e => by have h := n171; rw [e] at h; simp at h,c171⟩
theorem n172 : (Tryz.f172.name == "runtime.NumGoroutine") = false := by kernel_rfl
theorem q172 : Good 172 t172 := ⟨a172,Tryz.f172,Tryz.func172,fun e => by have h := n172; rw [e] at h; simp at h,c172⟩
theorem n173 : (Tryz.f173.name == "runtime.NumGoroutine") = false := by kernel_rfl
theorem q173 : Good 173 t173 := ⟨a173,Tryz.f173,Tryz.func173,fun e => by have h := n173; rw [e] at h; simp at h,c173⟩
theorem n184 : (Tryz.f184.name == "runtime.NumGoroutine") = false := by kernel_rfl
theorem q184 : Good 184 t184 := ⟨a184,Tryz.f184,Tryz.func184,fun e => by have h := n184; rw [e] at h; simp at h,c184⟩
theorem n185 : (Tryz.f185.name == "runtime.NumGoroutine") = false := by kernel_rfl
theorem q185 : Good 185 t185 := ⟨a185,Tryz.f185,Tryz.func185,fun e => by have h := n185; rw [e] at h; simp at h,c185⟩
theorem n186 : (Tryz.f186.name == "runtime.NumGoroutine") = false := by kernel_rfl
theorem q186 : Good 186 t186 := ⟨a186,Tryz.f186,Tryz.func186,fun e => by have h := n186; rw [e] at h; simp at h,c186⟩
theorem n187 : (Tryz.f187.name == "runtime.NumGoroutine") = false := by kernel_rfl
theorem q187 : Good 187 t187 := ⟨a187,Tryz.f187,Tryz.func187,fun e => by have h := n187; rw [e] at h; simp at h,c187⟩
theorem n188 : (Tryz.f188.name == "runtime.NumGoroutine") = false := by kernel_rfl
theorem q188 : Good 188 t188 := ⟨a188,Tryz.f188,Tryz.func188,fun e => by have h := n188; rw [e] at h; simp at h,c188⟩
theorem n190 : (Tryz.f190.name == "runtime.NumGoroutine") = false := by kernel_rfl
theorem q190 : Good 190 t190 := ⟨a190,Tryz.f190,Tryz.func190,fun e => by have h := n190; rw [e] at h; simp at h,c190⟩
theorem n191 : (Tryz.f191.name == "runtime.NumGoroutine") = false := by kernel_rfl
theorem q191 : Good 191 t191 := ⟨a191,Tryz.f191,Tryz.func191,fun e => by have h := n191; rw [e] at h; simp at h,c191⟩
theorem n192 : (Tryz.f192.name == "runtime.NumGoroutine") = false := by kernel_rfl
theorem q192 : Good 192 t192 := ⟨a192,Tryz.f192,Tryz.func192,fun e => by have h := n192; rw [e] at h; simp at h,c192⟩
theorem n199 : (Tryz.f199.name == "runtime.NumGoroutine") = false := by kernel_rfl
theorem q199 : Good 199 t199 := ⟨a199,Tryz.f199,Tryz.func199,fun e => by have h := n199; rw [e] at h; simp at h,c199⟩
theorem n200 : (Tryz.f200.name == "runtime.NumGoroutine") = false := by kernel_rfl
theorem q200 : Good 200 t200 := ⟨a200,Tryz.f200,Tryz.func200,fun e => by have h := n200; rw [e] at h; simp at h,c200⟩
theorem good : AllAt Good 0 tbl := ⟨q7,q9,q10,q12,q13,q14,q15,q16,q17,q19,q21,q22,q24,q26,q27,q28,q29,q31,q32,q38,q40,q42,q43,q44,q45,q46,q48,q49,q51,q53,q54,q55,q56,q58,q59,q60,q61,q65,q66,q67,q74,q75,q76,q77,q78,q82,q83,q84,q85,q86,q87,q90,q91,q92,q93,q97,q98,q99,q100,q101,q108,q109,q110,q111,q112,q115,q116,q117,q118,q119,q120,q121,q125,q131,q132,q133,q134,q135,q138,q139,q148,q149,q150,q151,q152,q153,q157,q158,q161,q162,q163,q164,q170,q171,q172,q173,q184,q185,q186,q187,q188,q190,q191,q192,q199,q200,trivial⟩
theorem kok : KOK Tryz.prog opts K := ⟨fun k tf h => allAt_get good k tf h,fun f p h => primAt_ok (prims_ok opts K) h,by kernel_rfl⟩
end Go.Proofs.YtookmpaholmmfaaGreatDoor
