/- The functions of this seat, compiled for the evaluator TM, a part. By program. Condition: none. -/
import Derived.Test.YtookmpaholmmfaaGreatDoorTmProg1
set_option maxRecDepth 100000
set_option linter.unusedVariables false
namespace Go.Proofs.YtookmpaholmmfaaGreatDoor
open Go Go.TM
def a108 : Ann := { slots := [0,2,3,10],lb := [3],mu := [],trunc := [],draws := [] }
def t108 : TFunc := ⟨1,4,[.loc 1],
(.seq (.region [s_ 1 (.mov (i_ 0))])
(.seq (.region [o_ (.build [(.int .i64 0),(.int .i64 0),(.int .i64 0),(.int .i64 0),(.int .i64 0),(.int .i64 0),(.int .i64 0),(.int .i64 0),(.int .i64 0),(.int .i64 0),(.int .i64 0),(.int .i64 0),(.int .i64 0),(.int .i64 0),(.int .i64 0),(.int .i64 0),(.int .i64 0),(.int .i64 0),(.int .i64 0),(.int .i64 0),(.int .i64 0),(.int .i64 0),(.int .i64 0),(.int .i64 0),(.int .i64 0),(.int .i64 0),(.int .i64 0),(.int .i64 0),(.int .i64 0),(.int .i64 0),(.int .i64 0),(.int .i64 0),(.int .i64 0),(.int .i64 0),(.int .i64 0),(.int .i64 0),(.int .i64 0),(.int .i64 0),(.int .i64 0),(.int .i64 0),(.int .i64 0),(.int .i64 0)] [(0,1,(i_ 2)),(1,1,(i_ 1)),(2,1,(i_ 2)),(3,1,(i_ 1)),(4,1,(i_ 1)),(5,1,(i_ 2)),(6,1,(i_ 2)),(7,1,(i_ 1)),(8,1,(i_ 2)),(9,1,(i_ 2)),(10,1,(i_ 2)),(11,1,(i_ 2)),(12,1,(i_ 2)),(13,1,(i_ 2)),(14,1,(i_ 2)),(15,1,(i_ 1)),(16,1,(i_ 1)),(17,1,(i_ 1)),(18,1,(i_ 1)),(19,1,(i_ 2)),(20,1,(i_ 1)),(21,1,(i_ 2)),(22,1,(i_ 3)),(23,1,(i_ 1)),(24,1,(i_ 1)),(25,1,(i_ 1)),(26,1,(i_ 1)),(27,1,(i_ 2)),(28,1,(i_ 1)),(29,1,(i_ 2)),(30,1,(i_ 3)),(31,1,(i_ 1)),(32,1,(i_ 2)),(33,1,(i_ 1)),(34,1,(i_ 2)),(35,1,(i_ 3)),(36,1,(i_ 1)),(37,1,(i_ 0)),(38,1,(i_ 1)),(39,1,(i_ 1)),(40,1,(i_ 0)),(41,1,(i_ 0))]),o_ (.allocL 2 [(.int .i64 0),(.int .i64 0),(.int .i64 0),(.int .i64 0),(.int .i64 0),(.int .i64 0),(.int .i64 0),(.int .i64 0),(.int .i64 0),(.int .i64 0),(.int .i64 0),(.int .i64 0),(.int .i64 0),(.int .i64 0),(.int .i64 0),(.int .i64 0),(.int .i64 0),(.int .i64 0),(.int .i64 0),(.int .i64 0),(.int .i64 0),(.int .i64 0),(.int .i64 0),(.int .i64 0),(.int .i64 0),(.int .i64 0),(.int .i64 0),(.int .i64 0),(.int .i64 0),(.int .i64 0),(.int .i64 0),(.int .i64 0),(.int .i64 0),(.int .i64 0),(.int .i64 0),(.int .i64 0),(.int .i64 0),(.int .i64 0),(.int .i64 0),(.int .i64 0),(.int .i64 0),(.int .i64 0)]),o_ (.store 42 (.reg 1) (.reg 0))])
(.seq (.seq (.region [o_ (.mov (.loc 0)),o_ (.bin .lss (.reg 0) (i_ 0)),o_ (.mov (.reg 1)),⟨.mov (.loc 0),none,(some (2,false))⟩,⟨.bin .geq (.reg 3) (i_ 42),none,(some (2,false))⟩,s_ 3 (.pick (.reg 2) (.cst (.bool true)) (.reg 4))])
(.cond (.loc 3)
(.seq (.region [s_ 1 (.mov (i_ (-1)))])
.ret)
.skip))
(.seq (.region [o_ (.mov (.loc 0)),o_ (.indexAddrA 42 1 (.loc 2) (.reg 0)),o_ (.load1 (.reg 1)),s_ 1 (.mov (.reg 2))])
.ret))))⟩
theorem c108 : compFunc Tryz.prog opts a108 Tryz.f108 = some t108 := by kernel_rfl
def a109 : Ann := { slots := [0,2,3,10],lb := [3],mu := [],trunc := [],draws := [] }
def t109 : TFunc := ⟨1,4,[.loc 1],
(.seq (.region [s_ 1 (.mov (.cst (.str [])))])
(.seq (.region [o_ (.build [(.str []),(.str []),(.str []),(.str []),(.str []),(.str []),(.str []),(.str []),(.str []),(.str []),(.str []),(.str []),(.str []),(.str []),(.str []),(.str []),(.str []),(.str []),(.str []),(.str []),(.str []),(.str []),(.str []),(.str []),(.str []),(.str []),(.str []),(.str []),(.str []),(.str []),(.str []),(.str []),(.str []),(.str []),(.str []),(.str []),(.str []),(.str []),(.str []),(.str []),(.str []),(.str [])] [(0,1,(.cst (.str [101,113,63]))),(1,1,(.cst (.str [112,97,105,114,63]))),(2,1,(.cst (.str [99,111,110,115]))),(3,1,(.cst (.str [99,97,114]))),(4,1,(.cst (.str [99,100,114]))),(5,1,(.cst (.str [115,101,116,45,99,97,114,33]))),(6,1,(.cst (.str [115,101,116,45,99,100,114,33]))),(7,1,(.cst (.str [105,110,116,101,103,101,114,63]))),(8,1,(.cst (.str [37,43]))),(9,1,(.cst (.str [37,45]))),(10,1,(.cst (.str [37,42]))),(11,1,(.cst (.str [113,117,111,116,105,101,110,116]))),(12,1,(.cst (.str [114,101,109,97,105,110,100,101,114]))),(13,1,(.cst (.str [37,61]))),(14,1,(.cst (.str [37,60]))),(15,1,(.cst (.str [99,104,97,114,63]))),(16,1,(.cst (.str [99,104,97,114,45,62,105,110,116,101,103,101,114]))),(17,1,(.cst (.str [105,110,116,101,103,101,114,45,62,99,104,97,114]))),(18,1,(.cst (.str [115,116,114,105,110,103,63]))),(19,1,(.cst (.str [109,97,107,101,45,115,116,114,105,110,103]))),(20,1,(.cst (.str [115,116,114,105,110,103,45,108,101,110,103,116,104]))),(21,1,(.cst (.str [115,116,114,105,110,103,45,114,101,102]))),(22,1,(.cst (.str [115,116,114,105,110,103,45,115,101,116,33]))),(23,1,(.cst (.str [115,121,109,98,111,108,63]))),(24,1,(.cst (.str [115,121,109,98,111,108,45,62,115,116,114,105,110,103]))),(25,1,(.cst (.str [115,116,114,105,110,103,45,62,115,121,109,98,111,108]))),(26,1,(.cst (.str [118,101,99,116,111,114,63]))),(27,1,(.cst (.str [109,97,107,101,45,118,101,99,116,111,114]))),(28,1,(.cst (.str [118,101,99,116,111,114,45,108,101,110,103,116,104]))),(29,1,(.cst (.str [118,101,99,116,111,114,45,114,101,102]))),(30,1,(.cst (.str [118,101,99,116,111,114,45,115,101,116,33]))),(31,1,(.cst (.str [98,121,116,101,118,101,99,116,111,114,63]))),(32,1,(.cst (.str [109,97,107,101,45,98,121,116,101,118,101,99,116,111,114]))),(33,1,(.cst (.str [98,121,116,101,118,101,99,116,111,114,45,108,101,110,103,116,104]))),(34,1,(.cst (.str [98,121,116,101,118,101,99,116,111,114,45,117,56,45,114,101,102]))),(35,1,(.cst (.str [98,121,116,101,118,101,99,116,111,114,45,117,56,45,115,101,116,33]))),(36,1,(.cst (.str [112,114,111,99,101,100,117,114,101,63]))),(37,1,(.cst (.str [114,101,97,100,45,117,56]))),(38,1,(.cst (.str [119,114,105,116,101,45,117,56]))),(39,1,(.cst (.str [37,104,97,108,116]))),(40,1,(.cst (.str [101,111,102,45,111,98,106,101,99,116]))),(41,1,(.cst (.str [37,110,111,110,101])))]),o_ (.allocL 2 [(.str []),(.str []),(.str []),(.str []),(.str []),(.str []),(.str []),(.str []),(.str []),(.str []),(.str []),(.str []),(.str []),(.str []),(.str []),(.str []),(.str []),(.str []),(.str []),(.str []),(.str []),(.str []),(.str []),(.str []),(.str []),(.str []),(.str []),(.str []),(.str []),(.str []),(.str []),(.str []),(.str []),(.str []),(.str []),(.str []),(.str []),(.str []),(.str []),(.str []),(.str []),(.str [])]),o_ (.store 42 (.reg 1) (.reg 0))])
(.seq (.seq (.region [o_ (.mov (.loc 0)),o_ (.bin .lss (.reg 0) (i_ 0)),o_ (.mov (.reg 1)),⟨.mov (.loc 0),none,(some (2,false))⟩,⟨.bin .geq (.reg 3) (i_ 42),none,(some (2,false))⟩,s_ 3 (.pick (.reg 2) (.cst (.bool true)) (.reg 4))])
(.cond (.loc 3)
(.seq (.region [s_ 1 (.mov (.cst (.str [])))])
.ret)
.skip))
(.seq (.region [o_ (.mov (.loc 0)),o_ (.indexAddrA 42 1 (.loc 2) (.reg 0)),o_ (.load1 (.reg 1)),s_ 1 (.mov (.reg 2))])
.ret))))⟩
theorem c109 : compFunc Tryz.prog opts a109 Tryz.f109 = some t109 := by kernel_rfl
def a110 : Ann := { slots := [0,2],lb := [],mu := [],trunc := [],draws := [] }
def t110 : TFunc := ⟨1,2,[.loc 1],
(.seq (.region [s_ 1 (.mov (.cst (.str [])))])
(.seq (.region [o_ (.mov (.loc 0)),o_ (.call true false 138 [(.reg 0),(i_ 10)]),s_ 1 (.mov (.reg 1))])
.ret))⟩
theorem c110 : compFunc Tryz.prog opts a110 Tryz.f110 = some t110 := by kernel_rfl
def a111 : Ann := { slots := [0,2],lb := [],mu := [],trunc := [],draws := [] }
def t111 : TFunc := ⟨1,2,[.loc 1],
(.seq (.region [s_ 1 (.mov (.cst (.str [])))])
(.seq (.region [o_ (.mov (.loc 0)),o_ (.call true false 75 [(.reg 0)]),o_ (.bin .add (.cst (.str [118])) (.reg 1)),s_ 1 (.mov (.reg 2))])
.ret))⟩
theorem c111 : compFunc Tryz.prog opts a111 Tryz.f111 = some t111 := by kernel_rfl
def a112 : Ann := { slots := [0,1,7,21],lb := [],mu := [],trunc := [],draws := [(3,⟨[0,1,3,7,15,0,32,96,224,480,1023,0,4095],[0,1,2,3,4,5,6,7,8,9,10,11,12],[]⟩)] }
def t112 : TFunc := ⟨2,4,[],
(.seq (.region [o_ (.mov (.loc 0)),o_ (.prim 113 [(.reg 0)])])
(.seq (.seq (.region [o_ (.mov (.loc 1)),s_ 2 (.bin .lss (.reg 0) (i_ 0))])
(.cond (.loc 2)
(.region [o_ (.bad),o_ (.bad)])
.skip))
(.seq (.draw [0,1,2,3,4,5,6,7,8,9,10,11,12] [] [o_ (.mov (.loc 0)),o_ (.nilCheck (.reg 0)),o_ (.fieldAddr 1 (.reg 1)),o_ (.load1 (.reg 2)),o_ (.cap (.reg 3)),o_ (.mov (.loc 0)),o_ (.nilCheck (.reg 5)),o_ (.fieldAddr 1 (.reg 6)),o_ (.load1 (.reg 7)),o_ (.len .sl (.reg 8)),o_ (.bin .sub (.reg 4) (.reg 9)),o_ (.mov (.loc 1)),s_ 3 (.bin .lss (.reg 10) (.reg 11))])
(.cond (.loc 3)
(.region [o_ (.mov (.loc 0)),o_ (.mov (.loc 1)),o_ (.call false false 139 [(.reg 0),(.reg 1)])])
.skip))))⟩
theorem c112 : compFunc Tryz.prog opts a112 Tryz.f112 = some t112 := by kernel_rfl
def a114 : Ann := { slots := [0,1,3,5,9,15,28,37,43,59,65,79,94,100],lb := [3],mu := [],trunc := [],draws := [(6,⟨[0,1,3,0,8,0,32,96,248,504,1023],[0,1,2,3,4,5,6,7,8,9],[(10,[],[])]⟩),(9,⟨[0,1,3,0,8,31],[0,1,2,3,4],[(5,[],[])]⟩),(12,⟨[0,1,3,0,8,24,56,127],[0,1,2,3,4],[(5,[],[6]),(7,[],[])]⟩),(13,⟨[0,1,3,0,8,24,63],[0,1,2,3,4,5],[(6,[],[])]⟩)] }
def t114 : TFunc := ⟨2,14,[],
(.seq (.region [o_ (.boxL 2 (.loc 1))])
(.seq (.region [o_ (.fieldAddr 0 (.loc 2)),s_ 3 (.load1 (.reg 0))])
(.block 0
(.seq (.region [o_ (.bin .eql (.loc 3) (i_ 0)),s_ 4 (.mov (.reg 0))])
(.cond (.loc 4)
(.region [o_ (.mov (.loc 0)),o_ (.nilCheck (.reg 0)),o_ (.fieldAddr 0 (.reg 1)),o_ (.call false false 78 [(.reg 2),(.cst (.str [40,41]))])])
(.seq (.region [o_ (.bin .eql (.loc 3) (i_ 1)),s_ 5 (.mov (.reg 0))])
(.cond (.loc 5)
(.draw [0,1,2,3,4,5,6,7,8,9] [(10,[],[])] [o_ (.mov (.loc 0)),o_ (.nilCheck (.reg 0)),o_ (.fieldAddr 0 (.reg 1)),o_ (.fieldAddr 1 (.loc 2)),o_ (.load1 (.reg 3)),o_ (.fieldAddr 1 (.loc 2)),o_ (.load1 (.reg 5)),o_ (.bin .add (.reg 6) (i_ 1)),o_ (.slice .str (.cst (.str [102,116])) (some (.reg 4)) (some (.reg 7)) none),o_ (.bin .add (.cst (.str [35])) (.reg 8)),o_ (.call false false 78 [(.reg 2),(.reg 9)])])
(.seq (.seq (.region [o_ (.bin .eql (.loc 3) (i_ 2)),s_ 6 (.mov (.reg 0))])
(.cond (.loc 6)
.skip
(.region [o_ (.bin .eql (.loc 3) (i_ 5)),s_ 6 (.mov (.reg 0))])))
(.cond (.loc 6)
(.draw [0,1,2,3,4] [(5,[],[])] [o_ (.mov (.loc 0)),o_ (.nilCheck (.reg 0)),o_ (.fieldAddr 0 (.reg 1)),o_ (.fieldAddr 2 (.loc 2)),o_ (.load1 (.reg 3)),o_ (.call false false 78 [(.reg 2),(.reg 4)])])
(.seq (.region [o_ (.bin .eql (.loc 3) (i_ 3)),s_ 7 (.mov (.reg 0))])
(.cond (.loc 7)
(.seq (.seq (.region [o_ (.mov (.loc 0)),o_ (.nilCheck (.reg 0)),o_ (.fieldAddr 2 (.reg 1)),o_ (.load1 (.reg 2)),s_ 8 (.un .not (.reg 3))])
(.cond (.loc 8)
(.seq (.draw [0,1,2,3,4] [(5,[],[6]),(7,[],[])] [o_ (.mov (.loc 0)),o_ (.nilCheck (.reg 0)),o_ (.fieldAddr 0 (.reg 1)),o_ (.fieldAddr 1 (.loc 2)),o_ (.load1 (.reg 3)),o_ (.call true false 141 [(.reg 4)]),o_ (.bin .add (.cst (.str [35,92])) (.reg 5)),o_ (.call false false 78 [(.reg 2),(.reg 6)])])
.ret)
.skip))
(.draw [0,1,2,3,4,5] [(6,[],[])] [o_ (.mov (.loc 0)),o_ (.nilCheck (.reg 0)),o_ (.fieldAddr 0 (.reg 1)),o_ (.fieldAddr 1 (.loc 2)),o_ (.load1 (.reg 3)),o_ (.conv (.toInt .i32) (.reg 4)),o_ (.call false false 142 [(.reg 2),(.reg 5)])]))
(.seq (.region [o_ (.bin .eql (.loc 3) (i_ 4)),s_ 9 (.mov (.reg 0))])
(.cond (.loc 9)
(.region [o_ (.mov (.loc 0)),o_ (.fieldAddr 2 (.loc 2)),o_ (.load1 (.reg 1)),o_ (.call false false 143 [(.reg 0),(.reg 2)])])
(.seq (.region [o_ (.bin .eql (.loc 3) (i_ 7)),s_ 10 (.mov (.reg 0))])
(.cond (.loc 10)
(.seq (.region [o_ (.mov (.loc 0)),o_ (.nilCheck (.reg 0)),o_ (.fieldAddr 0 (.reg 1)),o_ (.call false false 78 [(.reg 2),(.cst (.str [35,40]))])])
(.seq (.region [o_ (.mov (.loc 0)),o_ (.fieldAddr 3 (.loc 2)),o_ (.load1 (.reg 1)),o_ (.call false false 144 [(.reg 0),(.reg 2)])])
(.region [o_ (.mov (.loc 0)),o_ (.nilCheck (.reg 0)),o_ (.fieldAddr 0 (.reg 1)),o_ (.call false false 145 [(.reg 2),(.cst (.int .u8 41))])])))
(.seq (.region [o_ (.bin .eql (.loc 3) (i_ 8)),s_ 11 (.mov (.reg 0))])
(.cond (.loc 11)
(.seq (.region [o_ (.mov (.loc 0)),o_ (.nilCheck (.reg 0)),o_ (.fieldAddr 0 (.reg 1)),o_ (.call false false 78 [(.reg 2),(.cst (.str [35,117,56,40]))])])
(.seq (.region [o_ (.mov (.loc 0)),o_ (.fieldAddr 2 (.loc 2)),o_ (.load1 (.reg 1)),o_ (.call false false 146 [(.reg 2)]),o_ (.call false false 144 [(.reg 0),(.reg 3)])])
(.region [o_ (.mov (.loc 0)),o_ (.nilCheck (.reg 0)),o_ (.fieldAddr 0 (.reg 1)),o_ (.call false false 145 [(.reg 2),(.cst (.int .u8 41))])])))
(.seq (.region [o_ (.bin .eql (.loc 3) (i_ 9)),s_ 12 (.mov (.reg 0))])
(.cond (.loc 12)
(.region [o_ (.mov (.loc 0)),o_ (.nilCheck (.reg 0)),o_ (.fieldAddr 0 (.reg 1)),o_ (.call false false 78 [(.reg 2),(.cst (.str [35,33,101,111,102]))])])
(.seq (.region [o_ (.bin .eql (.loc 3) (i_ 10)),s_ 13 (.mov (.reg 0))])
(.cond (.loc 13)
(.region [o_ (.mov (.loc 0)),o_ (.nilCheck (.reg 0)),o_ (.fieldAddr 0 (.reg 1)),o_ (.call false false 78 [(.reg 2),(.cst (.str [35,33,110,111,110,101]))])])
(.region [o_ (.mov (.loc 0)),o_ (.loadN 5 (.loc 2)),o_ (.call false false 147 [(.reg 0),(.reg 1)])]))))))))))))))))))))))⟩
theorem c114 : compFunc Tryz.prog opts a114 Tryz.f114 = some t114 := by kernel_rfl
def a115 : Ann := { slots := [0,1,4,5,7,8,9,16],lb := [],mu := [],trunc := [],draws := [] }
def t115L0 : TCode := (.seq (.region [s_ 6 (.bin .lss (.loc 5) (.loc 4))])
(.seq (.cond (.loc 6)
.skip
(.exit 0))
(.seq (.block 1
(.seq (.region [o_ (.mov (.loc 5)),s_ 3 (.mov (.reg 0))])
(.seq (.region [o_ (.mov (.loc 1)),o_ (.mov (.loc 0)),o_ (.mov (.loc 3)),o_ (.indexAddrS 5 (.reg 1) (.reg 2)),o_ (.loadN 5 (.reg 3)),s_ 7 (.callv (.reg 0) [(.reg 4)])])
(.cond (.loc 7)
(.seq (.region [o_ (.mov (.loc 3)),s_ 2 (.mov (.reg 0))])
.ret)
.skip))))
(.region [o_ (.bin .add (.loc 5) (i_ 1)),s_ 5 (.mov (.reg 0))]))))
def t115 : TFunc := ⟨2,8,[.loc 2],
(.seq (.region [s_ 2 (.mov (i_ 0))])
(.seq (.seq (.region [o_ (.mov (.loc 0)),s_ 4 (.len .sl (.reg 0)),s_ 5 (.mov (i_ 0))])
(.block 0
(.loop t115L0)))
(.seq (.region [s_ 2 (.mov (i_ (-1)))])
.ret)))⟩
theorem c115 : compFunc Tryz.prog opts a115 Tryz.f115 = some t115 := by kernel_rfl
def a116 : Ann := { slots := [0,2,3,16],lb := [],mu := [],trunc := [],draws := [] }
def t116 : TFunc := ⟨1,4,[.loc 1],
(.seq (.region [s_ 1 (.mov (.cst (.bool false)))])
(.seq (.region [o_ (.mov (.loc 0)),o_ (.call true false 148 [(.reg 0),(.cst (.str [45]))]),s_ 2 (.mov (.reg 1))])
(.seq (.seq (.region [o_ (.mov (.loc 2)),o_ (.bin .eql (.reg 0) (.cst (.str []))),o_ (.mov (.reg 1)),⟨.mov (.loc 2),none,(some (2,false))⟩,⟨.indexS (.reg 3) (i_ 0),none,(some (2,false))⟩,⟨.bin .eql (.reg 4) (.cst (.int .u8 48)),none,(some (2,false))⟩,⟨.mov (.reg 5),none,(some (2,false))⟩,⟨.mov (.loc 0),none,(some (6,true))⟩,⟨.bin .neq (.reg 7) (.cst (.str [48])),none,(some (6,true))⟩,⟨.pick (.reg 6) (.reg 8) (.cst (.bool false)),none,(some (2,false))⟩,s_ 3 (.pick (.reg 2) (.cst (.bool true)) (.reg 9))])
(.cond (.loc 3)
(.seq (.region [s_ 1 (.mov (.cst (.bool false)))])
.ret)
.skip))
(.seq (.region [o_ (.mov (.loc 2)),o_ (.call false false 149 [(.reg 0),(.fn 150)]),o_ (.un .not (.reg 1)),s_ 1 (.mov (.reg 2))])
.ret))))⟩
theorem c116 : compFunc Tryz.prog opts a116 Tryz.f116 = some t116 := by kernel_rfl
def a117 : Ann := { slots := [0,2],lb := [],mu := [],trunc := [],draws := [] }
def t117 : TFunc := ⟨1,2,[.loc 1],
(.seq (.region [s_ 1 (.mov (.cst (.bool false)))])
(.seq (.region [o_ (.mov (.loc 0)),o_ (.bin .geq (.reg 0) (i_ 0)),o_ (.mov (.reg 1)),⟨.mov (.loc 0),none,(some (2,true))⟩,⟨.bin .leq (.reg 3) (i_ 1114111),none,(some (2,true))⟩,o_ (.pick (.reg 2) (.reg 4) (.cst (.bool false))),o_ (.mov (.reg 5)),⟨.mov (.loc 0),none,(some (6,true))⟩,⟨.conv (.toInt .i32) (.reg 7),none,(some (6,true))⟩,⟨.call true false 151 [(.reg 8)],none,(some (6,true))⟩,o_ (.pick (.reg 6) (.reg 9) (.cst (.bool false))),s_ 1 (.mov (.reg 10))])
.ret))⟩
theorem c117 : compFunc Tryz.prog opts a117 Tryz.f117 = some t117 := by kernel_rfl
def a118 : Ann := { slots := [0,2,3,4,5,6,8,17,20,21,22,23],lb := [8,5],mu := [],trunc := [],draws := [(3,⟨[0,1,0,7],[0,1,2,3],[]⟩)] }
def t118L0 : TCode := (.seq (.region [s_ 11 (.bin .lss (.loc 10) (.loc 9))])
(.seq (.cond (.loc 11)
.skip
(.exit 0))
(.seq (.block 1
(.seq (.region [o_ (.indexAddrS 2 (.loc 8) (.loc 10)),o_ (.loadN 2 (.reg 0)),o_ (.allocL 6 [(.int .i64 0),(.int .i64 0)]),o_ (.store 2 (.reg 2) (.reg 1))])
(.region [o_ (.mov (.loc 5)),o_ (.fieldAddr 0 (.loc 6)),o_ (.load1 (.reg 1)),o_ (.lit false [(.int .i64 0)] 1 [(0,(.reg 2))]),o_ (.append false 1 8 3 (.reg 0) (.reg 3)),s_ 5 (.mov (.reg 4))])))
(.region [o_ (.bin .add (.loc 10) (i_ 1)),s_ 10 (.mov (.reg 0))]))))
def t118 : TFunc := ⟨1,12,[.loc 1,.loc 2],
(.seq (.region [s_ 1 (.mov (.cst (.sl .nil []))),s_ 2 (.mov (i_ 0))])
(.seq (.region [o_ (.mov (.loc 0)),o_ (.conv .strBytes (.reg 0)),o_ (.call true false 152 [(.reg 1)]),o_ (.mov (.reg 2)),o_ (.extract 0 (.reg 3)),o_ (.extract 1 (.reg 3)),o_ (.allocL 4 [(.int .i64 0),(.int .i64 0)]),s_ 3 (.mov (.reg 4)),o_ (.store 2 (.reg 6) (.reg 5))])
(.seq (.seq (.region [o_ (.fieldAddr 0 (.loc 4)),o_ (.load1 (.reg 0)),s_ 7 (.bin .neq (.reg 1) (i_ 0))])
(.cond (.loc 7)
(.seq (.draw [0,1,2,3] [] [o_ (.fieldAddr 0 (.loc 4)),o_ (.load1 (.reg 0)),s_ 1 (.mov (.cst (.sl .nil []))),s_ 2 (.mov (.reg 1))])
.ret)
.skip))
(.seq (.region [s_ 5 (.mov (.cst (.sl .nil [])))])
(.seq (.seq (.region [s_ 8 (.mov (.loc 3)),s_ 9 (.len .sl (.reg 0)),s_ 10 (.mov (i_ 0))])
(.block 0
(.loop t118L0)))
(.seq (.region [o_ (.mov (.loc 5)),s_ 1 (.mov (.reg 0)),s_ 2 (.mov (i_ 0))])
.ret))))))⟩
theorem c118 : compFunc Tryz.prog opts a118 Tryz.f118 = some t118 := by kernel_rfl
def a119 : Ann := { slots := [0,1,4],lb := [],mu := [],trunc := [],draws := [] }
def t119 : TFunc := ⟨2,3,[.loc 2],
(.seq (.region [s_ 2 (.mov (.cst (.bool false)))])
(.seq (.region [o_ (.mov (.loc 0)),o_ (.bin .geq (.reg 0) (i_ 0)),o_ (.mov (.reg 1)),⟨.mov (.loc 0),none,(some (2,true))⟩,⟨.mov (.loc 1),none,(some (2,true))⟩,⟨.bin .lss (.reg 3) (.reg 4),none,(some (2,true))⟩,o_ (.pick (.reg 2) (.reg 5) (.cst (.bool false))),s_ 2 (.mov (.reg 6))])
.ret))⟩
theorem c119 : compFunc Tryz.prog opts a119 Tryz.f119 = some t119 := by kernel_rfl
def a120 : Ann := { slots := [0,1,4],lb := [],mu := [],trunc := [],draws := [] }
def t120 : TFunc := ⟨2,3,[.loc 2],
(.seq (.region [s_ 2 (.mov (.cst (.bool false)))])
(.seq (.region [o_ (.mov (.loc 0)),o_ (.mov (.loc 1)),o_ (.call false false 153 [(.reg 0),(.reg 1)]),o_ (.bin .geq (.reg 2) (i_ 0)),s_ 2 (.mov (.reg 3))])
.ret))⟩
theorem c120 : compFunc Tryz.prog opts a120 Tryz.f120 = some t120 := by kernel_rfl
def a121 : Ann := { slots := [0,1,2,4],lb := [],mu := [],trunc := [],draws := [(1,⟨[0,0,0,4,12,28,60,127,255,511],[0,1,2,3,4,5,6],[(7,[],[8,9])]⟩)] }
def t121 : TFunc := ⟨3,4,[.loc 3],
(.seq (.region [s_ 3 (.mov (.cst (.bool false)))])
(.seq (.draw [0,1,2,3,4,5,6] [(7,[],[8,9])] [o_ (.load1 (.loc 1)),o_ (.mov (.loc 0)),o_ (.load1 (.loc 2)),o_ (.nilCheck (.reg 2)),o_ (.fieldAddr 0 (.reg 3)),o_ (.fieldAddr 6 (.reg 4)),o_ (.load1 (.reg 5)),o_ (.callv (.reg 0) [(.reg 1),(.reg 6)]),o_ (.un .not (.reg 7)),s_ 3 (.mov (.reg 8))])
.ret))⟩
theorem c121 : compFunc Tryz.prog opts a121 Tryz.f121 = some t121 := by kernel_rfl
def a125 : Ann := { slots := [0,1,4,5,6,7,8,16,26,50],lb := [],mu := [],trunc := [],draws := [(7,⟨[0,1,3,7,15,31,7,7,7,7,775,1991,4039,8191,16383],[0],[(1,[],[2,3,6,7,8,9,10,11,12]),(4,[11,12],[5,13,14])]⟩)] }
def t125L0 : TCode := (.seq (.seq (.region [o_ (.mov (.loc 5)),o_ (.bin .leq (.reg 0) (i_ 4)),o_ (.mov (.reg 1)),⟨.mov (.loc 1),none,(some (2,true))⟩,⟨.mov (.loc 5),none,(some (2,true))⟩,⟨.bin .add (.reg 3) (.reg 4),none,(some (2,true))⟩,⟨.mov (.loc 0),none,(some (2,true))⟩,⟨.len .sl (.reg 6),none,(some (2,true))⟩,⟨.bin .leq (.reg 5) (.reg 7),none,(some (2,true))⟩,s_ 8 (.pick (.reg 2) (.reg 8) (.cst (.bool false)))])
(.cond (.loc 8)
.skip
(.exit 0)))
(.seq (.block 1
(.seq (.region [o_ (.mov (.loc 0)),o_ (.mov (.loc 1)),o_ (.mov (.loc 1)),o_ (.mov (.loc 5)),o_ (.bin .add (.reg 2) (.reg 3)),o_ (.slice (.sl 1) (.reg 0) (some (.reg 1)) (some (.reg 4)) none),o_ (.call true false 157 [(.reg 5)]),s_ 6 (.mov (.reg 6))])
(.seq (.draw [0] [(1,[],[2,3,6,7,8,9,10,11,12]),(4,[11,12],[5,13,14])] [o_ (.mov (.loc 6)),o_ (.call true false 53 [(.reg 0)]),o_ (.mov (.reg 1)),⟨.mov (.loc 6),none,(some (2,true))⟩,⟨.call true false 158 [(.reg 3)],none,(some (2,true))⟩,⟨.conv .bytesStr (.reg 4),none,(some (2,true))⟩,⟨.mov (.loc 0),none,(some (2,true))⟩,⟨.mov (.loc 1),none,(some (2,true))⟩,⟨.mov (.loc 1),none,(some (2,true))⟩,⟨.mov (.loc 5),none,(some (2,true))⟩,⟨.bin .add (.reg 8) (.reg 9),none,(some (2,true))⟩,⟨.slice (.sl 1) (.reg 6) (some (.reg 7)) (some (.reg 10)) none,none,(some (2,true))⟩,⟨.conv .bytesStr (.reg 11),none,(some (2,true))⟩,⟨.bin .eql (.reg 5) (.reg 12),none,(some (2,true))⟩,s_ 9 (.pick (.reg 2) (.reg 13) (.cst (.bool false)))])
(.cond (.loc 9)
(.seq (.region [o_ (.mov (.loc 6)),o_ (.mov (.loc 5)),s_ 2 (.mov (.reg 0)),s_ 3 (.mov (.reg 1)),s_ 4 (.mov (i_ 0))])
.ret)
.skip))))
(.region [o_ (.mov (.loc 5)),o_ (.bin .add (.reg 0) (i_ 1)),s_ 5 (.mov (.reg 1))])))
def t125 : TFunc := ⟨2,10,[.loc 2,.loc 3,.loc 4],
(.seq (.region [s_ 2 (.mov (i_ 0)),s_ 3 (.mov (i_ 0)),s_ 4 (.mov (i_ 0))])
(.seq (.seq (.region [o_ (.mov (.loc 1)),o_ (.bin .lss (.reg 0) (i_ 0)),o_ (.mov (.reg 1)),⟨.mov (.loc 1),none,(some (2,false))⟩,⟨.mov (.loc 0),none,(some (2,false))⟩,⟨.len .sl (.reg 4),none,(some (2,false))⟩,⟨.bin .geq (.reg 3) (.reg 5),none,(some (2,false))⟩,s_ 7 (.pick (.reg 2) (.cst (.bool true)) (.reg 6))])
(.cond (.loc 7)
(.seq (.region [s_ 2 (.mov (i_ 0)),s_ 3 (.mov (i_ 0)),s_ 4 (.mov (i_ 2))])
.ret)
.skip))
(.seq (.seq (.region [s_ 5 (.mov (i_ 1))])
(.block 0
(.loop t125L0)))
(.seq (.region [s_ 2 (.mov (i_ 0)),s_ 3 (.mov (i_ 0)),s_ 4 (.mov (i_ 4))])
.ret))))⟩
theorem c125 : compFunc Tryz.prog opts a125 Tryz.f125 = some t125 := by kernel_rfl
def a138 : Ann := { slots := [0,1,4,5,6,7,9,11,17,23,34],lb := [],mu := [],trunc := [],draws := [] }
def t138 : TFunc := ⟨2,11,[.loc 2],
(.seq (.region [s_ 2 (.mov (.cst (.str [])))])
(.seq (.seq (.region [o_ (.mov (.loc 1)),s_ 7 (.bin .eql (.reg 0) (i_ 10))])
(.cond (.loc 7)
(.seq (.seq (.region [o_ (.mov (.loc 0)),o_ (.bin .leq (i_ 0) (.reg 0)),o_ (.mov (.reg 1)),⟨.mov (.loc 0),none,(some (2,true))⟩,⟨.bin .lss (.reg 3) (i_ 100),none,(some (2,true))⟩,s_ 8 (.pick (.reg 2) (.reg 4) (.cst (.bool false)))])
(.cond (.loc 8)
(.seq (.region [o_ (.mov (.loc 0)),o_ (.call true false 161 [(.reg 0)]),s_ 2 (.mov (.reg 1))])
.ret)
.skip))
(.seq (.region [s_ 3 (.allocH 176 [(.int .u8 0),(.int .u8 0),(.int .u8 0),(.int .u8 0),(.int .u8 0),(.int .u8 0),(.int .u8 0),(.int .u8 0),(.int .u8 0),(.int .u8 0),(.int .u8 0),(.int .u8 0),(.int .u8 0),(.int .u8 0),(.int .u8 0),(.int .u8 0),(.int .u8 0),(.int .u8 0),(.int .u8 0),(.int .u8 0),(.int .u8 0),(.int .u8 0),(.int .u8 0),(.int .u8 0)])])
(.seq (.region [o_ (.mov (.loc 0)),o_ (.conv (.toInt .u64) (.reg 0)),s_ 4 (.mov (.reg 1))])
(.seq (.seq (.region [o_ (.mov (.loc 0)),s_ 9 (.bin .lss (.reg 0) (i_ 0))])
(.cond (.loc 9)
(.region [o_ (.mov (.loc 4)),o_ (.un .neg (.reg 0)),s_ 4 (.mov (.reg 1))])
.skip))
(.seq (.region [o_ (.mov (.loc 4)),o_ (.call true false 162 [(.reg 0)]),s_ 5 (.mov (.reg 1))])
(.seq (.region [o_ (.mov (.loc 5)),o_ (.bin .add (i_ 1) (.reg 0)),o_ (.slice (.arr 24 1) (.loc 3) (some (i_ 1)) (some (.reg 1)) none),o_ (.mov (.loc 4)),o_ (.call false false 163 [(.reg 2),(.reg 3)])])
(.seq (.seq (.region [o_ (.mov (.loc 0)),s_ 10 (.bin .lss (.reg 0) (i_ 0))])
(.cond (.loc 10)
(.seq (.region [o_ (.indexAddrA 24 1 (.loc 3) (i_ 0)),o_ (.store 1 (.reg 0) (.cst (.int .u8 45)))])
(.seq (.region [o_ (.mov (.loc 5)),o_ (.bin .add (i_ 1) (.reg 0)),o_ (.slice (.arr 24 1) (.loc 3) none (some (.reg 1)) none),o_ (.conv .bytesStr (.reg 2)),s_ 2 (.mov (.reg 3))])
.ret))
.skip))
(.seq (.region [o_ (.mov (.loc 5)),o_ (.bin .add (i_ 1) (.reg 0)),o_ (.slice (.arr 24 1) (.loc 3) (some (i_ 1)) (some (.reg 1)) none),o_ (.conv .bytesStr (.reg 2)),s_ 2 (.mov (.reg 3))])
.ret))))))))
.skip))
(.seq (.region [o_ (.mov (.loc 0)),o_ (.conv (.toInt .u64) (.reg 0)),o_ (.mov (.loc 1)),o_ (.mov (.loc 0)),o_ (.bin .lss (.reg 3) (i_ 0)),o_ (.call true false 164 [(.cst (.sl .nil [])),(.reg 1),(.reg 2),(.reg 4),(.cst (.bool false))]),o_ (.mov (.reg 5)),o_ (.extract 0 (.reg 6)),o_ (.extract 1 (.reg 6)),o_ (.mov (.reg 7)),s_ 6 (.mov (.reg 8))])
(.seq (.region [o_ (.mov (.loc 6)),s_ 2 (.mov (.reg 0))])
.ret))))⟩
theorem c138 : compFunc Tryz.prog opts a138 Tryz.f138 = some t138 := by kernel_rfl
def a139 : Ann := { slots := [0,1,4],lb := [],mu := [],trunc := [],draws := [(0,⟨[0,1,3,7,15,31,0,127,255,0,512,1536,3584,7680,16383,32767],[0,1,2,3,4,5,6,7,9,10,11,12,13],[(8,[12,13],[14,15])]⟩)] }
def t139 : TFunc := ⟨2,3,[],
(.seq (.draw [0,1,2,3,4,5,6,7,9,10,11,12,13] [(8,[12,13],[14,15])] [o_ (.mov (.loc 0)),o_ (.nilCheck (.reg 0)),o_ (.fieldAddr 1 (.reg 1)),o_ (.load1 (.reg 2)),o_ (.cap (.reg 3)),o_ (.bin .mul (i_ 2) (.reg 4)),o_ (.mov (.loc 1)),o_ (.bin .add (.reg 5) (.reg 6)),o_ (.prim 165 [(.reg 7)]),o_ (.mov (.loc 0)),o_ (.nilCheck (.reg 9)),o_ (.fieldAddr 1 (.reg 10)),o_ (.load1 (.reg 11)),o_ (.len .sl (.reg 12)),o_ (.slice (.sl 1) (.reg 8) none (some (.reg 13)) none),s_ 2 (.mov (.reg 14))])
(.seq (.region [o_ (.mov (.loc 2)),o_ (.mov (.loc 0)),o_ (.nilCheck (.reg 1)),o_ (.fieldAddr 1 (.reg 2)),o_ (.load1 (.reg 3)),o_ (.copy 1 (.reg 0) (.reg 4))])
(.region [o_ (.mov (.loc 0)),o_ (.mov (.loc 2)),o_ (.nilCheck (.reg 0)),o_ (.fieldAddr 1 (.reg 2)),o_ (.store 1 (.reg 3) (.reg 1))])))⟩
theorem c139 : compFunc Tryz.prog opts a139 Tryz.f139 = some t139 := by kernel_rfl
def a141 : Ann := { slots := [0,2,3,6,9,12],lb := [],mu := [],trunc := [],draws := [] }
def t141 : TFunc := ⟨1,6,[.loc 1],
(.seq (.region [s_ 1 (.mov (.cst (.str [])))])
(.seq (.block 0
(.seq (.region [o_ (.mov (.loc 0)),o_ (.bin .eql (.reg 0) (i_ 32)),s_ 2 (.mov (.reg 1))])
(.cond (.loc 2)
(.seq (.region [s_ 1 (.mov (.cst (.str [115,112,97,99,101])))])
.ret)
(.seq (.region [o_ (.mov (.loc 0)),o_ (.bin .eql (.reg 0) (i_ 10)),s_ 3 (.mov (.reg 1))])
(.cond (.loc 3)
(.seq (.region [s_ 1 (.mov (.cst (.str [110,101,119,108,105,110,101])))])
.ret)
(.seq (.region [o_ (.mov (.loc 0)),o_ (.bin .eql (.reg 0) (i_ 9)),s_ 4 (.mov (.reg 1))])
(.cond (.loc 4)
(.seq (.region [s_ 1 (.mov (.cst (.str [116,97,98])))])
.ret)
(.seq (.region [o_ (.mov (.loc 0)),o_ (.bin .lss (.reg 0) (i_ 32)),o_ (.mov (.reg 1)),⟨.mov (.loc 0),none,(some (2,false))⟩,⟨.bin .eql (.reg 3) (i_ 127),none,(some (2,false))⟩,o_ (.pick (.reg 2) (.cst (.bool true)) (.reg 4)),s_ 5 (.mov (.reg 5))])
(.cond (.loc 5)
(.seq (.region [o_ (.mov (.loc 0)),o_ (.call true false 166 [(.reg 0),(i_ 16)]),o_ (.bin .add (.cst (.str [120])) (.reg 1)),s_ 1 (.mov (.reg 2))])
.ret)
.skip)))))))))
(.seq (.region [o_ (.mov (.loc 0)),o_ (.conv (.toInt .i32) (.reg 0)),o_ (.conv .intStr (.reg 1)),s_ 1 (.mov (.reg 2))])
.ret)))⟩
theorem c141 : compFunc Tryz.prog opts a141 Tryz.f141 = some t141 := by kernel_rfl
def a142 : Ann := { slots := [0,1,4,5,6],lb := [],mu := [],trunc := [],draws := [] }
def t142 : TFunc := ⟨2,5,[.loc 2,.loc 3],
(.seq (.region [s_ 2 (.mov (i_ 0)),s_ 3 (.mov (.cst .nili))])
(.seq (.region [o_ (.mov (.loc 0)),o_ (.prim 113 [(.reg 0)])])
(.seq (.region [o_ (.mov (.loc 0)),o_ (.nilCheck (.reg 0)),o_ (.fieldAddr 1 (.reg 1)),o_ (.load1 (.reg 2)),o_ (.len .sl (.reg 3)),s_ 4 (.mov (.reg 4))])
(.seq (.region [o_ (.mov (.loc 0)),o_ (.mov (.loc 0)),o_ (.nilCheck (.reg 1)),o_ (.fieldAddr 1 (.reg 2)),o_ (.load1 (.reg 3)),o_ (.mov (.loc 1)),o_ (.call false false 167 [(.reg 4),(.reg 5)]),o_ (.nilCheck (.reg 0)),o_ (.fieldAddr 1 (.reg 7)),o_ (.store 1 (.reg 8) (.reg 6))])
(.seq (.region [o_ (.mov (.loc 0)),o_ (.nilCheck (.reg 0)),o_ (.fieldAddr 1 (.reg 1)),o_ (.load1 (.reg 2)),o_ (.len .sl (.reg 3)),o_ (.mov (.loc 4)),o_ (.bin .sub (.reg 4) (.reg 5)),s_ 2 (.mov (.reg 6)),s_ 3 (.mov (.cst .nili))])
.ret)))))⟩
theorem c142 : compFunc Tryz.prog opts a142 Tryz.f142 = some t142 := by kernel_rfl
def a143 : Ann := { slots := [0,1,5,9,20,21,22],lb := [],mu := [],trunc := [],draws := [(6,⟨[0,1,3,0,8,31],[0,1,2,3],[(4,[],[]),(5,[],[])]⟩)] }
def t143L0 : TCode := (.seq (.region [s_ 5 (.nextS (.loc 4)),s_ 6 (.extract 0 (.reg 0))])
(.seq (.cond (.loc 6)
.skip
(.exit 0))
(.block 1
(.seq (.region [o_ (.extract 2 (.loc 5)),s_ 2 (.mov (.reg 0))])
(.draw [0,1,2,3] [(4,[],[]),(5,[],[])] [o_ (.mov (.loc 0)),o_ (.nilCheck (.reg 0)),o_ (.fieldAddr 0 (.reg 1)),o_ (.mov (.loc 2)),o_ (.call true false 168 [(.reg 3)]),o_ (.call false false 78 [(.reg 2),(.reg 4)])])))))
def t143 : TFunc := ⟨2,7,[],
(.seq (.seq (.region [o_ (.mov (.loc 0)),o_ (.nilCheck (.reg 0)),o_ (.fieldAddr 2 (.reg 1)),s_ 3 (.load1 (.reg 2))])
(.cond (.loc 3)
(.seq (.region [o_ (.mov (.loc 0)),o_ (.nilCheck (.reg 0)),o_ (.fieldAddr 0 (.reg 1)),o_ (.mov (.loc 1)),o_ (.call false false 78 [(.reg 2),(.reg 3)])])
.ret)
.skip))
(.seq (.region [o_ (.mov (.loc 0)),o_ (.nilCheck (.reg 0)),o_ (.fieldAddr 0 (.reg 1)),o_ (.call false false 145 [(.reg 2),(.cst (.int .u8 34))])])
(.seq (.seq (.region [o_ (.mov (.loc 1)),s_ 4 (.range true (.reg 0))])
(.block 0
(.loop t143L0)))
(.region [o_ (.mov (.loc 0)),o_ (.nilCheck (.reg 0)),o_ (.fieldAddr 0 (.reg 1)),o_ (.call false false 145 [(.reg 2),(.cst (.int .u8 34))])]))))⟩
theorem c143 : compFunc Tryz.prog opts a143 Tryz.f143 = some t143 := by kernel_rfl
def a144 : Ann := { slots := [0,1,4,5,6,7,8,9,14],lb := [5],mu := [],trunc := [],draws := [] }
def t144L0 : TCode := (.seq (.region [s_ 7 (.bin .lss (.loc 6) (.loc 5))])
(.seq (.cond (.loc 7)
.skip
(.exit 0))
(.seq (.block 1
(.seq (.region [o_ (.mov (.loc 6)),o_ (.indexAddrS 5 (.loc 4) (.loc 6)),o_ (.loadN 5 (.reg 1)),o_ (.allocL 3 [(.int .i64 0),(.int .i64 0),(.str []),(.sl .nil []),(.int .i64 0)]),s_ 2 (.mov (.reg 0)),o_ (.store 5 (.reg 3) (.reg 2))])
(.seq (.seq (.region [o_ (.mov (.loc 2)),s_ 8 (.bin .gtr (.reg 0) (i_ 0))])
(.cond (.loc 8)
(.region [o_ (.mov (.loc 0)),o_ (.nilCheck (.reg 0)),o_ (.fieldAddr 0 (.reg 1)),o_ (.call false false 145 [(.reg 2),(.cst (.int .u8 32))])])
.skip))
(.region [o_ (.mov (.loc 0)),o_ (.loadN 5 (.loc 3)),o_ (.call false false 114 [(.reg 0),(.reg 1)])]))))
(.region [o_ (.bin .add (.loc 6) (i_ 1)),s_ 6 (.mov (.reg 0))]))))
def t144 : TFunc := ⟨2,9,[],
(.seq (.region [s_ 4 (.mov (.loc 1)),s_ 5 (.len .sl (.reg 0)),s_ 6 (.mov (i_ 0))])
(.block 0
(.loop t144L0)))⟩
theorem c144 : compFunc Tryz.prog opts a144 Tryz.f144 = some t144 := by kernel_rfl
def a145 : Ann := { slots := [0,1,4],lb := [],mu := [],trunc := [],draws := [] }
def t145 : TFunc := ⟨2,3,[.loc 2],
(.seq (.region [s_ 2 (.mov (.cst .nili))])
(.seq (.region [o_ (.mov (.loc 0)),o_ (.prim 113 [(.reg 0)])])
(.seq (.region [o_ (.mov (.loc 0)),o_ (.mov (.loc 0)),o_ (.nilCheck (.reg 1)),o_ (.fieldAddr 1 (.reg 2)),o_ (.load1 (.reg 3)),o_ (.mov (.loc 1)),o_ (.lit false [(.int .u8 0)] 1 [(0,(.reg 5))]),o_ (.append false 1 1 5 (.reg 4) (.reg 6)),o_ (.nilCheck (.reg 0)),o_ (.fieldAddr 1 (.reg 8)),o_ (.store 1 (.reg 9) (.reg 7))])
(.seq (.region [s_ 2 (.mov (.cst .nili))])
.ret))))⟩
theorem c145 : compFunc Tryz.prog opts a145 Tryz.f145 = some t145 := by kernel_rfl
def a146 : Ann := { slots := [0,2,3,4,6,7,8],lb := [],mu := [],trunc := [],draws := [] }
def t146L0 : TCode := (.seq (.region [s_ 6 (.bin .lss (.loc 5) (.loc 4))])
(.seq (.cond (.loc 6)
.skip
(.exit 0))
(.seq (.block 1
(.seq (.region [o_ (.mov (.loc 5)),s_ 3 (.mov (.reg 0))])
(.region [o_ (.mov (.loc 2)),o_ (.mov (.loc 0)),o_ (.mov (.loc 3)),o_ (.indexS (.reg 1) (.reg 2)),o_ (.conv (.toInt .i64) (.reg 3)),o_ (.call true false 75 [(.reg 4)]),o_ (.build [(.int .i64 0),(.int .i64 0),(.str []),(.sl .nil []),(.int .i64 0)] [(0,1,(i_ 2)),(2,1,(.reg 5))]),o_ (.lit false [(.int .i64 0),(.int .i64 0),(.str []),(.sl .nil []),(.int .i64 0)] 1 [(0,(.reg 6))]),o_ (.append false 5 64 39 (.reg 0) (.reg 7)),s_ 2 (.mov (.reg 8))])))
(.region [o_ (.bin .add (.loc 5) (i_ 1)),s_ 5 (.mov (.reg 0))]))))
def t146 : TFunc := ⟨1,7,[.loc 1],
(.seq (.region [s_ 1 (.mov (.cst (.sl .nil [])))])
(.seq (.region [s_ 2 (.mov (.cst (.sl .nil [])))])
(.seq (.seq (.region [o_ (.mov (.loc 0)),s_ 4 (.len .str (.reg 0)),s_ 5 (.mov (i_ 0))])
(.block 0
(.loop t146L0)))
(.seq (.region [o_ (.mov (.loc 2)),s_ 1 (.mov (.reg 0))])
.ret))))⟩
theorem c146 : compFunc Tryz.prog opts a146 Tryz.f146 = some t146 := by kernel_rfl
def a147 : Ann := { slots := [0,1,3,4,5,20],lb := [5,3],mu := [],trunc := [],draws := [] }
def t147 : TFunc := ⟨2,6,[],
(.seq (.region [o_ (.boxL 2 (.loc 1))])
(.seq (.region [o_ (.loadN 5 (.loc 2)),o_ (.call false false 169 [(.reg 0)]),o_ (.mov (.reg 1)),o_ (.extract 0 (.reg 2)),o_ (.extract 1 (.reg 2)),o_ (.allocL 4 [(.int .i64 0),(.int .i64 0),(.str []),(.sl .nil []),(.int .i64 0)]),s_ 3 (.mov (.reg 3)),o_ (.store 5 (.reg 5) (.reg 4))])
(.seq (.region [o_ (.mov (.loc 0)),o_ (.nilCheck (.reg 0)),o_ (.fieldAddr 0 (.reg 1)),o_ (.call false false 145 [(.reg 2),(.cst (.int .u8 40))])])
(.seq (.region [o_ (.mov (.loc 0)),o_ (.mov (.loc 3)),o_ (.call false false 144 [(.reg 0),(.reg 1)])])
(.seq (.seq (.region [o_ (.fieldAddr 0 (.loc 4)),o_ (.load1 (.reg 0)),s_ 5 (.bin .neq (.reg 1) (i_ 0))])
(.cond (.loc 5)
(.seq (.region [o_ (.mov (.loc 0)),o_ (.nilCheck (.reg 0)),o_ (.fieldAddr 0 (.reg 1)),o_ (.call false false 78 [(.reg 2),(.cst (.str [32,46,32]))])])
(.region [o_ (.mov (.loc 0)),o_ (.loadN 5 (.loc 4)),o_ (.call false false 114 [(.reg 0),(.reg 1)])]))
.skip))
(.region [o_ (.mov (.loc 0)),o_ (.nilCheck (.reg 0)),o_ (.fieldAddr 0 (.reg 1)),o_ (.call false false 145 [(.reg 2),(.cst (.int .u8 41))])]))))))⟩
theorem c147 : compFunc Tryz.prog opts a147 Tryz.f147 = some t147 := by kernel_rfl
def a148 : Ann := { slots := [0,1,4],lb := [],mu := [],trunc := [],draws := [] }
def t148 : TFunc := ⟨2,3,[.loc 2],
(.seq (.region [s_ 2 (.mov (.cst (.str [])))])
(.seq (.region [o_ (.mov (.loc 0)),o_ (.mov (.loc 1)),o_ (.call true false 170 [(.reg 0),(.reg 1)]),s_ 2 (.mov (.reg 2))])
.ret))⟩
theorem c148 : compFunc Tryz.prog opts a148 Tryz.f148 = some t148 := by kernel_rfl
def a149 : Ann := { slots := [0,1,4],lb := [],mu := [],trunc := [],draws := [] }
def t149 : TFunc := ⟨2,3,[.loc 2],
(.seq (.region [s_ 2 (.mov (.cst (.bool false)))])
(.seq (.region [o_ (.mov (.loc 0)),o_ (.mov (.loc 1)),o_ (.call false false 171 [(.reg 0),(.reg 1)]),o_ (.bin .geq (.reg 2) (i_ 0)),s_ 2 (.mov (.reg 3))])
.ret))⟩
theorem c149 : compFunc Tryz.prog opts a149 Tryz.f149 = some t149 := by kernel_rfl
def a150 : Ann := { slots := [0,2],lb := [],mu := [],trunc := [],draws := [] }
def t150 : TFunc := ⟨1,2,[.loc 1],
(.seq (.region [s_ 1 (.mov (.cst (.bool false)))])
(.seq (.region [o_ (.mov (.loc 0)),o_ (.bin .lss (.reg 0) (.cst (.int .i32 48))),o_ (.mov (.reg 1)),⟨.mov (.loc 0),none,(some (2,false))⟩,⟨.bin .gtr (.reg 3) (.cst (.int .i32 57)),none,(some (2,false))⟩,o_ (.pick (.reg 2) (.cst (.bool true)) (.reg 4)),s_ 1 (.mov (.reg 5))])
.ret))⟩
theorem c150 : compFunc Tryz.prog opts a150 Tryz.f150 = some t150 := by kernel_rfl
def a151 : Ann := { slots := [0,2,3,10],lb := [],mu := [],trunc := [],draws := [] }
def t151 : TFunc := ⟨1,4,[.loc 1],
(.seq (.region [s_ 1 (.mov (.cst (.bool false)))])
(.seq (.block 0
(.seq (.region [o_ (.mov (.loc 0)),o_ (.bin .leq (.cst (.int .i32 0)) (.reg 0)),o_ (.mov (.reg 1)),⟨.mov (.loc 0),none,(some (2,true))⟩,⟨.bin .lss (.reg 3) (.cst (.int .i32 55296)),none,(some (2,true))⟩,o_ (.pick (.reg 2) (.reg 4) (.cst (.bool false))),s_ 2 (.mov (.reg 5))])
(.cond (.loc 2)
(.seq (.region [s_ 1 (.mov (.cst (.bool true)))])
.ret)
(.seq (.region [o_ (.mov (.loc 0)),o_ (.bin .lss (.cst (.int .i32 57343)) (.reg 0)),o_ (.mov (.reg 1)),⟨.mov (.loc 0),none,(some (2,true))⟩,⟨.bin .leq (.reg 3) (.cst (.int .i32 1114111)),none,(some (2,true))⟩,o_ (.pick (.reg 2) (.reg 4) (.cst (.bool false))),s_ 3 (.mov (.reg 5))])
(.cond (.loc 3)
(.seq (.region [s_ 1 (.mov (.cst (.bool true)))])
.ret)
.skip)))))
(.seq (.region [s_ 1 (.mov (.cst (.bool false)))])
.ret)))⟩
theorem c151 : compFunc Tryz.prog opts a151 Tryz.f151 = some t151 := by kernel_rfl
def a152 : Ann := { slots := [0,2,3,4,5,6,8,11,12,13,17,27],lb := [3],mu := [],trunc := [],draws := [] }
def t152L0 : TCode := (.seq (.region [s_ 8 (.nextS (.loc 7)),s_ 9 (.extract 0 (.reg 0))])
(.seq (.cond (.loc 9)
.skip
(.exit 0))
(.block 1
(.seq (.region [o_ (.extract 1 (.loc 8)),o_ (.extract 2 (.loc 8)),s_ 4 (.mov (.reg 0)),s_ 5 (.mov (.reg 1))])
(.seq (.seq (.region [o_ (.mov (.loc 5)),s_ 10 (.bin .eql (.reg 0) (.cst (.int .i32 65533)))])
(.cond (.loc 10)
(.seq (.region [o_ (.mov (.loc 0)),o_ (.mov (.loc 4)),o_ (.slice (.sl 1) (.reg 0) (some (.reg 1)) none none),o_ (.call true false 172 [(.reg 2)]),o_ (.mov (.reg 3)),o_ (.extract 0 (.reg 4)),o_ (.extract 1 (.reg 4)),o_ (.mov (.reg 5)),s_ 6 (.mov (.reg 6))])
(.seq (.region [o_ (.mov (.loc 5)),o_ (.mov (.loc 6)),s_ 11 (.call true false 173 [(.reg 0),(.reg 1)])])
(.cond (.loc 11)
(.seq (.region [o_ (.mov (.loc 4)),o_ (.build [(.int .i64 0),(.int .i64 0)] [(0,1,(i_ 4)),(1,1,(.reg 0))]),s_ 1 (.mov (.cst (.sl .nil []))),o_ (.store 2 (.loc 2) (.reg 1))])
.ret)
.skip)))
.skip))
(.region [o_ (.mov (.loc 3)),o_ (.mov (.loc 5)),o_ (.conv (.toInt .i64) (.reg 1)),o_ (.mov (.loc 4)),o_ (.build [(.int .i64 0),(.int .i64 0)] [(0,1,(.reg 2)),(1,1,(.reg 3))]),o_ (.lit false [(.int .i64 0),(.int .i64 0)] 1 [(0,(.reg 4))]),o_ (.append false 2 16 167 (.reg 0) (.reg 5)),s_ 3 (.mov (.reg 6))]))))))
def t152 : TFunc := ⟨1,12,[.loc 1,.cell 2 2 true],
(.seq (.region [s_ 1 (.mov (.cst (.sl .nil []))),o_ (.allocL 2 [(.int .i64 0),(.int .i64 0)])])
(.seq (.region [s_ 3 (.mov (.cst (.sl .nil [])))])
(.seq (.seq (.region [o_ (.mov (.loc 0)),o_ (.conv .bytesStr (.reg 0)),s_ 7 (.range true (.reg 1))])
(.block 0
(.loop t152L0)))
(.seq (.region [o_ (.mov (.loc 3)),o_ (.build [(.int .i64 0),(.int .i64 0)] []),s_ 1 (.mov (.reg 0)),o_ (.store 2 (.loc 2) (.reg 1))])
.ret))))⟩
theorem c152 : compFunc Tryz.prog opts a152 Tryz.f152 = some t152 := by kernel_rfl
def a153 : Ann := { slots := [0,1,4,5,7,8,9,16],lb := [],mu := [],trunc := [],draws := [] }
def t153L0 : TCode := (.seq (.region [s_ 6 (.bin .lss (.loc 5) (.loc 4))])
(.seq (.cond (.loc 6)
.skip
(.exit 0))
(.seq (.block 1
(.seq (.region [o_ (.mov (.loc 5)),s_ 3 (.mov (.reg 0))])
(.seq (.region [o_ (.mov (.loc 1)),o_ (.mov (.loc 0)),o_ (.mov (.loc 3)),o_ (.indexAddrS 1 (.reg 1) (.reg 2)),o_ (.load1 (.reg 3)),s_ 7 (.callv (.reg 0) [(.reg 4)])])
(.cond (.loc 7)
(.seq (.region [o_ (.mov (.loc 3)),s_ 2 (.mov (.reg 0))])
.ret)
.skip))))
(.region [o_ (.bin .add (.loc 5) (i_ 1)),s_ 5 (.mov (.reg 0))]))))
def t153 : TFunc := ⟨2,8,[.loc 2],
(.seq (.region [s_ 2 (.mov (i_ 0))])
(.seq (.seq (.region [o_ (.mov (.loc 0)),s_ 4 (.len .sl (.reg 0)),s_ 5 (.mov (i_ 0))])
(.block 0
(.loop t153L0)))
(.seq (.region [s_ 2 (.mov (i_ (-1)))])
.ret)))⟩
theorem c153 : compFunc Tryz.prog opts a153 Tryz.f153 = some t153 := by kernel_rfl
def a157 : Ann := { slots := [0,2,3,4,5,13,18,23,29],lb := [],mu := [],trunc := [],draws := [] }
def t157L0 : TCode := (.seq (.seq (.region [o_ (.mov (.loc 4)),o_ (.mov (.loc 0)),o_ (.len .sl (.reg 1)),s_ 8 (.bin .lss (.reg 0) (.reg 2))])
(.cond (.loc 8)
.skip
(.exit 0)))
(.seq (.block 1
(.region [o_ (.mov (.loc 3)),o_ (.bin .mul (i_ 64) (.reg 0)),o_ (.mov (.loc 0)),o_ (.mov (.loc 4)),o_ (.indexAddrS 1 (.reg 2) (.reg 3)),o_ (.load1 (.reg 4)),o_ (.conv (.toInt .i64) (.reg 5)),o_ (.bin .rem (.reg 6) (i_ 64)),o_ (.bin .add (.reg 1) (.reg 7)),s_ 3 (.mov (.reg 8))]))
(.region [o_ (.mov (.loc 4)),o_ (.bin .add (.reg 0) (i_ 1)),s_ 4 (.mov (.reg 1))])))
def t157 : TFunc := ⟨1,9,[.loc 1],
(.seq (.region [s_ 1 (.mov (i_ 0))])
(.seq (.region [o_ (.mov (.loc 0)),o_ (.indexAddrS 1 (.reg 0) (i_ 0)),o_ (.load1 (.reg 1)),o_ (.conv (.toInt .i64) (.reg 2)),s_ 2 (.mov (.reg 3))])
(.seq (.region [o_ (.mov (.loc 2)),s_ 3 (.mov (.reg 0))])
(.seq (.seq (.region [o_ (.mov (.loc 0)),o_ (.len .sl (.reg 0)),s_ 5 (.bin .eql (.reg 1) (i_ 2))])
(.cond (.loc 5)
(.region [o_ (.mov (.loc 2)),o_ (.bin .rem (.reg 0) (i_ 32)),s_ 3 (.mov (.reg 1))])
.skip))
(.seq (.seq (.region [o_ (.mov (.loc 0)),o_ (.len .sl (.reg 0)),s_ 6 (.bin .eql (.reg 1) (i_ 3))])
(.cond (.loc 6)
(.region [o_ (.mov (.loc 2)),o_ (.bin .rem (.reg 0) (i_ 16)),s_ 3 (.mov (.reg 1))])
.skip))
(.seq (.seq (.region [o_ (.mov (.loc 0)),o_ (.len .sl (.reg 0)),s_ 7 (.bin .eql (.reg 1) (i_ 4))])
(.cond (.loc 7)
(.region [o_ (.mov (.loc 2)),o_ (.bin .rem (.reg 0) (i_ 8)),s_ 3 (.mov (.reg 1))])
.skip))
(.seq (.seq (.region [s_ 4 (.mov (i_ 1))])
(.block 0
(.loop t157L0)))
(.seq (.region [o_ (.mov (.loc 3)),s_ 1 (.mov (.reg 0))])
.ret))))))))⟩
theorem c157 : compFunc Tryz.prog opts a157 Tryz.f157 = some t157 := by kernel_rfl
def a158 : Ann := { slots := [0,2,4,9,20],lb := [],mu := [],trunc := [],draws := [] }
def t158 : TFunc := ⟨1,5,[.loc 1],
(.seq (.region [s_ 1 (.mov (.cst (.sl .nil [])))])
(.seq (.seq (.region [o_ (.mov (.loc 0)),s_ 2 (.bin .lss (.reg 0) (i_ 128))])
(.cond (.loc 2)
(.seq (.region [o_ (.mov (.loc 0)),o_ (.conv (.toInt .u8) (.reg 0)),o_ (.lit false [(.int .u8 0)] 1 [(0,(.reg 1))]),s_ 1 (.mov (.reg 2))])
.ret)
.skip))
(.seq (.seq (.region [o_ (.mov (.loc 0)),s_ 3 (.bin .lss (.reg 0) (i_ 2048))])
(.cond (.loc 3)
(.seq (.region [o_ (.mov (.loc 0)),o_ (.bin .quo (.reg 0) (i_ 64)),o_ (.bin .add (i_ 192) (.reg 1)),o_ (.conv (.toInt .u8) (.reg 2)),o_ (.mov (.loc 0)),o_ (.bin .rem (.reg 4) (i_ 64)),o_ (.bin .add (i_ 128) (.reg 5)),o_ (.conv (.toInt .u8) (.reg 6)),o_ (.lit false [(.int .u8 0)] 2 [(0,(.reg 3)),(1,(.reg 7))]),s_ 1 (.mov (.reg 8))])
.ret)
.skip))
(.seq (.seq (.region [o_ (.mov (.loc 0)),s_ 4 (.bin .lss (.reg 0) (i_ 65536))])
(.cond (.loc 4)
(.seq (.region [o_ (.mov (.loc 0)),o_ (.bin .quo (.reg 0) (i_ 4096)),o_ (.bin .add (i_ 224) (.reg 1)),o_ (.conv (.toInt .u8) (.reg 2)),o_ (.mov (.loc 0)),o_ (.bin .quo (.reg 4) (i_ 64)),o_ (.bin .rem (.reg 5) (i_ 64)),o_ (.bin .add (i_ 128) (.reg 6)),o_ (.conv (.toInt .u8) (.reg 7)),o_ (.mov (.loc 0)),o_ (.bin .rem (.reg 9) (i_ 64)),o_ (.bin .add (i_ 128) (.reg 10)),o_ (.conv (.toInt .u8) (.reg 11)),o_ (.lit false [(.int .u8 0)] 3 [(0,(.reg 3)),(1,(.reg 8)),(2,(.reg 12))]),s_ 1 (.mov (.reg 13))])
.ret)
.skip))
(.seq (.region [o_ (.mov (.loc 0)),o_ (.bin .quo (.reg 0) (i_ 262144)),o_ (.bin .add (i_ 240) (.reg 1)),o_ (.conv (.toInt .u8) (.reg 2)),o_ (.mov (.loc 0)),o_ (.bin .quo (.reg 4) (i_ 4096)),o_ (.bin .rem (.reg 5) (i_ 64)),o_ (.bin .add (i_ 128) (.reg 6)),o_ (.conv (.toInt .u8) (.reg 7)),o_ (.mov (.loc 0)),o_ (.bin .quo (.reg 9) (i_ 64)),o_ (.bin .rem (.reg 10) (i_ 64)),o_ (.bin .add (i_ 128) (.reg 11)),o_ (.conv (.toInt .u8) (.reg 12)),o_ (.mov (.loc 0)),o_ (.bin .rem (.reg 14) (i_ 64)),o_ (.bin .add (i_ 128) (.reg 15)),o_ (.conv (.toInt .u8) (.reg 16)),o_ (.lit false [(.int .u8 0)] 4 [(0,(.reg 3)),(1,(.reg 8)),(2,(.reg 13)),(3,(.reg 17))]),s_ 1 (.mov (.reg 18))])
.ret)))))⟩
theorem c158 : compFunc Tryz.prog opts a158 Tryz.f158 = some t158 := by kernel_rfl
def a161 : Ann := { slots := [0,2,4],lb := [],mu := [],trunc := [],draws := [] }
def t161 : TFunc := ⟨1,3,[.loc 1],
(.seq (.region [s_ 1 (.mov (.cst (.str [])))])
(.seq (.seq (.region [o_ (.mov (.loc 0)),s_ 2 (.bin .lss (.reg 0) (i_ 10))])
(.cond (.loc 2)
(.seq (.region [o_ (.mov (.loc 0)),o_ (.mov (.loc 0)),o_ (.bin .add (.reg 1) (i_ 1)),o_ (.slice .str (.cst (.str [48,49,50,51,52,53,54,55,56,57,97,98,99,100,101,102,103,104,105,106,107,108,109,110,111,112,113,114,115,116,117,118,119,120,121,122])) (some (.reg 0)) (some (.reg 2)) none),s_ 1 (.mov (.reg 3))])
.ret)
.skip))
(.seq (.region [o_ (.mov (.loc 0)),o_ (.bin .mul (.reg 0) (i_ 2)),o_ (.mov (.loc 0)),o_ (.bin .mul (.reg 2) (i_ 2)),o_ (.bin .add (.reg 3) (i_ 2)),o_ (.slice .str (.cst (.str [48,48,48,49,48,50,48,51,48,52,48,53,48,54,48,55,48,56,48,57,49,48,49,49,49,50,49,51,49,52,49,53,49,54,49,55,49,56,49,57,50,48,50,49,50,50,50,51,50,52,50,53,50,54,50,55,50,56,50,57,51,48,51,49,51,50,51,51,51,52,51,53,51,54,51,55,51,56,51,57,52,48,52,49,52,50,52,51,52,52,52,53,52,54,52,55,52,56,52,57,53,48,53,49,53,50,53,51,53,52,53,53,53,54,53,55,53,56,53,57,54,48,54,49,54,50,54,51,54,52,54,53,54,54,54,55,54,56,54,57,55,48,55,49,55,50,55,51,55,52,55,53,55,54,55,55,55,56,55,57,56,48,56,49,56,50,56,51,56,52,56,53,56,54,56,55,56,56,56,57,57,48,57,49,57,50,57,51,57,52,57,53,57,54,57,55,57,56,57,57])) (some (.reg 1)) (some (.reg 4)) none),s_ 1 (.mov (.reg 5))])
.ret)))⟩
theorem c161 : compFunc Tryz.prog opts a161 Tryz.f161 = some t161 := by kernel_rfl
def a162 : Ann := { slots := [0,2,3],lb := [],mu := [],trunc := [],draws := [] }
def t162 : TFunc := ⟨1,3,[.loc 1],
(.seq (.region [s_ 1 (.mov (i_ 0))])
(.seq (.region [o_ (.mov (.loc 0)),o_ (.call true false 184 [(.reg 0)]),o_ (.call true false 185 [(.reg 1)]),s_ 2 (.mov (.reg 2))])
(.seq (.region [o_ (.mov (.loc 2)),o_ (.mov (.loc 0)),o_ (.mov (.loc 2)),o_ (.indexAddrA 20 1 (.glob 0) (.reg 2)),o_ (.load1 (.reg 3)),o_ (.bin .geq (.reg 1) (.reg 4)),o_ (.call true false 186 [(.reg 5)]),o_ (.bin .add (.reg 0) (.reg 6)),s_ 1 (.mov (.reg 7))])
.ret)))⟩
theorem c162 : compFunc Tryz.prog opts a162 Tryz.f162 = some t162 := by kernel_rfl
def a163 : Ann := { slots := [0,1,4,5,6,7,8,9,10,11,12,13,14,15,16,20,99,139,161],lb := [],mu := [],trunc := [],draws := [(7,⟨[0,0,2,0,0,16,0,64,192,0,512,455,2503,8191,16383],[0,1,2,3,4,5,6,7,8,9,10,11],[(12,[],[13]),(14,[],[])]⟩),(8,⟨[0,0,2,0,0,16,0,64,192,0,512,455,2503,8191,16383],[0,1,2,3,4,5,6,7,8,9,10,11],[(12,[],[13]),(14,[],[])]⟩),(9,⟨[0,0,2,0,0,16,0,64,192,0,512,455,2503,8191,16383],[0,1,2,3,4,5,6,7,8,9,10,11],[(12,[],[13]),(14,[],[])]⟩),(10,⟨[0,0,2,0,0,16,0,64,192,0,512,455,2503,8191,16383],[0,1,2,3,4,5,6,7,8,9,10,11],[(12,[],[13]),(14,[],[])]⟩),(17,⟨[0,0,2,0,0,16,0,64,192,0,512,455,2503,8191,16383],[0,1,2,3,4,5,6,7,8,9,10,11],[(12,[],[13]),(14,[],[])]⟩),(18,⟨[0,0,2,0,0,16,0,64,192,0,512,455,2503,8191,16383],[0,1,2,3,4,5,6,7,8,9,10,11],[(12,[],[13]),(14,[],[])]⟩),(23,⟨[0,0,2,0,0,16,0,64,192,0,512,455,2503,8191,16383],[0,1,2,3,4,5,6,7,8,9,10,11],[(12,[],[13]),(14,[],[])]⟩)] }
def t163L0 : TCode := (.seq (.seq (.region [o_ (.mov (.loc 2)),s_ 15 (.bin .geq (.reg 0) (i_ 8))])
(.cond (.loc 15)
.skip
(.exit 0)))
(.block 1
(.seq (.region [o_ (.mov (.loc 1)),o_ (.bin .rem (.reg 0) (.cst (.int .u64 100000000))),o_ (.conv (.toInt .u32) (.reg 1)),s_ 3 (.mov (.reg 2))])
(.seq (.region [o_ (.mov (.loc 1)),o_ (.bin .quo (.reg 0) (.cst (.int .u64 100000000))),s_ 1 (.mov (.reg 1))])
(.seq (.region [o_ (.mov (.loc 3)),o_ (.bin .quo (.reg 0) (.cst (.int .u32 10000))),o_ (.mov (.loc 3)),o_ (.bin .rem (.reg 2) (.cst (.int .u32 10000))),s_ 4 (.mov (.reg 1)),s_ 5 (.mov (.reg 3))])
(.seq (.region [o_ (.mov (.loc 5)),o_ (.bin .quo (.reg 0) (.cst (.int .u32 100))),o_ (.bin .mul (.reg 1) (.cst (.int .u32 2))),o_ (.mov (.loc 5)),o_ (.bin .rem (.reg 3) (.cst (.int .u32 100))),o_ (.bin .mul (.reg 4) (.cst (.int .u32 2))),s_ 6 (.mov (.reg 2)),s_ 7 (.mov (.reg 5))])
(.seq (.region [o_ (.mov (.loc 4)),o_ (.bin .quo (.reg 0) (.cst (.int .u32 100))),o_ (.bin .mul (.reg 1) (.cst (.int .u32 2))),o_ (.mov (.loc 4)),o_ (.bin .rem (.reg 3) (.cst (.int .u32 100))),o_ (.bin .mul (.reg 4) (.cst (.int .u32 2))),s_ 8 (.mov (.reg 2)),s_ 9 (.mov (.reg 5))])
(.seq (.draw [0,1,2,3,4,5,6,7,8,9,10,11] [(12,[],[13]),(14,[],[])] [o_ (.mov (.loc 0)),o_ (.mov (.loc 2)),o_ (.bin .sub (.reg 1) (i_ 1)),o_ (.mov (.loc 0)),o_ (.mov (.loc 2)),o_ (.bin .sub (.reg 4) (i_ 2)),o_ (.mov (.loc 7)),o_ (.bin .add (.reg 6) (.cst (.int .u32 1))),o_ (.indexS (.cst (.str [48,48,48,49,48,50,48,51,48,52,48,53,48,54,48,55,48,56,48,57,49,48,49,49,49,50,49,51,49,52,49,53,49,54,49,55,49,56,49,57,50,48,50,49,50,50,50,51,50,52,50,53,50,54,50,55,50,56,50,57,51,48,51,49,51,50,51,51,51,52,51,53,51,54,51,55,51,56,51,57,52,48,52,49,52,50,52,51,52,52,52,53,52,54,52,55,52,56,52,57,53,48,53,49,53,50,53,51,53,52,53,53,53,54,53,55,53,56,53,57,54,48,54,49,54,50,54,51,54,52,54,53,54,54,54,55,54,56,54,57,55,48,55,49,55,50,55,51,55,52,55,53,55,54,55,55,55,56,55,57,56,48,56,49,56,50,56,51,56,52,56,53,56,54,56,55,56,56,56,57,57,48,57,49,57,50,57,51,57,52,57,53,57,54,57,55,57,56,57,57])) (.reg 7)),o_ (.mov (.loc 7)),o_ (.indexS (.cst (.str [48,48,48,49,48,50,48,51,48,52,48,53,48,54,48,55,48,56,48,57,49,48,49,49,49,50,49,51,49,52,49,53,49,54,49,55,49,56,49,57,50,48,50,49,50,50,50,51,50,52,50,53,50,54,50,55,50,56,50,57,51,48,51,49,51,50,51,51,51,52,51,53,51,54,51,55,51,56,51,57,52,48,52,49,52,50,52,51,52,52,52,53,52,54,52,55,52,56,52,57,53,48,53,49,53,50,53,51,53,52,53,53,53,54,53,55,53,56,53,57,54,48,54,49,54,50,54,51,54,52,54,53,54,54,54,55,54,56,54,57,55,48,55,49,55,50,55,51,55,52,55,53,55,54,55,55,55,56,55,57,56,48,56,49,56,50,56,51,56,52,56,53,56,54,56,55,56,56,56,57,57,48,57,49,57,50,57,51,57,52,57,53,57,54,57,55,57,56,57,57])) (.reg 9)),o_ (.indexAddrS 1 (.reg 0) (.reg 2)),o_ (.store 1 (.reg 11) (.reg 8)),o_ (.indexAddrS 1 (.reg 3) (.reg 5)),o_ (.store 1 (.reg 13) (.reg 10))])
(.seq (.draw [0,1,2,3,4,5,6,7,8,9,10,11] [(12,[],[13]),(14,[],[])] [o_ (.mov (.loc 0)),o_ (.mov (.loc 2)),o_ (.bin .sub (.reg 1) (i_ 3)),o_ (.mov (.loc 0)),o_ (.mov (.loc 2)),o_ (.bin .sub (.reg 4) (i_ 4)),o_ (.mov (.loc 6)),o_ (.bin .add (.reg 6) (.cst (.int .u32 1))),o_ (.indexS (.cst (.str [48,48,48,49,48,50,48,51,48,52,48,53,48,54,48,55,48,56,48,57,49,48,49,49,49,50,49,51,49,52,49,53,49,54,49,55,49,56,49,57,50,48,50,49,50,50,50,51,50,52,50,53,50,54,50,55,50,56,50,57,51,48,51,49,51,50,51,51,51,52,51,53,51,54,51,55,51,56,51,57,52,48,52,49,52,50,52,51,52,52,52,53,52,54,52,55,52,56,52,57,53,48,53,49,53,50,53,51,53,52,53,53,53,54,53,55,53,56,53,57,54,48,54,49,54,50,54,51,54,52,54,53,54,54,54,55,54,56,54,57,55,48,55,49,55,50,55,51,55,52,55,53,55,54,55,55,55,56,55,57,56,48,56,49,56,50,56,51,56,52,56,53,56,54,56,55,56,56,56,57,57,48,57,49,57,50,57,51,57,52,57,53,57,54,57,55,57,56,57,57])) (.reg 7)),o_ (.mov (.loc 6)),o_ (.indexS (.cst (.str [48,48,48,49,48,50,48,51,48,52,48,53,48,54,48,55,48,56,48,57,49,48,49,49,49,50,49,51,49,52,49,53,49,54,49,55,49,56,49,57,50,48,50,49,50,50,50,51,50,52,50,53,50,54,50,55,50,56,50,57,51,48,51,49,51,50,51,51,51,52,51,53,51,54,51,55,51,56,51,57,52,48,52,49,52,50,52,51,52,52,52,53,52,54,52,55,52,56,52,57,53,48,53,49,53,50,53,51,53,52,53,53,53,54,53,55,53,56,53,57,54,48,54,49,54,50,54,51,54,52,54,53,54,54,54,55,54,56,54,57,55,48,55,49,55,50,55,51,55,52,55,53,55,54,55,55,55,56,55,57,56,48,56,49,56,50,56,51,56,52,56,53,56,54,56,55,56,56,56,57,57,48,57,49,57,50,57,51,57,52,57,53,57,54,57,55,57,56,57,57])) (.reg 9)),o_ (.indexAddrS 1 (.reg 0) (.reg 2)),o_ (.store 1 (.reg 11) (.reg 8)),o_ (.indexAddrS 1 (.reg 3) (.reg 5)),o_ (.store 1 (.reg 13) (.reg 10))])
(.seq (.draw [0,1,2,3,4,5,6,7,8,9,10,11] [(12,[],[13]),(14,[],[])] [o_ (.mov (.loc 0)),o_ (.mov (.loc 2)),o_ (.bin .sub (.reg 1) (i_ 5)),o_ (.mov (.loc 0)),o_ (.mov (.loc 2)),o_ (.bin .sub (.reg 4) (i_ 6)),o_ (.mov (.loc 9)),o_ (.bin .add (.reg 6) (.cst (.int .u32 1))),o_ (.indexS (.cst (.str [48,48,48,49,48,50,48,51,48,52,48,53,48,54,48,55,48,56,48,57,49,48,49,49,49,50,49,51,49,52,49,53,49,54,49,55,49,56,49,57,50,48,50,49,50,50,50,51,50,52,50,53,50,54,50,55,50,56,50,57,51,48,51,49,51,50,51,51,51,52,51,53,51,54,51,55,51,56,51,57,52,48,52,49,52,50,52,51,52,52,52,53,52,54,52,55,52,56,52,57,53,48,53,49,53,50,53,51,53,52,53,53,53,54,53,55,53,56,53,57,54,48,54,49,54,50,54,51,54,52,54,53,54,54,54,55,54,56,54,57,55,48,55,49,55,50,55,51,55,52,55,53,55,54,55,55,55,56,55,57,56,48,56,49,56,50,56,51,56,52,56,53,56,54,56,55,56,56,56,57,57,48,57,49,57,50,57,51,57,52,57,53,57,54,57,55,57,56,57,57])) (.reg 7)),o_ (.mov (.loc 9)),o_ (.indexS (.cst (.str [48,48,48,49,48,50,48,51,48,52,48,53,48,54,48,55,48,56,48,57,49,48,49,49,49,50,49,51,49,52,49,53,49,54,49,55,49,56,49,57,50,48,50,49,50,50,50,51,50,52,50,53,50,54,50,55,50,56,50,57,51,48,51,49,51,50,51,51,51,52,51,53,51,54,51,55,51,56,51,57,52,48,52,49,52,50,52,51,52,52,52,53,52,54,52,55,52,56,52,57,53,48,53,49,53,50,53,51,53,52,53,53,53,54,53,55,53,56,53,57,54,48,54,49,54,50,54,51,54,52,54,53,54,54,54,55,54,56,54,57,55,48,55,49,55,50,55,51,55,52,55,53,55,54,55,55,55,56,55,57,56,48,56,49,56,50,56,51,56,52,56,53,56,54,56,55,56,56,56,57,57,48,57,49,57,50,57,51,57,52,57,53,57,54,57,55,57,56,57,57])) (.reg 9)),o_ (.indexAddrS 1 (.reg 0) (.reg 2)),o_ (.store 1 (.reg 11) (.reg 8)),o_ (.indexAddrS 1 (.reg 3) (.reg 5)),o_ (.store 1 (.reg 13) (.reg 10))])
(.seq (.draw [0,1,2,3,4,5,6,7,8,9,10,11] [(12,[],[13]),(14,[],[])] [o_ (.mov (.loc 0)),o_ (.mov (.loc 2)),o_ (.bin .sub (.reg 1) (i_ 7)),o_ (.mov (.loc 0)),o_ (.mov (.loc 2)),o_ (.bin .sub (.reg 4) (i_ 8)),o_ (.mov (.loc 8)),o_ (.bin .add (.reg 6) (.cst (.int .u32 1))),o_ (.indexS (.cst (.str [48,48,48,49,48,50,48,51,48,52,48,53,48,54,48,55,48,56,48,57,49,48,49,49,49,50,49,51,49,52,49,53,49,54,49,55,49,56,49,57,50,48,50,49,50,50,50,51,50,52,50,53,50,54,50,55,50,56,50,57,51,48,51,49,51,50,51,51,51,52,51,53,51,54,51,55,51,56,51,57,52,48,52,49,52,50,52,51,52,52,52,53,52,54,52,55,52,56,52,57,53,48,53,49,53,50,53,51,53,52,53,53,53,54,53,55,53,56,53,57,54,48,54,49,54,50,54,51,54,52,54,53,54,54,54,55,54,56,54,57,55,48,55,49,55,50,55,51,55,52,55,53,55,54,55,55,55,56,55,57,56,48,56,49,56,50,56,51,56,52,56,53,56,54,56,55,56,56,56,57,57,48,57,49,57,50,57,51,57,52,57,53,57,54,57,55,57,56,57,57])) (.reg 7)),o_ (.mov (.loc 8)),o_ (.indexS (.cst (.str [48,48,48,49,48,50,48,51,48,52,48,53,48,54,48,55,48,56,48,57,49,48,49,49,49,50,49,51,49,52,49,53,49,54,49,55,49,56,49,57,50,48,50,49,50,50,50,51,50,52,50,53,50,54,50,55,50,56,50,57,51,48,51,49,51,50,51,51,51,52,51,53,51,54,51,55,51,56,51,57,52,48,52,49,52,50,52,51,52,52,52,53,52,54,52,55,52,56,52,57,53,48,53,49,53,50,53,51,53,52,53,53,53,54,53,55,53,56,53,57,54,48,54,49,54,50,54,51,54,52,54,53,54,54,54,55,54,56,54,57,55,48,55,49,55,50,55,51,55,52,55,53,55,54,55,55,55,56,55,57,56,48,56,49,56,50,56,51,56,52,56,53,56,54,56,55,56,56,56,57,57,48,57,49,57,50,57,51,57,52,57,53,57,54,57,55,57,56,57,57])) (.reg 9)),o_ (.indexAddrS 1 (.reg 0) (.reg 2)),o_ (.store 1 (.reg 11) (.reg 8)),o_ (.indexAddrS 1 (.reg 3) (.reg 5)),o_ (.store 1 (.reg 13) (.reg 10))])
(.region [o_ (.mov (.loc 2)),o_ (.bin .sub (.reg 0) (i_ 8)),s_ 2 (.mov (.reg 1))]))))))))))))
def t163 : TFunc := ⟨2,19,[],
(.seq (.region [o_ (.mov (.loc 0)),o_ (.len .sl (.reg 0)),s_ 2 (.mov (.reg 1))])
(.seq (.block 0
(.loop t163L0))
(.seq (.region [o_ (.mov (.loc 1)),o_ (.conv (.toInt .u32) (.reg 0)),s_ 10 (.mov (.reg 1))])
(.seq (.seq (.region [o_ (.mov (.loc 2)),s_ 16 (.bin .geq (.reg 0) (i_ 4))])
(.cond (.loc 16)
(.seq (.region [o_ (.mov (.loc 10)),o_ (.bin .rem (.reg 0) (.cst (.int .u32 10000))),s_ 11 (.mov (.reg 1))])
(.seq (.region [o_ (.mov (.loc 10)),o_ (.bin .quo (.reg 0) (.cst (.int .u32 10000))),s_ 10 (.mov (.reg 1))])
(.seq (.region [o_ (.mov (.loc 11)),o_ (.bin .quo (.reg 0) (.cst (.int .u32 100))),o_ (.bin .mul (.reg 1) (.cst (.int .u32 2))),o_ (.mov (.loc 11)),o_ (.bin .rem (.reg 3) (.cst (.int .u32 100))),o_ (.bin .mul (.reg 4) (.cst (.int .u32 2))),s_ 12 (.mov (.reg 2)),s_ 13 (.mov (.reg 5))])
(.seq (.draw [0,1,2,3,4,5,6,7,8,9,10,11] [(12,[],[13]),(14,[],[])] [o_ (.mov (.loc 0)),o_ (.mov (.loc 2)),o_ (.bin .sub (.reg 1) (i_ 1)),o_ (.mov (.loc 0)),o_ (.mov (.loc 2)),o_ (.bin .sub (.reg 4) (i_ 2)),o_ (.mov (.loc 13)),o_ (.bin .add (.reg 6) (.cst (.int .u32 1))),o_ (.indexS (.cst (.str [48,48,48,49,48,50,48,51,48,52,48,53,48,54,48,55,48,56,48,57,49,48,49,49,49,50,49,51,49,52,49,53,49,54,49,55,49,56,49,57,50,48,50,49,50,50,50,51,50,52,50,53,50,54,50,55,50,56,50,57,51,48,51,49,51,50,51,51,51,52,51,53,51,54,51,55,51,56,51,57,52,48,52,49,52,50,52,51,52,52,52,53,52,54,52,55,52,56,52,57,53,48,53,49,53,50,53,51,53,52,53,53,53,54,53,55,53,56,53,57,54,48,54,49,54,50,54,51,54,52,54,53,54,54,54,55,54,56,54,57,55,48,55,49,55,50,55,51,55,52,55,53,55,54,55,55,55,56,55,57,56,48,56,49,56,50,56,51,56,52,56,53,56,54,56,55,56,56,56,57,57,48,57,49,57,50,57,51,57,52,57,53,57,54,57,55,57,56,57,57])) (.reg 7)),o_ (.mov (.loc 13)),o_ (.indexS (.cst (.str [48,48,48,49,48,50,48,51,48,52,48,53,48,54,48,55,48,56,48,57,49,48,49,49,49,50,49,51,49,52,49,53,49,54,49,55,49,56,49,57,50,48,50,49,50,50,50,51,50,52,50,53,50,54,50,55,50,56,50,57,51,48,51,49,51,50,51,51,51,52,51,53,51,54,51,55,51,56,51,57,52,48,52,49,52,50,52,51,52,52,52,53,52,54,52,55,52,56,52,57,53,48,53,49,53,50,53,51,53,52,53,53,53,54,53,55,53,56,53,57,54,48,54,49,54,50,54,51,54,52,54,53,54,54,54,55,54,56,54,57,55,48,55,49,55,50,55,51,55,52,55,53,55,54,55,55,55,56,55,57,56,48,56,49,56,50,56,51,56,52,56,53,56,54,56,55,56,56,56,57,57,48,57,49,57,50,57,51,57,52,57,53,57,54,57,55,57,56,57,57])) (.reg 9)),o_ (.indexAddrS 1 (.reg 0) (.reg 2)),o_ (.store 1 (.reg 11) (.reg 8)),o_ (.indexAddrS 1 (.reg 3) (.reg 5)),o_ (.store 1 (.reg 13) (.reg 10))])
(.seq (.draw [0,1,2,3,4,5,6,7,8,9,10,11] [(12,[],[13]),(14,[],[])] [o_ (.mov (.loc 0)),o_ (.mov (.loc 2)),o_ (.bin .sub (.reg 1) (i_ 3)),o_ (.mov (.loc 0)),o_ (.mov (.loc 2)),o_ (.bin .sub (.reg 4) (i_ 4)),o_ (.mov (.loc 12)),o_ (.bin .add (.reg 6) (.cst (.int .u32 1))),o_ (.indexS (.cst (.str [48,48,48,49,48,50,48,51,48,52,48,53,48,54,48,55,48,56,48,57,49,48,49,49,49,50,49,51,49,52,49,53,49,54,49,55,49,56,49,57,50,48,50,49,50,50,50,51,50,52,50,53,50,54,50,55,50,56,50,57,51,48,51,49,51,50,51,51,51,52,51,53,51,54,51,55,51,56,51,57,52,48,52,49,52,50,52,51,52,52,52,53,52,54,52,55,52,56,52,57,53,48,53,49,53,50,53,51,53,52,53,53,53,54,53,55,53,56,53,57,54,48,54,49,54,50,54,51,54,52,54,53,54,54,54,55,54,56,54,57,55,48,55,49,55,50,55,51,55,52,55,53,55,54,55,55,55,56,55,57,56,48,56,49,56,50,56,51,56,52,56,53,56,54,56,55,56,56,56,57,57,48,57,49,57,50,57,51,57,52,57,53,57,54,57,55,57,56,57,57])) (.reg 7)),o_ (.mov (.loc 12)),o_ (.indexS (.cst (.str [48,48,48,49,48,50,48,51,48,52,48,53,48,54,48,55,48,56,48,57,49,48,49,49,49,50,49,51,49,52,49,53,49,54,49,55,49,56,49,57,50,48,50,49,50,50,50,51,50,52,50,53,50,54,50,55,50,56,50,57,51,48,51,49,51,50,51,51,51,52,51,53,51,54,51,55,51,56,51,57,52,48,52,49,52,50,52,51,52,52,52,53,52,54,52,55,52,56,52,57,53,48,53,49,53,50,53,51,53,52,53,53,53,54,53,55,53,56,53,57,54,48,54,49,54,50,54,51,54,52,54,53,54,54,54,55,54,56,54,57,55,48,55,49,55,50,55,51,55,52,55,53,55,54,55,55,55,56,55,57,56,48,56,49,56,50,56,51,56,52,56,53,56,54,56,55,56,56,56,57,57,48,57,49,57,50,57,51,57,52,57,53,57,54,57,55,57,56,57,57])) (.reg 9)),o_ (.indexAddrS 1 (.reg 0) (.reg 2)),o_ (.store 1 (.reg 11) (.reg 8)),o_ (.indexAddrS 1 (.reg 3) (.reg 5)),o_ (.store 1 (.reg 13) (.reg 10))])
(.region [o_ (.mov (.loc 2)),o_ (.bin .sub (.reg 0) (i_ 4)),s_ 2 (.mov (.reg 1))]))))))
.skip))
(.seq (.seq (.region [o_ (.mov (.loc 2)),s_ 17 (.bin .geq (.reg 0) (i_ 2))])
(.cond (.loc 17)
(.seq (.region [o_ (.mov (.loc 10)),o_ (.bin .rem (.reg 0) (.cst (.int .u32 100))),o_ (.bin .mul (.reg 1) (.cst (.int .u32 2))),s_ 14 (.mov (.reg 2))])
(.seq (.region [o_ (.mov (.loc 10)),o_ (.bin .quo (.reg 0) (.cst (.int .u32 100))),s_ 10 (.mov (.reg 1))])
(.seq (.draw [0,1,2,3,4,5,6,7,8,9,10,11] [(12,[],[13]),(14,[],[])] [o_ (.mov (.loc 0)),o_ (.mov (.loc 2)),o_ (.bin .sub (.reg 1) (i_ 1)),o_ (.mov (.loc 0)),o_ (.mov (.loc 2)),o_ (.bin .sub (.reg 4) (i_ 2)),o_ (.mov (.loc 14)),o_ (.bin .add (.reg 6) (.cst (.int .u32 1))),o_ (.indexS (.cst (.str [48,48,48,49,48,50,48,51,48,52,48,53,48,54,48,55,48,56,48,57,49,48,49,49,49,50,49,51,49,52,49,53,49,54,49,55,49,56,49,57,50,48,50,49,50,50,50,51,50,52,50,53,50,54,50,55,50,56,50,57,51,48,51,49,51,50,51,51,51,52,51,53,51,54,51,55,51,56,51,57,52,48,52,49,52,50,52,51,52,52,52,53,52,54,52,55,52,56,52,57,53,48,53,49,53,50,53,51,53,52,53,53,53,54,53,55,53,56,53,57,54,48,54,49,54,50,54,51,54,52,54,53,54,54,54,55,54,56,54,57,55,48,55,49,55,50,55,51,55,52,55,53,55,54,55,55,55,56,55,57,56,48,56,49,56,50,56,51,56,52,56,53,56,54,56,55,56,56,56,57,57,48,57,49,57,50,57,51,57,52,57,53,57,54,57,55,57,56,57,57])) (.reg 7)),o_ (.mov (.loc 14)),o_ (.indexS (.cst (.str [48,48,48,49,48,50,48,51,48,52,48,53,48,54,48,55,48,56,48,57,49,48,49,49,49,50,49,51,49,52,49,53,49,54,49,55,49,56,49,57,50,48,50,49,50,50,50,51,50,52,50,53,50,54,50,55,50,56,50,57,51,48,51,49,51,50,51,51,51,52,51,53,51,54,51,55,51,56,51,57,52,48,52,49,52,50,52,51,52,52,52,53,52,54,52,55,52,56,52,57,53,48,53,49,53,50,53,51,53,52,53,53,53,54,53,55,53,56,53,57,54,48,54,49,54,50,54,51,54,52,54,53,54,54,54,55,54,56,54,57,55,48,55,49,55,50,55,51,55,52,55,53,55,54,55,55,55,56,55,57,56,48,56,49,56,50,56,51,56,52,56,53,56,54,56,55,56,56,56,57,57,48,57,49,57,50,57,51,57,52,57,53,57,54,57,55,57,56,57,57])) (.reg 9)),o_ (.indexAddrS 1 (.reg 0) (.reg 2)),o_ (.store 1 (.reg 11) (.reg 8)),o_ (.indexAddrS 1 (.reg 3) (.reg 5)),o_ (.store 1 (.reg 13) (.reg 10))])
(.region [o_ (.mov (.loc 2)),o_ (.bin .sub (.reg 0) (i_ 2)),s_ 2 (.mov (.reg 1))]))))
.skip))
(.seq (.region [o_ (.mov (.loc 2)),s_ 18 (.bin .gtr (.reg 0) (i_ 0))])
(.cond (.loc 18)
(.region [o_ (.mov (.loc 0)),o_ (.mov (.loc 10)),o_ (.bin .add (.cst (.int .u32 48)) (.reg 1)),o_ (.conv (.toInt .u8) (.reg 2)),o_ (.indexAddrS 1 (.reg 0) (i_ 0)),o_ (.store 1 (.reg 4) (.reg 3))])
.skip)))))))⟩
theorem c163 : compFunc Tryz.prog opts a163 Tryz.f163 = some t163 := by kernel_rfl
def a164 : Ann := { slots := [0,1,2,3,4,10,11,12,13,14,15,16,17,18,28,30,34,46,68,89,94],lb := [],mu := [],trunc := [],draws := [] }
def t164L0 : TCode := (.seq (.seq (.region [o_ (.mov (.loc 1)),o_ (.mov (.loc 12)),s_ 18 (.bin .geq (.reg 0) (.reg 1))])
(.cond (.loc 18)
.skip
(.exit 2)))
(.block 3
(.seq (.region [o_ (.mov (.loc 8)),o_ (.bin .sub (.reg 0) (i_ 1)),s_ 8 (.mov (.reg 1))])
(.seq (.region [o_ (.mov (.loc 1)),o_ (.mov (.loc 12)),o_ (.bin .quo (.reg 0) (.reg 1)),s_ 13 (.mov (.reg 2))])
(.seq (.region [o_ (.mov (.loc 8)),o_ (.mov (.loc 1)),o_ (.mov (.loc 13)),o_ (.mov (.loc 12)),o_ (.bin .mul (.reg 2) (.reg 3)),o_ (.bin .sub (.reg 1) (.reg 4)),o_ (.indexS (.cst (.str [48,49,50,51,52,53,54,55,56,57,97,98,99,100,101,102,103,104,105,106,107,108,109,110,111,112,113,114,115,116,117,118,119,120,121,122])) (.reg 5)),o_ (.indexAddrA 65 1 (.loc 7) (.reg 0)),o_ (.store 1 (.reg 7) (.reg 6))])
(.region [o_ (.mov (.loc 13)),s_ 1 (.mov (.reg 0))]))))))
def t164L1 : TCode := (.seq (.seq (.region [o_ (.mov (.loc 1)),o_ (.mov (.loc 10)),s_ 17 (.bin .geq (.reg 0) (.reg 1))])
(.cond (.loc 17)
.skip
(.exit 0)))
(.block 1
(.seq (.region [o_ (.mov (.loc 8)),o_ (.bin .sub (.reg 0) (i_ 1)),s_ 8 (.mov (.reg 1))])
(.seq (.region [o_ (.mov (.loc 8)),o_ (.mov (.loc 1)),o_ (.mov (.loc 11)),o_ (.bin .and (.reg 1) (.reg 2)),o_ (.indexS (.cst (.str [48,49,50,51,52,53,54,55,56,57,97,98,99,100,101,102,103,104,105,106,107,108,109,110,111,112,113,114,115,116,117,118,119,120,121,122])) (.reg 3)),o_ (.indexAddrA 65 1 (.loc 7) (.reg 0)),o_ (.store 1 (.reg 5) (.reg 4))])
(.region [o_ (.mov (.loc 1)),o_ (.mov (.loc 9)),o_ (.bin .shr (.reg 0) (.reg 1)),s_ 1 (.mov (.reg 2))])))))
def t164 : TFunc := ⟨5,21,[.loc 5,.loc 6],
(.seq (.region [s_ 5 (.mov (.cst (.sl .nil []))),s_ 6 (.mov (.cst (.str [])))])
(.seq (.seq (.region [o_ (.mov (.loc 2)),o_ (.bin .lss (.reg 0) (i_ 2)),o_ (.mov (.reg 1)),⟨.mov (.loc 2),none,(some (2,false))⟩,⟨.bin .eql (.reg 3) (i_ 10),none,(some (2,false))⟩,o_ (.pick (.reg 2) (.cst (.bool true)) (.reg 4)),o_ (.mov (.reg 5)),⟨.mov (.loc 2),none,(some (6,false))⟩,⟨.bin .gtr (.reg 7) (i_ 36),none,(some (6,false))⟩,s_ 14 (.pick (.reg 6) (.cst (.bool true)) (.reg 8))])
(.cond (.loc 14)
(.region [o_ (.bad),o_ (.bad)])
.skip))
(.seq (.region [s_ 7 (.allocH 200 [(.int .u8 0),(.int .u8 0),(.int .u8 0),(.int .u8 0),(.int .u8 0),(.int .u8 0),(.int .u8 0),(.int .u8 0),(.int .u8 0),(.int .u8 0),(.int .u8 0),(.int .u8 0),(.int .u8 0),(.int .u8 0),(.int .u8 0),(.int .u8 0),(.int .u8 0),(.int .u8 0),(.int .u8 0),(.int .u8 0),(.int .u8 0),(.int .u8 0),(.int .u8 0),(.int .u8 0),(.int .u8 0),(.int .u8 0),(.int .u8 0),(.int .u8 0),(.int .u8 0),(.int .u8 0),(.int .u8 0),(.int .u8 0),(.int .u8 0),(.int .u8 0),(.int .u8 0),(.int .u8 0),(.int .u8 0),(.int .u8 0),(.int .u8 0),(.int .u8 0),(.int .u8 0),(.int .u8 0),(.int .u8 0),(.int .u8 0),(.int .u8 0),(.int .u8 0),(.int .u8 0),(.int .u8 0),(.int .u8 0),(.int .u8 0),(.int .u8 0),(.int .u8 0),(.int .u8 0),(.int .u8 0),(.int .u8 0),(.int .u8 0),(.int .u8 0),(.int .u8 0),(.int .u8 0),(.int .u8 0),(.int .u8 0),(.int .u8 0),(.int .u8 0),(.int .u8 0),(.int .u8 0)])])
(.seq (.region [s_ 8 (.mov (i_ 65))])
(.seq (.seq (.region [s_ 15 (.mov (.loc 3))])
(.cond (.loc 15)
(.region [o_ (.mov (.loc 1)),o_ (.un .neg (.reg 0)),s_ 1 (.mov (.reg 1))])
.skip))
(.seq (.seq (.region [o_ (.mov (.loc 2)),s_ 16 (.call true false 187 [(.reg 0)])])
(.cond (.loc 16)
(.seq (.region [o_ (.mov (.loc 2)),o_ (.conv (.toInt .u64) (.reg 0)),o_ (.call true false 188 [(.reg 1)]),o_ (.conv (.toInt .u64) (.reg 2)),s_ 9 (.mov (.reg 3))])
(.seq (.region [o_ (.mov (.loc 2)),o_ (.conv (.toInt .u64) (.reg 0)),s_ 10 (.mov (.reg 1))])
(.seq (.region [o_ (.mov (.loc 2)),o_ (.conv (.toInt .u64) (.reg 0)),o_ (.bin .sub (.reg 1) (.cst (.int .u64 1))),s_ 11 (.mov (.reg 2))])
(.seq (.block 0
(.loop t164L1))
(.seq (.region [o_ (.mov (.loc 8)),o_ (.bin .sub (.reg 0) (i_ 1)),s_ 8 (.mov (.reg 1))])
(.region [o_ (.mov (.loc 8)),o_ (.mov (.loc 1)),o_ (.indexS (.cst (.str [48,49,50,51,52,53,54,55,56,57,97,98,99,100,101,102,103,104,105,106,107,108,109,110,111,112,113,114,115,116,117,118,119,120,121,122])) (.reg 1)),o_ (.indexAddrA 65 1 (.loc 7) (.reg 0)),o_ (.store 1 (.reg 3) (.reg 2))]))))))
(.seq (.region [o_ (.mov (.loc 2)),o_ (.conv (.toInt .u64) (.reg 0)),s_ 12 (.mov (.reg 1))])
(.seq (.block 2
(.loop t164L0))
(.seq (.region [o_ (.mov (.loc 8)),o_ (.bin .sub (.reg 0) (i_ 1)),s_ 8 (.mov (.reg 1))])
(.region [o_ (.mov (.loc 8)),o_ (.mov (.loc 1)),o_ (.indexS (.cst (.str [48,49,50,51,52,53,54,55,56,57,97,98,99,100,101,102,103,104,105,106,107,108,109,110,111,112,113,114,115,116,117,118,119,120,121,122])) (.reg 1)),o_ (.indexAddrA 65 1 (.loc 7) (.reg 0)),o_ (.store 1 (.reg 3) (.reg 2))]))))))
(.seq (.seq (.region [s_ 19 (.mov (.loc 3))])
(.cond (.loc 19)
(.seq (.region [o_ (.mov (.loc 8)),o_ (.bin .sub (.reg 0) (i_ 1)),s_ 8 (.mov (.reg 1))])
(.region [o_ (.mov (.loc 8)),o_ (.indexAddrA 65 1 (.loc 7) (.reg 0)),o_ (.store 1 (.reg 1) (.cst (.int .u8 45)))]))
.skip))
(.seq (.seq (.region [s_ 20 (.mov (.loc 4))])
(.cond (.loc 20)
(.seq (.region [o_ (.mov (.loc 0)),o_ (.mov (.loc 8)),o_ (.slice (.arr 65 1) (.loc 7) (some (.reg 1)) none none),o_ (.append false 1 1 5 (.reg 0) (.reg 2)),s_ 5 (.mov (.reg 3))])
.ret)
.skip))
(.seq (.region [o_ (.mov (.loc 8)),o_ (.slice (.arr 65 1) (.loc 7) (some (.reg 0)) none none),o_ (.conv .bytesStr (.reg 1)),s_ 6 (.mov (.reg 2))])
.ret)))))))))⟩
theorem c164 : compFunc Tryz.prog opts a164 Tryz.f164 = some t164 := by kernel_rfl
def a166 : Ann := { slots := [0,1,4],lb := [],mu := [],trunc := [],draws := [] }
def t166 : TFunc := ⟨2,3,[.loc 2],
(.seq (.region [s_ 2 (.mov (.cst (.str [])))])
(.seq (.region [o_ (.mov (.loc 0)),o_ (.mov (.loc 1)),o_ (.call true false 138 [(.reg 0),(.reg 1)]),s_ 2 (.mov (.reg 2))])
.ret))⟩
theorem c166 : compFunc Tryz.prog opts a166 Tryz.f166 = some t166 := by kernel_rfl
def a167 : Ann := { slots := [0,1,4,7],lb := [],mu := [],trunc := [],draws := [] }
def t167 : TFunc := ⟨2,4,[.loc 2],
(.seq (.region [s_ 2 (.mov (.cst (.sl .nil [])))])
(.seq (.seq (.region [o_ (.mov (.loc 1)),o_ (.conv (.toInt .u32) (.reg 0)),s_ 3 (.bin .leq (.reg 1) (.cst (.int .u32 127)))])
(.cond (.loc 3)
(.seq (.region [o_ (.mov (.loc 0)),o_ (.mov (.loc 1)),o_ (.conv (.toInt .u8) (.reg 1)),o_ (.lit false [(.int .u8 0)] 1 [(0,(.reg 2))]),o_ (.append false 1 1 5 (.reg 0) (.reg 3)),s_ 2 (.mov (.reg 4))])
.ret)
.skip))
(.seq (.region [o_ (.mov (.loc 0)),o_ (.mov (.loc 1)),o_ (.call false false 189 [(.reg 0),(.reg 1)]),s_ 2 (.mov (.reg 2))])
.ret)))⟩
theorem c167 : compFunc Tryz.prog opts a167 Tryz.f167 = some t167 := by kernel_rfl
def a168 : Ann := { slots := [0,2,3,13,16,19],lb := [],mu := [],trunc := [],draws := [] }
def t168 : TFunc := ⟨1,6,[.loc 1],
(.seq (.region [s_ 1 (.mov (.cst (.str [])))])
(.seq (.block 0
(.seq (.region [o_ (.mov (.loc 0)),o_ (.bin .eql (.reg 0) (.cst (.int .i32 34))),o_ (.mov (.reg 1)),⟨.mov (.loc 0),none,(some (2,false))⟩,⟨.bin .eql (.reg 3) (.cst (.int .i32 92)),none,(some (2,false))⟩,o_ (.pick (.reg 2) (.cst (.bool true)) (.reg 4)),s_ 2 (.mov (.reg 5))])
(.cond (.loc 2)
(.seq (.region [o_ (.mov (.loc 0)),o_ (.conv .intStr (.reg 0)),o_ (.bin .add (.cst (.str [92])) (.reg 1)),s_ 1 (.mov (.reg 2))])
.ret)
(.seq (.region [o_ (.mov (.loc 0)),o_ (.bin .eql (.reg 0) (.cst (.int .i32 10))),s_ 3 (.mov (.reg 1))])
(.cond (.loc 3)
(.seq (.region [s_ 1 (.mov (.cst (.str [92,110])))])
.ret)
(.seq (.region [o_ (.mov (.loc 0)),o_ (.bin .eql (.reg 0) (.cst (.int .i32 9))),s_ 4 (.mov (.reg 1))])
(.cond (.loc 4)
(.seq (.region [s_ 1 (.mov (.cst (.str [92,116])))])
.ret)
(.seq (.region [o_ (.mov (.loc 0)),o_ (.bin .lss (.reg 0) (.cst (.int .i32 32))),o_ (.mov (.reg 1)),⟨.mov (.loc 0),none,(some (2,false))⟩,⟨.bin .eql (.reg 3) (.cst (.int .i32 127)),none,(some (2,false))⟩,o_ (.pick (.reg 2) (.cst (.bool true)) (.reg 4)),s_ 5 (.mov (.reg 5))])
(.cond (.loc 5)
(.seq (.region [o_ (.mov (.loc 0)),o_ (.conv (.toInt .i64) (.reg 0)),o_ (.call true false 166 [(.reg 1),(i_ 16)]),o_ (.bin .add (.cst (.str [92,120])) (.reg 2)),o_ (.bin .add (.reg 3) (.cst (.str [59]))),s_ 1 (.mov (.reg 4))])
.ret)
.skip)))))))))
(.seq (.region [o_ (.mov (.loc 0)),o_ (.conv .intStr (.reg 0)),s_ 1 (.mov (.reg 1))])
.ret)))⟩
theorem c168 : compFunc Tryz.prog opts a168 Tryz.f168 = some t168 := by kernel_rfl
def a169 : Ann := { slots := [0,1,2,3,5],lb := [3,1],mu := [],trunc := [],draws := [(4,⟨[0,0,1,7],[0,1,2],[(3,[],[])]⟩)] }
def t169L0 : TCode := (.seq (.seq (.region [o_ (.loadN 5 (.loc 1)),s_ 4 (.call false false 82 [(.reg 0)])])
(.cond (.loc 4)
.skip
(.exit 0)))
(.block 1
(.seq (.region [o_ (.mov (.loc 2)),o_ (.fieldAddr 3 (.loc 1)),o_ (.load1 (.reg 1)),o_ (.indexAddrS 5 (.reg 2) (i_ 0)),o_ (.loadN 5 (.reg 3)),o_ (.lit false [(.int .i64 0),(.int .i64 0),(.str []),(.sl .nil []),(.int .i64 0)] 1 [(0,(.reg 4))]),o_ (.append false 5 64 39 (.reg 0) (.reg 5)),s_ 2 (.mov (.reg 6))])
(.region [o_ (.fieldAddr 3 (.loc 1)),o_ (.load1 (.reg 0)),o_ (.indexAddrS 5 (.reg 1) (i_ 1)),o_ (.loadN 5 (.reg 2)),o_ (.store 5 (.loc 1) (.reg 3))]))))
def t169 : TFunc := ⟨1,5,[.loc 2,.cell 3 5 true],
(.seq (.region [o_ (.boxL 1 (.loc 0)),s_ 2 (.mov (.cst (.sl .nil []))),o_ (.allocL 3 [(.int .i64 0),(.int .i64 0),(.str []),(.sl .nil []),(.int .i64 0)])])
(.seq (.block 0
(.loop t169L0))
(.seq (.draw [0,1,2] [(3,[],[])] [o_ (.mov (.loc 2)),o_ (.loadN 5 (.loc 1)),s_ 2 (.mov (.reg 0)),o_ (.store 5 (.loc 3) (.reg 1))])
.ret)))⟩
theorem c169 : compFunc Tryz.prog opts a169 Tryz.f169 = some t169 := by kernel_rfl
def a170 : Ann := { slots := [0,1,4,7],lb := [],mu := [],trunc := [],draws := [] }
def t170 : TFunc := ⟨2,4,[.loc 2],
(.seq (.region [s_ 2 (.mov (.cst (.str [])))])
(.seq (.seq (.region [o_ (.mov (.loc 0)),o_ (.mov (.loc 1)),s_ 3 (.call true false 190 [(.reg 0),(.reg 1)])])
(.cond (.loc 3)
(.seq (.region [o_ (.mov (.loc 0)),o_ (.mov (.loc 1)),o_ (.len .str (.reg 1)),o_ (.slice .str (.reg 0) (some (.reg 2)) none none),s_ 2 (.mov (.reg 3))])
.ret)
.skip))
(.seq (.region [o_ (.mov (.loc 0)),s_ 2 (.mov (.reg 0))])
.ret)))⟩
theorem c170 : compFunc Tryz.prog opts a170 Tryz.f170 = some t170 := by kernel_rfl
def a171 : Ann := { slots := [0,1,4],lb := [],mu := [],trunc := [],draws := [] }
def t171 : TFunc := ⟨2,3,[.loc 2],
(.seq (.region [s_ 2 (.mov (i_ 0))])
(.seq (.region [o_ (.mov (.loc 0)),o_ (.mov (.loc 1)),o_ (.call false false 191 [(.reg 0),(.reg 1),(.cst (.bool true))]),s_ 2 (.mov (.reg 2))])
.ret))⟩
theorem c171 : compFunc Tryz.prog opts a171 Tryz.f171 = some t171 := by kernel_rfl
def a172 : Ann := { slots := [0,2,3,5,6,7,8,9,13],lb := [],mu := [],trunc := [],draws := [] }
def t172L0 : TCode := (.seq (.region [s_ 7 (.bin .lss (.loc 6) (.loc 5))])
(.seq (.cond (.loc 7)
.skip
(.exit 0))
(.seq (.block 1
(.seq (.region [o_ (.indexAddrS 1 (.loc 4) (.loc 6)),o_ (.load1 (.reg 0)),s_ 3 (.mov (.reg 1))])
(.seq (.seq (.region [o_ (.mov (.loc 3)),s_ 8 (.bin .lss (.reg 0) (.cst (.int .u8 128)))])
(.cond (.loc 8)
(.seq (.region [o_ (.mov (.loc 3)),o_ (.conv (.toInt .i32) (.reg 0)),s_ 1 (.mov (.reg 1)),s_ 2 (.mov (i_ 1))])
.ret)
.skip))
(.exit 0))))
(.region [o_ (.bin .add (.loc 6) (i_ 1)),s_ 6 (.mov (.reg 0))]))))
def t172 : TFunc := ⟨1,9,[.loc 1,.loc 2],
(.seq (.region [s_ 1 (.mov (.cst (.int .i32 0))),s_ 2 (.mov (i_ 0))])
(.seq (.seq (.region [s_ 4 (.mov (.loc 0)),s_ 5 (.len .sl (.reg 0)),s_ 6 (.mov (i_ 0))])
(.block 0
(.loop t172L0)))
(.seq (.region [o_ (.mov (.loc 0)),o_ (.call true false 192 [(.reg 0)]),o_ (.mov (.reg 1)),o_ (.extract 0 (.reg 2)),o_ (.extract 1 (.reg 2)),s_ 1 (.mov (.reg 3)),s_ 2 (.mov (.reg 4))])
.ret)))⟩
theorem c172 : compFunc Tryz.prog opts a172 Tryz.f172 = some t172 := by kernel_rfl
def a173 : Ann := { slots := [0,1,4],lb := [],mu := [],trunc := [],draws := [] }
def t173 : TFunc := ⟨2,3,[.loc 2],
(.seq (.region [s_ 2 (.mov (.cst (.bool false)))])
(.seq (.region [o_ (.mov (.loc 0)),o_ (.bin .eql (.reg 0) (.cst (.int .i32 65533))),o_ (.mov (.reg 1)),⟨.mov (.loc 1),none,(some (2,true))⟩,⟨.bin .leq (.reg 3) (i_ 1),none,(some (2,true))⟩,o_ (.pick (.reg 2) (.reg 4) (.cst (.bool false))),s_ 2 (.mov (.reg 5))])
.ret))⟩
theorem c173 : compFunc Tryz.prog opts a173 Tryz.f173 = some t173 := by kernel_rfl
def a184 : Ann := { slots := [0,2,4,8,14],lb := [],mu := [],trunc := [],draws := [] }
def t184 : TFunc := ⟨1,5,[.loc 1],
(.seq (.region [s_ 1 (.mov (i_ 0))])
(.seq (.seq (.region [o_ (.mov (.loc 0)),s_ 2 (.bin .geq (.reg 0) (.cst (.int .u64 4294967296)))])
(.cond (.loc 2)
(.seq (.region [o_ (.mov (.loc 0)),o_ (.bin .shr (.reg 0) (.cst (.int .u64 32))),s_ 0 (.mov (.reg 1))])
(.region [s_ 1 (.mov (i_ 32))]))
.skip))
(.seq (.seq (.region [o_ (.mov (.loc 0)),s_ 3 (.bin .geq (.reg 0) (.cst (.int .u64 65536)))])
(.cond (.loc 3)
(.seq (.region [o_ (.mov (.loc 0)),o_ (.bin .shr (.reg 0) (.cst (.int .u64 16))),s_ 0 (.mov (.reg 1))])
(.region [o_ (.mov (.loc 1)),o_ (.bin .add (.reg 0) (i_ 16)),s_ 1 (.mov (.reg 1))]))
.skip))
(.seq (.seq (.region [o_ (.mov (.loc 0)),s_ 4 (.bin .geq (.reg 0) (.cst (.int .u64 256)))])
(.cond (.loc 4)
(.seq (.region [o_ (.mov (.loc 0)),o_ (.bin .shr (.reg 0) (.cst (.int .u64 8))),s_ 0 (.mov (.reg 1))])
(.region [o_ (.mov (.loc 1)),o_ (.bin .add (.reg 0) (i_ 8)),s_ 1 (.mov (.reg 1))]))
.skip))
(.seq (.region [o_ (.mov (.loc 1)),o_ (.mov (.loc 0)),o_ (.conv (.toInt .u8) (.reg 1)),o_ (.indexS (.cst (.str [0,1,2,2,3,3,3,3,4,4,4,4,4,4,4,4,5,5,5,5,5,5,5,5,5,5,5,5,5,5,5,5,6,6,6,6,6,6,6,6,6,6,6,6,6,6,6,6,6,6,6,6,6,6,6,6,6,6,6,6,6,6,6,6,7,7,7,7,7,7,7,7,7,7,7,7,7,7,7,7,7,7,7,7,7,7,7,7,7,7,7,7,7,7,7,7,7,7,7,7,7,7,7,7,7,7,7,7,7,7,7,7,7,7,7,7,7,7,7,7,7,7,7,7,7,7,7,7,8,8,8,8,8,8,8,8,8,8,8,8,8,8,8,8,8,8,8,8,8,8,8,8,8,8,8,8,8,8,8,8,8,8,8,8,8,8,8,8,8,8,8,8,8,8,8,8,8,8,8,8,8,8,8,8,8,8,8,8,8,8,8,8,8,8,8,8,8,8,8,8,8,8,8,8,8,8,8,8,8,8,8,8,8,8,8,8,8,8,8,8,8,8,8,8,8,8,8,8,8,8,8,8,8,8,8,8,8,8,8,8,8,8,8,8,8,8,8,8,8,8,8,8,8,8,8,8])) (.reg 2)),o_ (.conv (.toInt .i64) (.reg 3)),o_ (.bin .add (.reg 0) (.reg 4)),s_ 1 (.mov (.reg 5))])
.ret)))))⟩
theorem c184 : compFunc Tryz.prog opts a184 Tryz.f184 = some t184 := by kernel_rfl
def a185 : Ann := { slots := [0,2],lb := [],mu := [],trunc := [],draws := [] }
def t185 : TFunc := ⟨1,2,[.loc 1],
(.seq (.region [s_ 1 (.mov (i_ 0))])
(.seq (.region [o_ (.mov (.loc 0)),o_ (.bin .mul (.reg 0) (i_ 78913)),o_ (.bin .shr (.reg 1) (.cst (.int .u64 18))),s_ 1 (.mov (.reg 2))])
.ret))⟩
theorem c185 : compFunc Tryz.prog opts a185 Tryz.f185 = some t185 := by kernel_rfl
def a186 : Ann := { slots := [0,2,3],lb := [],mu := [],trunc := [],draws := [] }
def t186 : TFunc := ⟨1,3,[.loc 1],
(.seq (.region [s_ 1 (.mov (i_ 0))])
(.seq (.seq (.region [s_ 2 (.mov (.loc 0))])
(.cond (.loc 2)
(.seq (.region [s_ 1 (.mov (i_ 1))])
.ret)
.skip))
(.seq (.region [s_ 1 (.mov (i_ 0))])
.ret)))⟩
theorem c186 : compFunc Tryz.prog opts a186 Tryz.f186 = some t186 := by kernel_rfl
def a187 : Ann := { slots := [0,2],lb := [],mu := [],trunc := [],draws := [] }
def t187 : TFunc := ⟨1,2,[.loc 1],
(.seq (.region [s_ 1 (.mov (.cst (.bool false)))])
(.seq (.region [o_ (.mov (.loc 0)),o_ (.mov (.loc 0)),o_ (.bin .sub (.reg 1) (i_ 1)),o_ (.bin .and (.reg 0) (.reg 2)),o_ (.bin .eql (.reg 3) (i_ 0)),s_ 1 (.mov (.reg 4))])
.ret))⟩
theorem c187 : compFunc Tryz.prog opts a187 Tryz.f187 = some t187 := by kernel_rfl
def a188 : Ann := { slots := [0,2],lb := [],mu := [],trunc := [],draws := [] }
def t188 : TFunc := ⟨1,2,[.loc 1],
(.seq (.region [s_ 1 (.mov (i_ 0))])
(.seq (.cond (.cst (.bool false))
(.seq (.region [o_ (.mov (.loc 0)),o_ (.conv (.toInt .u32) (.reg 0)),o_ (.call true false 199 [(.reg 1)]),s_ 1 (.mov (.reg 2))])
.ret)
.skip)
(.seq (.region [o_ (.mov (.loc 0)),o_ (.call true false 200 [(.reg 0)]),s_ 1 (.mov (.reg 1))])
.ret)))⟩
theorem c188 : compFunc Tryz.prog opts a188 Tryz.f188 = some t188 := by kernel_rfl
def a189 : Ann := { slots := [0,1,4,5,11,25,50],lb := [],mu := [],trunc := [],draws := [] }
def t189 : TFunc := ⟨2,7,[.loc 2],
(.seq (.region [s_ 2 (.mov (.cst (.sl .nil [])))])
(.seq (.region [o_ (.mov (.loc 1)),o_ (.conv (.toInt .u32) (.reg 0)),s_ 3 (.mov (.reg 1))])
(.block 0
(.seq (.region [o_ (.mov (.loc 3)),o_ (.bin .leq (.reg 0) (.cst (.int .u32 2047))),s_ 4 (.mov (.reg 1))])
(.cond (.loc 4)
(.seq (.region [o_ (.mov (.loc 0)),o_ (.mov (.loc 1)),o_ (.bin .shr (.reg 1) (.cst (.int .u64 6))),o_ (.conv (.toInt .u8) (.reg 2)),o_ (.bin .or (.cst (.int .u8 192)) (.reg 3)),o_ (.mov (.loc 1)),o_ (.conv (.toInt .u8) (.reg 5)),o_ (.bin .and (.reg 6) (.cst (.int .u8 63))),o_ (.bin .or (.cst (.int .u8 128)) (.reg 7)),o_ (.lit false [(.int .u8 0)] 2 [(0,(.reg 4)),(1,(.reg 8))]),o_ (.append false 1 1 5 (.reg 0) (.reg 9)),s_ 2 (.mov (.reg 10))])
.ret)
(.seq (.seq (.region [o_ (.mov (.loc 3)),o_ (.bin .lss (.reg 0) (.cst (.int .u32 55296))),s_ 5 (.mov (.reg 1))])
(.cond (.loc 5)
.skip
(.region [o_ (.mov (.loc 3)),o_ (.bin .lss (.cst (.int .u32 57343)) (.reg 0)),o_ (.mov (.reg 1)),⟨.mov (.loc 3),none,(some (2,true))⟩,⟨.bin .leq (.reg 3) (.cst (.int .u32 65535)),none,(some (2,true))⟩,o_ (.pick (.reg 2) (.reg 4) (.cst (.bool false))),s_ 5 (.mov (.reg 5))])))
(.cond (.loc 5)
(.seq (.region [o_ (.mov (.loc 0)),o_ (.mov (.loc 1)),o_ (.bin .shr (.reg 1) (.cst (.int .u64 12))),o_ (.conv (.toInt .u8) (.reg 2)),o_ (.bin .or (.cst (.int .u8 224)) (.reg 3)),o_ (.mov (.loc 1)),o_ (.bin .shr (.reg 5) (.cst (.int .u64 6))),o_ (.conv (.toInt .u8) (.reg 6)),o_ (.bin .and (.reg 7) (.cst (.int .u8 63))),o_ (.bin .or (.cst (.int .u8 128)) (.reg 8)),o_ (.mov (.loc 1)),o_ (.conv (.toInt .u8) (.reg 10)),o_ (.bin .and (.reg 11) (.cst (.int .u8 63))),o_ (.bin .or (.cst (.int .u8 128)) (.reg 12)),o_ (.lit false [(.int .u8 0)] 3 [(0,(.reg 4)),(1,(.reg 9)),(2,(.reg 13))]),o_ (.append false 1 1 5 (.reg 0) (.reg 14)),s_ 2 (.mov (.reg 15))])
.ret)
(.seq (.region [o_ (.mov (.loc 3)),o_ (.bin .gtr (.reg 0) (.cst (.int .u32 65535))),o_ (.mov (.reg 1)),⟨.mov (.loc 3),none,(some (2,true))⟩,⟨.bin .leq (.reg 3) (.cst (.int .u32 1114111)),none,(some (2,true))⟩,o_ (.pick (.reg 2) (.reg 4) (.cst (.bool false))),s_ 6 (.mov (.reg 5))])
(.cond (.loc 6)
(.seq (.region [o_ (.mov (.loc 0)),o_ (.mov (.loc 1)),o_ (.bin .shr (.reg 1) (.cst (.int .u64 18))),o_ (.conv (.toInt .u8) (.reg 2)),o_ (.bin .or (.cst (.int .u8 240)) (.reg 3)),o_ (.mov (.loc 1)),o_ (.bin .shr (.reg 5) (.cst (.int .u64 12))),o_ (.conv (.toInt .u8) (.reg 6)),o_ (.bin .and (.reg 7) (.cst (.int .u8 63))),o_ (.bin .or (.cst (.int .u8 128)) (.reg 8)),o_ (.mov (.loc 1)),o_ (.bin .shr (.reg 10) (.cst (.int .u64 6))),o_ (.conv (.toInt .u8) (.reg 11)),o_ (.bin .and (.reg 12) (.cst (.int .u8 63))),o_ (.bin .or (.cst (.int .u8 128)) (.reg 13)),o_ (.mov (.loc 1)),o_ (.conv (.toInt .u8) (.reg 15)),o_ (.bin .and (.reg 16) (.cst (.int .u8 63))),o_ (.bin .or (.cst (.int .u8 128)) (.reg 17)),o_ (.lit false [(.int .u8 0)] 4 [(0,(.reg 4)),(1,(.reg 9)),(2,(.reg 14)),(3,(.reg 18))]),o_ (.append false 1 1 5 (.reg 0) (.reg 19)),s_ 2 (.mov (.reg 20))])
.ret)
(.seq (.region [o_ (.mov (.loc 0)),o_ (.lit false [(.int .u8 0)] 3 [(0,(.cst (.int .u8 239))),(1,(.cst (.int .u8 191))),(2,(.cst (.int .u8 189)))]),o_ (.append false 1 1 5 (.reg 0) (.reg 1)),s_ 2 (.mov (.reg 2))])
.ret))))))))))⟩
theorem c189 : compFunc Tryz.prog opts a189 Tryz.f189 = some t189 := by kernel_rfl
def a190 : Ann := { slots := [0,1,4],lb := [],mu := [],trunc := [],draws := [] }
def t190 : TFunc := ⟨2,3,[.loc 2],
(.seq (.region [s_ 2 (.mov (.cst (.bool false)))])
(.seq (.region [o_ (.mov (.loc 0)),o_ (.len .str (.reg 0)),o_ (.mov (.loc 1)),o_ (.len .str (.reg 2)),o_ (.bin .geq (.reg 1) (.reg 3)),o_ (.mov (.reg 4)),⟨.mov (.loc 0),none,(some (5,true))⟩,⟨.mov (.loc 1),none,(some (5,true))⟩,⟨.len .str (.reg 7),none,(some (5,true))⟩,⟨.slice .str (.reg 6) none (some (.reg 8)) none,none,(some (5,true))⟩,⟨.mov (.loc 1),none,(some (5,true))⟩,⟨.bin .eql (.reg 9) (.reg 10),none,(some (5,true))⟩,o_ (.pick (.reg 5) (.reg 11) (.cst (.bool false))),s_ 2 (.mov (.reg 12))])
.ret))⟩
theorem c190 : compFunc Tryz.prog opts a190 Tryz.f190 = some t190 := by kernel_rfl
def a191 : Ann := { slots := [0,1,2,6,7,8,10,11,12,19],lb := [],mu := [],trunc := [],draws := [] }
def t191L0 : TCode := (.seq (.region [s_ 7 (.nextS (.loc 6)),s_ 8 (.extract 0 (.reg 0))])
(.seq (.cond (.loc 8)
.skip
(.exit 0))
(.block 1
(.seq (.region [o_ (.extract 1 (.loc 7)),o_ (.extract 2 (.loc 7)),s_ 4 (.mov (.reg 0)),s_ 5 (.mov (.reg 1))])
(.seq (.region [o_ (.mov (.loc 1)),o_ (.mov (.loc 5)),o_ (.callv (.reg 0) [(.reg 1)]),o_ (.mov (.loc 2)),s_ 9 (.eqB false .bool (.reg 2) (.reg 3))])
(.cond (.loc 9)
(.seq (.region [o_ (.mov (.loc 4)),s_ 3 (.mov (.reg 0))])
.ret)
.skip))))))
def t191 : TFunc := ⟨3,10,[.loc 3],
(.seq (.region [s_ 3 (.mov (i_ 0))])
(.seq (.seq (.region [o_ (.mov (.loc 0)),s_ 6 (.range true (.reg 0))])
(.block 0
(.loop t191L0)))
(.seq (.region [s_ 3 (.mov (i_ (-1)))])
.ret)))⟩
theorem c191 : compFunc Tryz.prog opts a191 Tryz.f191 = some t191 := by kernel_rfl
def a192 : Ann := { slots := [0,2,3,4,5,6,7,8,9,10,11,12,16,24,47,60,62,79,81,103],lb := [9],mu := [],trunc := [],draws := [] }
def t192 : TFunc := ⟨1,20,[.loc 1,.loc 2],
(.seq (.region [s_ 1 (.mov (.cst (.int .i32 0))),s_ 2 (.mov (i_ 0))])
(.seq (.region [o_ (.mov (.loc 0)),o_ (.len .sl (.reg 0)),s_ 3 (.mov (.reg 1))])
(.seq (.seq (.region [o_ (.mov (.loc 3)),s_ 12 (.bin .lss (.reg 0) (i_ 1))])
(.cond (.loc 12)
(.seq (.region [s_ 1 (.mov (.cst (.int .i32 65533))),s_ 2 (.mov (i_ 0))])
.ret)
.skip))
(.seq (.region [o_ (.mov (.loc 0)),o_ (.indexAddrS 1 (.reg 0) (i_ 0)),o_ (.load1 (.reg 1)),s_ 4 (.mov (.reg 2))])
(.seq (.region [o_ (.mov (.loc 4)),o_ (.indexAddrA 256 1 (.glob 2) (.reg 0)),o_ (.load1 (.reg 1)),s_ 5 (.mov (.reg 2))])
(.seq (.seq (.region [o_ (.mov (.loc 5)),s_ 13 (.bin .geq (.reg 0) (.cst (.int .u8 240)))])
(.cond (.loc 13)
(.seq (.region [o_ (.mov (.loc 5)),o_ (.conv (.toInt .i32) (.reg 0)),o_ (.bin .shl (.reg 1) (.cst (.int .u64 31))),o_ (.bin .shr (.reg 2) (.cst (.int .u64 31))),s_ 6 (.mov (.reg 3))])
(.seq (.region [o_ (.mov (.loc 0)),o_ (.indexAddrS 1 (.reg 0) (i_ 0)),o_ (.load1 (.reg 1)),o_ (.conv (.toInt .i32) (.reg 2)),o_ (.mov (.loc 6)),o_ (.bin .andNot (.reg 3) (.reg 4)),o_ (.mov (.loc 6)),o_ (.bin .and (.cst (.int .i32 65533)) (.reg 6)),o_ (.bin .or (.reg 5) (.reg 7)),s_ 1 (.mov (.reg 8)),s_ 2 (.mov (i_ 1))])
.ret))
.skip))
(.seq (.region [o_ (.mov (.loc 5)),o_ (.bin .and (.reg 0) (.cst (.int .u8 7))),o_ (.conv (.toInt .i64) (.reg 1)),s_ 7 (.mov (.reg 2))])
(.seq (.region [o_ (.mov (.loc 5)),o_ (.bin .shr (.reg 0) (.cst (.int .u64 4))),o_ (.indexAddrA 16 2 (.glob 3) (.reg 1)),o_ (.loadN 2 (.reg 2)),o_ (.allocL 8 [(.int .u8 0),(.int .u8 0)]),o_ (.store 2 (.reg 4) (.reg 3))])
(.seq (.seq (.region [o_ (.mov (.loc 3)),o_ (.mov (.loc 7)),s_ 14 (.bin .lss (.reg 0) (.reg 1))])
(.cond (.loc 14)
(.seq (.region [s_ 1 (.mov (.cst (.int .i32 65533))),s_ 2 (.mov (i_ 1))])
.ret)
.skip))
(.seq (.region [o_ (.mov (.loc 0)),o_ (.indexAddrS 1 (.reg 0) (i_ 1)),o_ (.load1 (.reg 1)),s_ 9 (.mov (.reg 2))])
(.seq (.seq (.region [o_ (.mov (.loc 9)),o_ (.fieldAddr 0 (.loc 8)),o_ (.load1 (.reg 1)),o_ (.bin .lss (.reg 0) (.reg 2)),o_ (.mov (.reg 3)),⟨.fieldAddr 1 (.loc 8),none,(some (4,false))⟩,⟨.load1 (.reg 5),none,(some (4,false))⟩,⟨.mov (.loc 9),none,(some (4,false))⟩,⟨.bin .lss (.reg 6) (.reg 7),none,(some (4,false))⟩,s_ 15 (.pick (.reg 4) (.cst (.bool true)) (.reg 8))])
(.cond (.loc 15)
(.seq (.region [s_ 1 (.mov (.cst (.int .i32 65533))),s_ 2 (.mov (i_ 1))])
.ret)
.skip))
(.seq (.seq (.region [o_ (.mov (.loc 7)),s_ 16 (.bin .leq (.reg 0) (i_ 2))])
(.cond (.loc 16)
(.seq (.region [o_ (.mov (.loc 4)),o_ (.bin .and (.reg 0) (.cst (.int .u8 31))),o_ (.conv (.toInt .i32) (.reg 1)),o_ (.bin .shl (.reg 2) (.cst (.int .u64 6))),o_ (.mov (.loc 9)),o_ (.bin .and (.reg 4) (.cst (.int .u8 63))),o_ (.conv (.toInt .i32) (.reg 5)),o_ (.bin .or (.reg 3) (.reg 6)),s_ 1 (.mov (.reg 7)),s_ 2 (.mov (i_ 2))])
.ret)
.skip))
(.seq (.region [o_ (.mov (.loc 0)),o_ (.indexAddrS 1 (.reg 0) (i_ 2)),o_ (.load1 (.reg 1)),s_ 10 (.mov (.reg 2))])
(.seq (.seq (.region [o_ (.mov (.loc 10)),o_ (.bin .lss (.reg 0) (.cst (.int .u8 128))),o_ (.mov (.reg 1)),⟨.mov (.loc 10),none,(some (2,false))⟩,⟨.bin .lss (.cst (.int .u8 191)) (.reg 3),none,(some (2,false))⟩,s_ 17 (.pick (.reg 2) (.cst (.bool true)) (.reg 4))])
(.cond (.loc 17)
(.seq (.region [s_ 1 (.mov (.cst (.int .i32 65533))),s_ 2 (.mov (i_ 1))])
.ret)
.skip))
(.seq (.seq (.region [o_ (.mov (.loc 7)),s_ 18 (.bin .leq (.reg 0) (i_ 3))])
(.cond (.loc 18)
(.seq (.region [o_ (.mov (.loc 4)),o_ (.bin .and (.reg 0) (.cst (.int .u8 15))),o_ (.conv (.toInt .i32) (.reg 1)),o_ (.bin .shl (.reg 2) (.cst (.int .u64 12))),o_ (.mov (.loc 9)),o_ (.bin .and (.reg 4) (.cst (.int .u8 63))),o_ (.conv (.toInt .i32) (.reg 5)),o_ (.bin .shl (.reg 6) (.cst (.int .u64 6))),o_ (.bin .or (.reg 3) (.reg 7)),o_ (.mov (.loc 10)),o_ (.bin .and (.reg 9) (.cst (.int .u8 63))),o_ (.conv (.toInt .i32) (.reg 10)),o_ (.bin .or (.reg 8) (.reg 11)),s_ 1 (.mov (.reg 12)),s_ 2 (.mov (i_ 3))])
.ret)
.skip))
(.seq (.region [o_ (.mov (.loc 0)),o_ (.indexAddrS 1 (.reg 0) (i_ 3)),o_ (.load1 (.reg 1)),s_ 11 (.mov (.reg 2))])
(.seq (.seq (.region [o_ (.mov (.loc 11)),o_ (.bin .lss (.reg 0) (.cst (.int .u8 128))),o_ (.mov (.reg 1)),⟨.mov (.loc 11),none,(some (2,false))⟩,⟨.bin .lss (.cst (.int .u8 191)) (.reg 3),none,(some (2,false))⟩,s_ 19 (.pick (.reg 2) (.cst (.bool true)) (.reg 4))])
(.cond (.loc 19)
(.seq (.region [s_ 1 (.mov (.cst (.int .i32 65533))),s_ 2 (.mov (i_ 1))])
.ret)
.skip))
(.seq (.region [o_ (.mov (.loc 4)),o_ (.bin .and (.reg 0) (.cst (.int .u8 7))),o_ (.conv (.toInt .i32) (.reg 1)),o_ (.bin .shl (.reg 2) (.cst (.int .u64 18))),o_ (.mov (.loc 9)),o_ (.bin .and (.reg 4) (.cst (.int .u8 63))),o_ (.conv (.toInt .i32) (.reg 5)),o_ (.bin .shl (.reg 6) (.cst (.int .u64 12))),o_ (.bin .or (.reg 3) (.reg 7)),o_ (.mov (.loc 10)),o_ (.bin .and (.reg 9) (.cst (.int .u8 63))),o_ (.conv (.toInt .i32) (.reg 10)),o_ (.bin .shl (.reg 11) (.cst (.int .u64 6))),o_ (.bin .or (.reg 8) (.reg 12)),o_ (.mov (.loc 11)),o_ (.bin .and (.reg 14) (.cst (.int .u8 63))),o_ (.conv (.toInt .i32) (.reg 15)),o_ (.bin .or (.reg 13) (.reg 16)),s_ 1 (.mov (.reg 17)),s_ 2 (.mov (i_ 4))])
.ret))))))))))))))))))⟩
theorem c192 : compFunc Tryz.prog opts a192 Tryz.f192 = some t192 := by kernel_rfl
def a199 : Ann := { slots := [0,2,4],lb := [],mu := [],trunc := [],draws := [] }
def t199 : TFunc := ⟨1,3,[.loc 1],
(.seq (.region [s_ 1 (.mov (i_ 0))])
(.seq (.seq (.region [o_ (.mov (.loc 0)),s_ 2 (.bin .eql (.reg 0) (.cst (.int .u32 0)))])
(.cond (.loc 2)
(.seq (.region [s_ 1 (.mov (i_ 32))])
.ret)
.skip))
(.seq (.region [o_ (.mov (.loc 0)),o_ (.mov (.loc 0)),o_ (.un .neg (.reg 1)),o_ (.bin .and (.reg 0) (.reg 2)),o_ (.bin .mul (.reg 3) (.cst (.int .u32 125613361))),o_ (.bin .shr (.reg 4) (.cst (.int .u64 27))),o_ (.indexAddrA 32 1 (.glob 4) (.reg 5)),o_ (.load1 (.reg 6)),o_ (.conv (.toInt .i64) (.reg 7)),s_ 1 (.mov (.reg 8))])
.ret)))⟩
theorem c199 : compFunc Tryz.prog opts a199 Tryz.f199 = some t199 := by kernel_rfl
def a200 : Ann := { slots := [0,2,4],lb := [],mu := [],trunc := [],draws := [] }
def t200 : TFunc := ⟨1,3,[.loc 1],
(.seq (.region [s_ 1 (.mov (i_ 0))])
(.seq (.seq (.region [o_ (.mov (.loc 0)),s_ 2 (.bin .eql (.reg 0) (.cst (.int .u64 0)))])
(.cond (.loc 2)
(.seq (.region [s_ 1 (.mov (i_ 64))])
.ret)
.skip))
(.seq (.region [o_ (.mov (.loc 0)),o_ (.mov (.loc 0)),o_ (.un .neg (.reg 1)),o_ (.bin .and (.reg 0) (.reg 2)),o_ (.bin .mul (.reg 3) (.cst (.int .u64 285870213051353865))),o_ (.bin .shr (.reg 4) (.cst (.int .u64 58))),o_ (.indexAddrA 64 1 (.glob 5) (.reg 5)),o_ (.load1 (.reg 6)),o_ (.conv (.toInt .i64) (.reg 7)),s_ 1 (.mov (.reg 8))])
.ret)))⟩
theorem c200 : compFunc Tryz.prog opts a200 Tryz.f200 = some t200 := by kernel_rfl
def g0 : List IV := [(.int .u64 1),(.int .u64 10),(.int .u64 100),(.int .u64 1000),(.int .u64 10000),(.int .u64 100000),(.int .u64 1000000),(.int .u64 10000000),(.int .u64 100000000),(.int .u64 1000000000),(.int .u64 10000000000),(.int .u64 100000000000),(.int .u64 1000000000000),(.int .u64 10000000000000),(.int .u64 100000000000000),(.int .u64 1000000000000000),(.int .u64 10000000000000000),(.int .u64 100000000000000000),(.int .u64 1000000000000000000),(.int .u64 10000000000000000000)]
def g2 : List IV := [(.int .u8 240),(.int .u8 240),(.int .u8 240),(.int .u8 240),(.int .u8 240),(.int .u8 240),(.int .u8 240),(.int .u8 240),(.int .u8 240),(.int .u8 240),(.int .u8 240),(.int .u8 240),(.int .u8 240),(.int .u8 240),(.int .u8 240),(.int .u8 240),(.int .u8 240),(.int .u8 240),(.int .u8 240),(.int .u8 240),(.int .u8 240),(.int .u8 240),(.int .u8 240),(.int .u8 240),(.int .u8 240),(.int .u8 240),(.int .u8 240),(.int .u8 240),(.int .u8 240),(.int .u8 240),(.int .u8 240),(.int .u8 240),(.int .u8 240),(.int .u8 240),(.int .u8 240),(.int .u8 240),(.int .u8 240),(.int .u8 240),(.int .u8 240),(.int .u8 240),(.int .u8 240),(.int .u8 240),(.int .u8 240),(.int .u8 240),(.int .u8 240),(.int .u8 240),(.int .u8 240),(.int .u8 240),(.int .u8 240),(.int .u8 240),(.int .u8 240),(.int .u8 240),(.int .u8 240),(.int .u8 240),(.int .u8 240),(.int .u8 240),(.int .u8 240),(.int .u8 240),(.int .u8 240),(.int .u8 240),(.int .u8 240),(.int .u8 240),(.int .u8 240),(.int .u8 240),(.int .u8 240),(.int .u8 240),(.int .u8 240),(.int .u8 240),(.int .u8 240),(.int .u8 240),(.int .u8 240),(.int .u8 240),(.int .u8 240),(.int .u8 240),(.int .u8 240),(.int .u8 240),(.int .u8 240),(.int .u8 240),(.int .u8 240),(.int .u8 240),(.int .u8 240),(.int .u8 240),(.int .u8 240),(.int .u8 240),(.int .u8 240),(.int .u8 240),(.int .u8 240),(.int .u8 240),(.int .u8 240),(.int .u8 240),(.int .u8 240),(.int .u8 240),(.int .u8 240),(.int .u8 240),(.int .u8 240),(.int .u8 240),(.int .u8 240),(.int .u8 240),(.int .u8 240),(.int .u8 240),(.int .u8 240),(.int .u8 240),(.int .u8 240),(.int .u8 240),(.int .u8 240),(.int .u8 240),(.int .u8 240),(.int .u8 240),(.int .u8 240),(.int .u8 240),(.int .u8 240),(.int .u8 240),(.int .u8 240),(.int .u8 240),(.int .u8 240),(.int .u8 240),(.int .u8 240),(.int .u8 240),(.int .u8 240),(.int .u8 240),(.int .u8 240),(.int .u8 240),(.int .u8 240),(.int .u8 240),(.int .u8 240),(.int .u8 240),(.int .u8 240),(.int .u8 240),(.int .u8 241),(.int .u8 241),(.int .u8 241),(.int .u8 241),(.int .u8 241),(.int .u8 241),(.int .u8 241),(.int .u8 241),(.int .u8 241),(.int .u8 241),(.int .u8 241),(.int .u8 241),(.int .u8 241),(.int .u8 241),(.int .u8 241),(.int .u8 241),(.int .u8 241),(.int .u8 241),(.int .u8 241),(.int .u8 241),(.int .u8 241),(.int .u8 241),(.int .u8 241),(.int .u8 241),(.int .u8 241),(.int .u8 241),(.int .u8 241),(.int .u8 241),(.int .u8 241),(.int .u8 241),(.int .u8 241),(.int .u8 241),(.int .u8 241),(.int .u8 241),(.int .u8 241),(.int .u8 241),(.int .u8 241),(.int .u8 241),(.int .u8 241),(.int .u8 241),(.int .u8 241),(.int .u8 241),(.int .u8 241),(.int .u8 241),(.int .u8 241),(.int .u8 241),(.int .u8 241),(.int .u8 241),(.int .u8 241),(.int .u8 241),(.int .u8 241),(.int .u8 241),(.int .u8 241),(.int .u8 241),(.int .u8 241),(.int .u8 241),(.int .u8 241),(.int .u8 241),(.int .u8 241),(.int .u8 241),(.int .u8 241),(.int .u8 241),(.int .u8 241),(.int .u8 241),(.int .u8 241),(.int .u8 241),(.int .u8 2),(.int .u8 2),(.int .u8 2),(.int .u8 2),(.int .u8 2),(.int .u8 2),(.int .u8 2),(.int .u8 2),(.int .u8 2),(.int .u8 2),(.int .u8 2),(.int .u8 2),(.int .u8 2),(.int .u8 2),(.int .u8 2),(.int .u8 2),(.int .u8 2),(.int .u8 2),(.int .u8 2),(.int .u8 2),(.int .u8 2),(.int .u8 2),(.int .u8 2),(.int .u8 2),(.int .u8 2),(.int .u8 2),(.int .u8 2),(.int .u8 2),(.int .u8 2),(.int .u8 2),(.int .u8 19),(.int .u8 3),(.int .u8 3),(.int .u8 3),(.int .u8 3),(.int .u8 3),(.int .u8 3),(.int .u8 3),(.int .u8 3),(.int .u8 3),(.int .u8 3),(.int .u8 3),(.int .u8 3),(.int .u8 35),(.int .u8 3),(.int .u8 3),(.int .u8 52),(.int .u8 4),(.int .u8 4),(.int .u8 4),(.int .u8 68),(.int .u8 241),(.int .u8 241),(.int .u8 241),(.int .u8 241),(.int .u8 241),(.int .u8 241),(.int .u8 241),(.int .u8 241),(.int .u8 241),(.int .u8 241),(.int .u8 241)]
def g3 : List IV := [(.int .u8 128),(.int .u8 191),(.int .u8 160),(.int .u8 191),(.int .u8 128),(.int .u8 159),(.int .u8 144),(.int .u8 191),(.int .u8 128),(.int .u8 143),(.int .u8 0),(.int .u8 0),(.int .u8 0),(.int .u8 0),(.int .u8 0),(.int .u8 0),(.int .u8 0),(.int .u8 0),(.int .u8 0),(.int .u8 0),(.int .u8 0),(.int .u8 0),(.int .u8 0),(.int .u8 0),(.int .u8 0),(.int .u8 0),(.int .u8 0),(.int .u8 0),(.int .u8 0),(.int .u8 0),(.int .u8 0),(.int .u8 0)]
def g4 : List IV := [(.int .u8 0),(.int .u8 1),(.int .u8 28),(.int .u8 2),(.int .u8 29),(.int .u8 14),(.int .u8 24),(.int .u8 3),(.int .u8 30),(.int .u8 22),(.int .u8 20),(.int .u8 15),(.int .u8 25),(.int .u8 17),(.int .u8 4),(.int .u8 8),(.int .u8 31),(.int .u8 27),(.int .u8 13),(.int .u8 23),(.int .u8 21),(.int .u8 19),(.int .u8 16),(.int .u8 7),(.int .u8 26),(.int .u8 12),(.int .u8 18),(.int .u8 6),(.int .u8 11),(.int .u8 5),(.int .u8 10),(.int .u8 9)]
def g5 : List IV := [(.int .u8 0),(.int .u8 1),(.int .u8 56),(.int .u8 2),(.int .u8 57),(.int .u8 49),(.int .u8 28),(.int .u8 3),(.int .u8 61),(.int .u8 58),(.int .u8 42),(.int .u8 50),(.int .u8 38),(.int .u8 29),(.int .u8 17),(.int .u8 4),(.int .u8 62),(.int .u8 47),(.int .u8 59),(.int .u8 36),(.int .u8 45),(.int .u8 43),(.int .u8 51),(.int .u8 22),(.int .u8 53),(.int .u8 39),(.int .u8 33),(.int .u8 30),(.int .u8 24),(.int .u8 18),(.int .u8 12),(.int .u8 5),(.int .u8 63),(.int .u8 55),(.int .u8 48),(.int .u8 27),(.int .u8 60),(.int .u8 41),(.int .u8 37),(.int .u8 16),(.int .u8 46),(.int .u8 35),(.int .u8 44),(.int .u8 21),(.int .u8 52),(.int .u8 32),(.int .u8 23),(.int .u8 11),(.int .u8 54),(.int .u8 26),(.int .u8 40),(.int .u8 15),(.int .u8 34),(.int .u8 20),(.int .u8 31),(.int .u8 10),(.int .u8 25),(.int .u8 14),(.int .u8 19),(.int .u8 9),(.int .u8 13),(.int .u8 8),(.int .u8 7),(.int .u8 6)]
def tbl : List (Option TFunc) := [none,none,none,none,none,none,none,none,some t8,some t9,some t10,some t11,none,some t13,some t14,some t15,some t16,some t17,none,some t19,none,none,none,none,none,none,none,none,none,none,none,none,none,some t33,some t34,some t35,some t36,some t37,some t38,some t39,some t40,some t41,some t42,some t43,some t44,some t45,some t46,none,some t48,some t49,none,some t51,none,some t53,some t54,some t55,some t56,none,none,none,none,none,none,none,none,none,none,none,none,none,none,none,none,some t73,some t74,some t75,some t76,some t77,some t78,some t79,none,some t81,some t82,some t83,some t84,some t85,some t86,some t87,none,none,some t90,some t91,some t92,some t93,none,none,none,none,none,none,none,none,none,none,none,none,none,none,some t108,some t109,some t110,some t111,some t112,none,some t114,some t115,some t116,some t117,some t118,some t119,some t120,some t121,none,none,none,some t125,none,none,none,none,none,none,none,none,none,none,none,none,some t138,some t139,none,some t141,some t142,some t143,some t144,some t145,some t146,some t147,some t148,some t149,some t150,some t151,some t152,some t153,none,none,none,some t157,some t158,none,none,some t161,some t162,some t163,some t164,none,some t166,some t167,some t168,some t169,some t170,some t171,some t172,some t173,none,none,none,none,none,none,none,none,none,none,some t184,some t185,some t186,some t187,some t188,some t189,some t190,some t191,some t192,none,none,none,none,none,none,some t199,some t200]
def gtbl : List (Option (List IV)) := [some g0,none,some g2,some g3,some g4,some g5]
def K : TM.Prog := ⟨fun k => tbl.getD k none,fun g => gtbl.getD g none,fun f => primAt prims f⟩
def Good (k : Nat) (tf : TFunc) : Prop := ∃ (A : Ann) (fn : Func), Tryz.prog.funcs[k]? = some fn ∧ fn.name ≠ "runtime.NumGoroutine" ∧ compFunc Tryz.prog opts A fn = some tf
theorem n8 : (Tryz.f8.name == "runtime.NumGoroutine") = false := by kernel_rfl
theorem q8 : Good 8 t8 := ⟨a8,Tryz.f8,Tryz.func8,fun e => by have h := n8; rw [e] at h; simp at h,c8⟩
theorem n9 : (Tryz.f9.name == "runtime.NumGoroutine") = false := by kernel_rfl
theorem q9 : Good 9 t9 := ⟨a9,Tryz.f9,Tryz.func9,fun e => by have h := n9; rw [e] at h; simp at h,c9⟩
theorem n10 : (Tryz.f10.name == "runtime.NumGoroutine") = false := by kernel_rfl
theorem q10 : Good 10 t10 := ⟨a10,Tryz.f10,Tryz.func10,fun e => by have h := n10; rw [e] at h; simp at h,c10⟩
theorem n11 : (Tryz.f11.name == "runtime.NumGoroutine") = false := by kernel_rfl
theorem q11 : Good 11 t11 := ⟨a11,Tryz.f11,Tryz.func11,fun e => by have h := n11; rw [e] at h; simp at h,c11⟩
theorem n13 : (Tryz.f13.name == "runtime.NumGoroutine") = false := by kernel_rfl
theorem q13 : Good 13 t13 := ⟨a13,Tryz.f13,Tryz.func13,fun e => by have h := n13; rw [e] at h; simp at h,c13⟩
theorem n14 : (Tryz.f14.name == "runtime.NumGoroutine") = false := by kernel_rfl
theorem q14 : Good 14 t14 := ⟨a14,Tryz.f14,Tryz.func14,fun e => by have h := n14; rw [e] at h; simp at h,c14⟩
theorem n15 : (Tryz.f15.name == "runtime.NumGoroutine") = false := by kernel_rfl
theorem q15 : Good 15 t15 := ⟨a15,Tryz.f15,Tryz.func15,fun e => by have h := n15; rw [e] at h; simp at h,c15⟩
theorem n16 : (Tryz.f16.name == "runtime.NumGoroutine") = false := by kernel_rfl
theorem q16 : Good 16 t16 := ⟨a16,Tryz.f16,Tryz.func16,fun e => by have h := n16; rw [e] at h; simp at h,c16⟩
theorem n17 : (Tryz.f17.name == "runtime.NumGoroutine") = false := by kernel_rfl
theorem q17 : Good 17 t17 := ⟨a17,Tryz.f17,Tryz.func17,fun e => by have h := n17; rw [e] at h; simp at h,c17⟩
theorem n19 : (Tryz.f19.name == "runtime.NumGoroutine") = false := by kernel_rfl
theorem q19 : Good 19 t19 := ⟨a19,Tryz.f19,Tryz.func19,fun e => by have h := n19; rw [e] at h; simp at h,c19⟩
theorem n33 : (Tryz.f33.name == "runtime.NumGoroutine") = false := by kernel_rfl
theorem q33 : Good 33 t33 := ⟨a33,Tryz.f33,Tryz.func33,fun e => by have h := n33; rw [e] at h; simp at h,c33⟩
theorem n34 : (Tryz.f34.name == "runtime.NumGoroutine") = false := by kernel_rfl
theorem q34 : Good 34 t34 := ⟨a34,Tryz.f34,Tryz.func34,fun e => by have h := n34; rw [e] at h; simp at h,c34⟩
theorem n35 : (Tryz.f35.name == "runtime.NumGoroutine") = false := by kernel_rfl
theorem q35 : Good 35 t35 := ⟨a35,Tryz.f35,Tryz.func35,fun e => by have h := n35; rw [e] at h; simp at h,c35⟩
theorem n36 : (Tryz.f36.name == "runtime.NumGoroutine") = false := by kernel_rfl
theorem q36 : Good 36 t36 := ⟨a36,Tryz.f36,Tryz.func36,fun e => by have h := n36; rw [e] at h; simp at h,c36⟩
theorem n37 : (Tryz.f37.name == "runtime.NumGoroutine") = false := by kernel_rfl
theorem q37 : Good 37 t37 := ⟨a37,Tryz.f37,Tryz.func37,fun e => by have h := n37; rw [e] at h; simp at h,c37⟩
theorem n38 : (Tryz.f38.name == "runtime.NumGoroutine") = false := by kernel_rfl
theorem q38 : Good 38 t38 := ⟨a38,Tryz.f38,Tryz.func38,fun e => by have h := n38; rw [e] at h; simp at h,c38⟩
theorem n39 : (Tryz.f39.name == "runtime.NumGoroutine") = false := by kernel_rfl
theorem q39 : Good 39 t39 := ⟨a39,Tryz.f39,Tryz.func39,fun e => by have h := n39; rw [e] at h; simp at h,c39⟩
theorem n40 : (Tryz.f40.name == "runtime.NumGoroutine") = false := by kernel_rfl
theorem q40 : Good 40 t40 := ⟨a40,Tryz.f40,Tryz.func40,fun e => by have h := n40; rw [e] at h; simp at h,c40⟩
theorem n41 : (Tryz.f41.name == "runtime.NumGoroutine") = false := by kernel_rfl
theorem q41 : Good 41 t41 := ⟨a41,Tryz.f41,Tryz.func41,fun e => by have h := n41; rw [e] at h; simp at h,c41⟩
theorem n42 : (Tryz.f42.name == "runtime.NumGoroutine") = false := by kernel_rfl
theorem q42 : Good 42 t42 := ⟨a42,Tryz.f42,Tryz.func42,fun e => by have h := n42; rw [e] at h; simp at h,c42⟩
theorem n43 : (Tryz.f43.name == "runtime.NumGoroutine") = false := by kernel_rfl
theorem q43 : Good 43 t43 := ⟨a43,Tryz.f43,Tryz.func43,fun e => by have h := n43; rw [e] at h; simp at h,c43⟩
theorem n44 : (Tryz.f44.name == "runtime.NumGoroutine") = false := by kernel_rfl
theorem q44 : Good 44 t44 := ⟨a44,Tryz.f44,Tryz.func44,fun e => by have h := n44; rw [e] at h; simp at h,c44⟩
theorem n45 : (Tryz.f45.name == "runtime.NumGoroutine") = false := by kernel_rfl
theorem q45 : Good 45 t45 := ⟨a45,Tryz.f45,Tryz.func45,fun e => by have h := n45; rw [e] at h; simp at h,c45⟩
theorem n46 : (Tryz.f46.name == "runtime.NumGoroutine") = false := by kernel_rfl
theorem q46 : Good 46 t46 := ⟨a46,Tryz.f46,Tryz.func46,fun e => by have h := n46; rw [e] at h; simp at h,c46⟩
theorem n48 : (Tryz.f48.name == "runtime.NumGoroutine") = false := by kernel_rfl
theorem q48 : Good 48 t48 := ⟨a48,Tryz.f48,Tryz.func48,fun e => by have h := n48; rw [e] at h; simp at h,c48⟩
theorem n49 : (Tryz.f49.name == "runtime.NumGoroutine") = false := by kernel_rfl
theorem q49 : Good 49 t49 := ⟨a49,Tryz.f49,Tryz.func49,fun e => by have h := n49; rw [e] at h; simp at h,c49⟩
theorem n51 : (Tryz.f51.name == "runtime.NumGoroutine") = false := by kernel_rfl
theorem q51 : Good 51 t51 := ⟨a51,Tryz.f51,Tryz.func51,fun e => by have h := n51; rw [e] at h; simp at h,c51⟩
theorem n53 : (Tryz.f53.name == "runtime.NumGoroutine") = false := by kernel_rfl
theorem q53 : Good 53 t53 := ⟨a53,Tryz.f53,Tryz.func53,fun e => by have h := n53; rw [e] at h; simp at h,c53⟩
theorem n54 : (Tryz.f54.name == "runtime.NumGoroutine") = false := by kernel_rfl
theorem q54 : Good 54 t54 := ⟨a54,Tryz.f54,Tryz.func54,fun e => by have h := n54; rw [e] at h; simp at h,c54⟩
theorem n55 : (Tryz.f55.name == "runtime.NumGoroutine") = false := by kernel_rfl
theorem q55 : Good 55 t55 := ⟨a55,Tryz.f55,Tryz.func55,fun e => by have h := n55; rw [e] at h; simp at h,c55⟩
theorem n56 : (Tryz.f56.name == "runtime.NumGoroutine") = false := by kernel_rfl
theorem q56 : Good 56 t56 := ⟨a56,Tryz.f56,Tryz.func56,fun e => by have h := n56; rw [e] at h; simp at h,c56⟩
theorem n73 : (Tryz.f73.name == "runtime.NumGoroutine") = false := by kernel_rfl
theorem q73 : Good 73 t73 := ⟨a73,Tryz.f73,Tryz.func73,fun e => by have h := n73; rw [e] at h; simp at h,c73⟩
theorem n74 : (Tryz.f74.name == "runtime.NumGoroutine") = false := by kernel_rfl
theorem q74 : Good 74 t74 := ⟨a74,Tryz.f74,Tryz.func74,fun e => by have h := n74; rw [e] at h; simp at h,c74⟩
theorem n75 : (Tryz.f75.name == "runtime.NumGoroutine") = false := by kernel_rfl
theorem q75 : Good 75 t75 := ⟨a75,Tryz.f75,Tryz.func75,fun e => by have h := n75; rw [e] at h; simp at h,c75⟩
theorem n76 : (Tryz.f76.name == "runtime.NumGoroutine") = false := by kernel_rfl
theorem q76 : Good 76 t76 := ⟨a76,Tryz.f76,Tryz.func76,fun e => by have h := n76; rw [e] at h; simp at h,c76⟩
theorem n77 : (Tryz.f77.name == "runtime.NumGoroutine") = false := by kernel_rfl
theorem q77 : Good 77 t77 := ⟨a77,Tryz.f77,Tryz.func77,fun e => by have h := n77; rw [e] at h; simp at h,c77⟩
theorem n78 : (Tryz.f78.name == "runtime.NumGoroutine") = false := by kernel_rfl
theorem q78 : Good 78 t78 := ⟨a78,Tryz.f78,Tryz.func78,fun e => by have h := n78; rw [e] at h; simp at h,c78⟩
theorem n79 : (Tryz.f79.name == "runtime.NumGoroutine") = false := by kernel_rfl
theorem q79 : Good 79 t79 := ⟨a79,Tryz.f79,Tryz.func79,fun e => by have h := n79; rw [e] at h; simp at h,c79⟩
theorem n81 : (Tryz.f81.name == "runtime.NumGoroutine") = false := by kernel_rfl
theorem q81 : Good 81 t81 := ⟨a81,Tryz.f81,Tryz.func81,fun e => by have h := n81; rw [e] at h; simp at h,c81⟩
theorem n82 : (Tryz.f82.name == "runtime.NumGoroutine") = false := by kernel_rfl
theorem q82 : Good 82 t82 := ⟨a82,Tryz.f82,Tryz.func82,fun e => by have h := n82; rw [e] at h; simp at h,c82⟩
theorem n83 : (Tryz.f83.name == "runtime.NumGoroutine") = false := by kernel_rfl
theorem q83 : Good 83 t83 := ⟨a83,Tryz.f83,Tryz.func83,fun e => by have h := n83; rw [e] at h; simp at h,c83⟩
theorem n84 : (Tryz.f84.name == "runtime.NumGoroutine") = false := by kernel_rfl
theorem q84 : Good 84 t84 := ⟨a84,Tryz.f84,Tryz.func84,fun e => by have h := n84; rw [e] at h; simp at h,c84⟩
theorem n85 : (Tryz.f85.name == "runtime.NumGoroutine") = false := by kernel_rfl
theorem q85 : Good 85 t85 := ⟨a85,Tryz.f85,Tryz.func85,fun e => by have h := n85; rw [e] at h; simp at h,c85⟩
theorem n86 : (Tryz.f86.name == "runtime.NumGoroutine") = false := by kernel_rfl
theorem q86 : Good 86 t86 := ⟨a86,Tryz.f86,Tryz.func86,fun e => by have h := n86; rw [e] at h; simp at h,c86⟩
theorem n87 : (Tryz.f87.name == "runtime.NumGoroutine") = false := by kernel_rfl
theorem q87 : Good 87 t87 := ⟨a87,Tryz.f87,Tryz.func87,fun e => by have h := n87; rw [e] at h; simp at h,c87⟩
theorem n90 : (Tryz.f90.name == "runtime.NumGoroutine") = false := by kernel_rfl
theorem q90 : Good 90 t90 := ⟨a90,Tryz.f90,Tryz.func90,fun e => by have h := n90; rw [e] at h; simp at h,c90⟩
theorem n91 : (Tryz.f91.name == "runtime.NumGoroutine") = false := by kernel_rfl
theorem q91 : Good 91 t91 := ⟨a91,Tryz.f91,Tryz.func91,fun e => by have h := n91; rw [e] at h; simp at h,c91⟩
theorem n92 : (Tryz.f92.name == "runtime.NumGoroutine") = false := by kernel_rfl
theorem q92 : Good 92 t92 := ⟨a92,Tryz.f92,Tryz.func92,fun e => by have h := n92; rw [e] at h; simp at h,c92⟩
theorem n93 : (Tryz.f93.name == "runtime.NumGoroutine") = false := by kernel_rfl
theorem q93 : Good 93 t93 := ⟨a93,Tryz.f93,Tryz.func93,fun e => by have h := n93; rw [e] at h; simp at h,c93⟩
theorem n108 : (Tryz.f108.name == "runtime.NumGoroutine") = false := by kernel_rfl
theorem q108 : Good 108 t108 := ⟨a108,Tryz.f108,Tryz.func108,fun e => by have h := n108; rw [e] at h; simp at h,c108⟩
theorem n109 : (Tryz.f109.name == "runtime.NumGoroutine") = false := by kernel_rfl
theorem q109 : Good 109 t109 := ⟨a109,Tryz.f109,Tryz.func109,fun e => by have h := n109; rw [e] at h; simp at h,c109⟩
theorem n110 : (Tryz.f110.name == "runtime.NumGoroutine") = false := by kernel_rfl
theorem q110 : Good 110 t110 := ⟨a110,Tryz.f110,Tryz.func110,fun e => by have h := n110; rw [e] at h; simp at h,c110⟩
theorem n111 : (Tryz.f111.name == "runtime.NumGoroutine") = false := by kernel_rfl
theorem q111 : Good 111 t111 := ⟨a111,Tryz.f111,Tryz.func111,fun e => by have h := n111; rw [e] at h; simp at h,c111⟩
theorem n112 : (Tryz.f112.name == "runtime.NumGoroutine") = false := by kernel_rfl
theorem q112 : Good 112 t112 := ⟨a112,Tryz.f112,Tryz.func112,fun e => by have h := n112; rw [e] at h; simp at h,c112⟩
theorem n114 : (Tryz.f114.name == "runtime.NumGoroutine") = false := by kernel_rfl
theorem q114 : Good 114 t114 := ⟨a114,Tryz.f114,Tryz.func114,fun e => by have h := n114; rw [e] at h; simp at h,c114⟩
theorem n115 : (Tryz.f115.name == "runtime.NumGoroutine") = false := by kernel_rfl
theorem q115 : Good 115 t115 := ⟨a115,Tryz.f115,Tryz.func115,fun e => by have h := n115; rw [e] at h; simp at h,c115⟩
theorem n116 : (Tryz.f116.name == "runtime.NumGoroutine") = false := by kernel_rfl
theorem q116 : Good 116 t116 := ⟨a116,Tryz.f116,Tryz.func116,fun e => by have h := n116; rw [e] at h; simp at h,c116⟩
theorem n117 : (Tryz.f117.name == "runtime.NumGoroutine") = false := by kernel_rfl
theorem q117 : Good 117 t117 := ⟨a117,Tryz.f117,Tryz.func117,fun e => by have h := n117; rw [e] at h; simp at h,c117⟩
theorem n118 : (Tryz.f118.name == "runtime.NumGoroutine") = false := by kernel_rfl
theorem q118 : Good 118 t118 := ⟨a118,Tryz.f118,Tryz.func118,fun e => by have h := n118; rw [e] at h; simp at h,c118⟩
theorem n119 : (Tryz.f119.name == "runtime.NumGoroutine") = false := by kernel_rfl
theorem q119 : Good 119 t119 := ⟨a119,Tryz.f119,Tryz.func119,fun e => by have h := n119; rw [e] at h; simp at h,c119⟩
theorem n120 : (Tryz.f120.name == "runtime.NumGoroutine") = false := by kernel_rfl
theorem q120 : Good 120 t120 := ⟨a120,Tryz.f120,Tryz.func120,fun e => by have h := n120; rw [e] at h; simp at h,c120⟩
theorem n121 : (Tryz.f121.name == "runtime.NumGoroutine") = false := by kernel_rfl
theorem q121 : Good 121 t121 := ⟨a121,Tryz.f121,Tryz.func121,fun e => by have h := n121; rw [e] at h; simp at h,c121⟩
theorem n125 : (Tryz.f125.name == "runtime.NumGoroutine") = false := by kernel_rfl
theorem q125 : Good 125 t125 := ⟨a125,Tryz.f125,Tryz.func125,fun e => by have h := n125; rw [e] at h; simp at h,c125⟩
theorem n138 : (Tryz.f138.name == "runtime.NumGoroutine") = false := by kernel_rfl
theorem q138 : Good 138 t138 := ⟨a138,Tryz.f138,Tryz.func138,fun e => by have h := n138; rw [e] at h; simp at h,c138⟩
theorem n139 : (Tryz.f139.name == "runtime.NumGoroutine") = false := by kernel_rfl
theorem q139 : Good 139 t139 := ⟨a139,Tryz.f139,Tryz.func139,fun e => by have h := n139; rw [e] at h; simp at h,c139⟩
theorem n141 : (Tryz.f141.name == "runtime.NumGoroutine") = false := by kernel_rfl
theorem q141 : Good 141 t141 := ⟨a141,Tryz.f141,Tryz.func141,fun e => by have h := n141; rw [e] at h; simp at h,c141⟩
theorem n142 : (Tryz.f142.name == "runtime.NumGoroutine") = false := by kernel_rfl
theorem q142 : Good 142 t142 := ⟨a142,Tryz.f142,Tryz.func142,fun e => by have h := n142; rw [e] at h; simp at h,c142⟩
theorem n143 : (Tryz.f143.name == "runtime.NumGoroutine") = false := by kernel_rfl
theorem q143 : Good 143 t143 := ⟨a143,Tryz.f143,Tryz.func143,fun e => by have h := n143; rw [e] at h; simp at h,c143⟩
theorem n144 : (Tryz.f144.name == "runtime.NumGoroutine") = false := by kernel_rfl
theorem q144 : Good 144 t144 := ⟨a144,Tryz.f144,Tryz.func144,fun e => by have h := n144; rw [e] at h; simp at h,c144⟩
theorem n145 : (Tryz.f145.name == "runtime.NumGoroutine") = false := by kernel_rfl
theorem q145 : Good 145 t145 := ⟨a145,Tryz.f145,Tryz.func145,fun e => by have h := n145; rw [e] at h; simp at h,c145⟩
theorem n146 : (Tryz.f146.name == "runtime.NumGoroutine") = false := by kernel_rfl
theorem q146 : Good 146 t146 := ⟨a146,Tryz.f146,Tryz.func146,fun e => by have h := n146; rw [e] at h; simp at h,c146⟩
theorem n147 : (Tryz.f147.name == "runtime.NumGoroutine") = false := by kernel_rfl
theorem q147 : Good 147 t147 := ⟨a147,Tryz.f147,Tryz.func147,fun e => by have h := n147; rw [e] at h; simp at h,c147⟩
theorem n148 : (Tryz.f148.name == "runtime.NumGoroutine") = false := by kernel_rfl
theorem q148 : Good 148 t148 := ⟨a148,Tryz.f148,Tryz.func148,fun e => by have h := n148; rw [e] at h; simp at h,c148⟩
theorem n149 : (Tryz.f149.name == "runtime.NumGoroutine") = false := by kernel_rfl
theorem q149 : Good 149 t149 := ⟨a149,Tryz.f149,Tryz.func149,fun e => by have h := n149; rw [e] at h; simp at h,c149⟩
theorem n150 : (Tryz.f150.name == "runtime.NumGoroutine") = false := by kernel_rfl
theorem q150 : Good 150 t150 := ⟨a150,Tryz.f150,Tryz.func150,fun e => by have h := n150; rw [e] at h; simp at h,c150⟩
theorem n151 : (Tryz.f151.name == "runtime.NumGoroutine") = false := by kernel_rfl
theorem q151 : Good 151 t151 := ⟨a151,Tryz.f151,Tryz.func151,fun e => by have h := n151; rw [e] at h; simp at h,c151⟩
theorem n152 : (Tryz.f152.name == "runtime.NumGoroutine") = false := by kernel_rfl
theorem q152 : Good 152 t152 := ⟨a152,Tryz.f152,Tryz.func152,fun e => by have h := n152; rw [e] at h; simp at h,c152⟩
theorem n153 : (Tryz.f153.name == "runtime.NumGoroutine") = false := by kernel_rfl
theorem q153 : Good 153 t153 := ⟨a153,Tryz.f153,Tryz.func153,fun e => by have h := n153; rw [e] at h; simp at h,c153⟩
theorem n157 : (Tryz.f157.name == "runtime.NumGoroutine") = false := by kernel_rfl
theorem q157 : Good 157 t157 := ⟨a157,Tryz.f157,Tryz.func157,fun e => by have h := n157; rw [e] at h; simp at h,c157⟩
theorem n158 : (Tryz.f158.name == "runtime.NumGoroutine") = false := by kernel_rfl
theorem q158 : Good 158 t158 := ⟨a158,Tryz.f158,Tryz.func158,fun e => by have h := n158; rw [e] at h; simp at h,c158⟩
theorem n161 : (Tryz.f161.name == "runtime.NumGoroutine") = false := by kernel_rfl
theorem q161 : Good 161 t161 := ⟨a161,Tryz.f161,Tryz.func161,fun e => by have h := n161; rw [e] at h; simp at h,c161⟩
theorem n162 : (Tryz.f162.name == "runtime.NumGoroutine") = false := by kernel_rfl
theorem q162 : Good 162 t162 := ⟨a162,Tryz.f162,Tryz.func162,fun e => by have h := n162; rw [e] at h; simp at h,c162⟩
theorem n163 : (Tryz.f163.name == "runtime.NumGoroutine") = false := by kernel_rfl
theorem q163 : Good 163 t163 := ⟨a163,Tryz.f163,Tryz.func163,fun e => by have h := n163; rw [e] at h; simp at h,c163⟩
theorem n164 : (Tryz.f164.name == "runtime.NumGoroutine") = false := by kernel_rfl
theorem q164 : Good 164 t164 := ⟨a164,Tryz.f164,Tryz.func164,fun e => by have h := n164; rw [e] at h; simp at h,c164⟩
theorem n166 : (Tryz.f166.name == "runtime.NumGoroutine") = false := by kernel_rfl
theorem q166 : Good 166 t166 := ⟨a166,Tryz.f166,Tryz.func166,fun e => by have h := n166; rw [e] at h; simp at h,c166⟩
theorem n167 : (Tryz.f167.name == "runtime.NumGoroutine") = false := by kernel_rfl
theorem q167 : Good 167 t167 := ⟨a167,Tryz.f167,Tryz.func167,fun e => by have h := n167; rw [e] at h; simp at h,c167⟩
theorem n168 : (Tryz.f168.name == "runtime.NumGoroutine") = false := by kernel_rfl
theorem q168 : Good 168 t168 := ⟨a168,Tryz.f168,Tryz.func168,fun e => by have h := n168; rw [e] at h; simp at h,c168⟩
theorem n169 : (Tryz.f169.name == "runtime.NumGoroutine") = false := by kernel_rfl
theorem q169 : Good 169 t169 := ⟨a169,Tryz.f169,Tryz.func169,fun e => by have h := n169; rw [e] at h; simp at h,c169⟩
theorem n170 : (Tryz.f170.name == "runtime.NumGoroutine") = false := by kernel_rfl
theorem q170 : Good 170 t170 := ⟨a170,Tryz.f170,Tryz.func170,fun e => by have h := n170; rw [e] at h; simp at h,c170⟩
theorem n171 : (Tryz.f171.name == "runtime.NumGoroutine") = false := by kernel_rfl
theorem q171 : Good 171 t171 := ⟨a171,Tryz.f171,Tryz.func171,fun e => by have h := n171; rw [e] at h; simp at h,c171⟩
theorem n172 : (Tryz.f172.name == "runtime.NumGoroutine") = false := by kernel_rfl
theorem q172 : Good 172 t172 := ⟨a172,Tryz.f172,Tryz.func172,fun e => by have h := n172; rw [e] at h; simp at h,c172⟩
theorem n173 : (Tryz.f173.name == "runtime.NumGoroutine") = false := by kernel_rfl
theorem q173 : Good 173 t173 := ⟨a173,Tryz.f173,Tryz.func173,fun e => by have h := n173; rw [e] at h; simp at h,c173⟩
theorem n184 : (Tryz.f184.name == "runtime.NumGoroutine") = false := by kernel_rfl
theorem q184 : Good 184 t184 := ⟨a184,Tryz.f184,Tryz.func184,fun e => by have h := n184; rw [e] at h; simp at h,c184⟩
theorem n185 : (Tryz.f185.name == "runtime.NumGoroutine") = false := by kernel_rfl
theorem q185 : Good 185 t185 := ⟨a185,Tryz.f185,Tryz.func185,fun e => by have h := n185; rw [e] at h; simp at h,c185⟩
theorem n186 : (Tryz.f186.name == "runtime.NumGoroutine") = false := by kernel_rfl
theorem q186 : Good 186 t186 := ⟨a186,Tryz.f186,Tryz.func186,fun e => by have h := n186; rw [e] at h; simp at h,c186⟩
theorem n187 : (Tryz.f187.name == "runtime.NumGoroutine") = false := by kernel_rfl
theorem q187 : Good 187 t187 := ⟨a187,Tryz.f187,Tryz.func187,fun e => by have h := n187; rw [e] at h; simp at h,c187⟩
theorem n188 : (Tryz.f188.name == "runtime.NumGoroutine") = false := by kernel_rfl
theorem q188 : Good 188 t188 := ⟨a188,Tryz.f188,Tryz.func188,fun e => by have h := n188; rw [e] at h; simp at h,c188⟩
theorem n189 : (Tryz.f189.name == "runtime.NumGoroutine") = false := by kernel_rfl
theorem q189 : Good 189 t189 := ⟨a189,Tryz.f189,Tryz.func189,fun e => by have h := n189; rw [e] at h; simp at h,c189⟩
theorem n190 : (Tryz.f190.name == "runtime.NumGoroutine") = false := by kernel_rfl
theorem q190 : Good 190 t190 := ⟨a190,Tryz.f190,Tryz.func190,fun e => by have h := n190; rw [e] at h; simp at h,c190⟩
theorem n191 : (Tryz.f191.name == "runtime.NumGoroutine") = false := by kernel_rfl
theorem q191 : Good 191 t191 := ⟨a191,Tryz.f191,Tryz.func191,fun e => by have h := n191; rw [e] at h; simp at h,c191⟩
theorem n192 : (Tryz.f192.name == "runtime.NumGoroutine") = false := by kernel_rfl
theorem q192 : Good 192 t192 := ⟨a192,Tryz.f192,Tryz.func192,fun e => by have h := n192; rw [e] at h; simp at h,c192⟩
theorem n199 : (Tryz.f199.name == "runtime.NumGoroutine") = false := by kernel_rfl
theorem q199 : Good 199 t199 := ⟨a199,Tryz.f199,Tryz.func199,fun e => by have h := n199; rw [e] at h; simp at h,c199⟩
theorem n200 : (Tryz.f200.name == "runtime.NumGoroutine") = false := by kernel_rfl
theorem q200 : Good 200 t200 := ⟨a200,Tryz.f200,Tryz.func200,fun e => by have h := n200; rw [e] at h; simp at h,c200⟩
theorem good : AllAt Good 0 tbl := ⟨q8,q9,q10,q11,q13,q14,q15,q16,q17,q19,q33,q34,q35,q36,q37,q38,q39,q40,q41,q42,q43,q44,q45,q46,q48,q49,q51,q53,q54,q55,q56,q73,q74,q75,q76,q77,q78,q79,q81,q82,q83,q84,q85,q86,q87,q90,q91,q92,q93,q108,q109,q110,q111,q112,q114,q115,q116,q117,q118,q119,q120,q121,q125,q138,q139,q141,q142,q143,q144,q145,q146,q147,q148,q149,q150,q151,q152,q153,q157,q158,q161,q162,q163,q164,q166,q167,q168,q169,q170,q171,q172,q173,q184,q185,q186,q187,q188,q189,q190,q191,q192,q199,q200,trivial⟩
theorem kok : KOK Tryz.prog opts K := ⟨fun k tf h => allAt_get good k tf h,fun f p h => primAt_ok (prims_ok opts K) h,by kernel_rfl⟩
end Go.Proofs.YtookmpaholmmfaaGreatDoor
