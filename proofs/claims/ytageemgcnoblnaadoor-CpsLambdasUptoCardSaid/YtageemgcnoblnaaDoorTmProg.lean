/- The functions of this seat, compiled for the evaluator TM, a part. By program. Condition: none. -/
import Derived.Test.YtageemgcnoblnaaDoorTmProg1
set_option maxRecDepth 100000
set_option linter.unusedVariables false
namespace Go.Proofs.YtageemgcnoblnaaDoor
open Go Go.TM
def a70 : Ann := { slots := [0,1,4,5,7,8,9,16],lb := [],mu := [],trunc := [],draws := [] }
def t70L0 : TCode := (.seq (.region [s_ 6 (.bin .lss (.loc 5) (.loc 4))])
(.seq (.cond (.loc 6)
.skip
(.exit 0))
(.seq (.block 1
(.seq (.region [o_ (.mov (.loc 5)),s_ 3 (.mov (.reg 0))])
(.seq (.region [o_ (.mov (.loc 1)),o_ (.mov (.loc 0)),o_ (.mov (.loc 3)),o_ (.indexAddrS 5 (.reg 1) (.reg 2)),o_ (.loadN 5 (.reg 3)),s_ 7 (.callv (.reg 0) [(.reg 4)])])
(.cond (.loc 7)
(.seq (.region [o_ (.mov (.loc 3)),s_ 2 (.mov (.reg 0))])
.ret)
.skip))))
(.region [o_ (.bin .add (.loc 5) (i_ 1)),s_ 5 (.mov (.reg 0))]))))
def t70 : TFunc := ⟨2,8,[.loc 2],
(.seq (.region [s_ 2 (.mov (i_ 0))])
(.seq (.seq (.region [o_ (.mov (.loc 0)),s_ 4 (.len .sl (.reg 0)),s_ 5 (.mov (i_ 0))])
(.block 0
(.loop t70L0)))
(.seq (.region [s_ 2 (.mov (i_ (-1)))])
.ret)))⟩
theorem c70 : compFunc Tryd.prog opts a70 Tryd.f70 = some t70 := by kernel_rfl
def a71 : Ann := { slots := [0,1,3,8,18],lb := [],mu := [],trunc := [],draws := [] }
def t71L0 : TCode := (.seq (.seq (.region [o_ (.mov (.loc 2)),s_ 3 (.bin .geq (.reg 0) (i_ 0))])
(.cond (.loc 3)
.skip
(.exit 0)))
(.seq (.block 1
(.seq (.region [o_ (.mov (.loc 0)),o_ (.mov (.loc 2)),o_ (.load1 (.loc 1)),o_ (.mov (.loc 2)),o_ (.indexAddrS 14 (.reg 2) (.reg 3)),o_ (.loadN 14 (.reg 4)),o_ (.callv (.reg 0) [(.reg 1),(.reg 5)]),s_ 4 (.un .not (.reg 6))])
(.cond (.loc 4)
.ret
.skip)))
(.region [o_ (.mov (.loc 2)),o_ (.bin .sub (.reg 0) (i_ 1)),s_ 2 (.mov (.reg 1))])))
def t71 : TFunc := ⟨2,5,[],
(.seq (.region [o_ (.load1 (.loc 1)),o_ (.len .sl (.reg 0)),o_ (.bin .sub (.reg 1) (i_ 1)),s_ 2 (.mov (.reg 2))])
(.block 0
(.loop t71L0)))⟩
theorem c71 : compFunc Tryd.prog opts a71 Tryd.f71 = some t71 := by kernel_rfl
def a72 : Ann := { slots := [0,1,4,6,16],lb := [],mu := [],trunc := [],draws := [] }
def t72 : TFunc := ⟨2,5,[.loc 2],
(.seq (.region [s_ 2 (.mov (.cst (.sl .nil [])))])
(.seq (.seq (.region [o_ (.mov (.loc 1)),s_ 3 (.bin .lss (.reg 0) (i_ 0))])
(.cond (.loc 3)
(.region [o_ (.bad),o_ (.bad)])
.skip))
(.seq (.seq (.region [o_ (.mov (.loc 1)),o_ (.mov (.loc 0)),o_ (.cap (.reg 1)),o_ (.mov (.loc 0)),o_ (.len .sl (.reg 3)),o_ (.bin .sub (.reg 2) (.reg 4)),o_ (.bin .sub (.reg 0) (.reg 5)),s_ 1 (.mov (.reg 6))])
(.seq (.region [o_ (.mov (.loc 1)),s_ 4 (.bin .gtr (.reg 0) (i_ 0))])
(.cond (.loc 4)
(.region [o_ (.mov (.loc 0)),o_ (.mov (.loc 0)),o_ (.cap (.reg 1)),o_ (.slice (.sl 2) (.reg 0) none (some (.reg 2)) none),o_ (.mov (.loc 1)),o_ (.grow 2 16 53 (.reg 3) (.reg 4)),o_ (.mov (.loc 0)),o_ (.len .sl (.reg 6)),o_ (.slice (.sl 2) (.reg 5) none (some (.reg 7)) none),s_ 0 (.mov (.reg 8))])
.skip)))
(.seq (.region [o_ (.mov (.loc 0)),s_ 2 (.mov (.reg 0))])
.ret))))⟩
theorem c72 : compFunc Tryd.prog opts a72 Tryd.f72 = some t72 := by kernel_rfl
def a73 : Ann := { slots := [0,1,3,4,5],lb := [3],mu := [],trunc := [],draws := [(2,⟨[0,0,2,0,8,30,0,64,0,0,512,1536,3584,0,8254,32574,65534,131071,262143],[0,1,2,3,4,6,7,8,9,10,11,12,13],[(5,[7,10,12],[]),(14,[7,10,12],[]),(15,[7],[16]),(17,[],[18])]⟩)] }
def t73 : TFunc := ⟨2,5,[.loc 3],
(.seq (.region [o_ (.boxL 2 (.loc 1)),s_ 3 (.mov (i_ 0))])
(.seq (.region [o_ (.mov (.loc 0)),o_ (.call false false 21 [(.reg 0)]),s_ 4 (.mov (.reg 1))])
(.seq (.draw [0,1,2,3,4,6,7,8,9,10,11,12,13] [(5,[7,10,12],[]),(14,[7,10,12],[]),(15,[7],[16]),(17,[],[18])] [o_ (.mov (.loc 0)),o_ (.mov (.loc 4)),o_ (.lit false [(.int .i64 0)] 1 [(0,(.reg 1))]),o_ (.fieldAddr 2 (.loc 2)),o_ (.load1 (.reg 3)),o_ (.append false 1 8 3 (.reg 2) (.reg 4)),o_ (.fieldAddr 3 (.loc 2)),o_ (.load1 (.reg 6)),o_ (.mov (.loc 0)),o_ (.fieldAddr 4 (.loc 2)),o_ (.load1 (.reg 9)),o_ (.indexAddrS 5 (.reg 10) (i_ 0)),o_ (.loadN 5 (.reg 11)),o_ (.mov (.loc 4)),o_ (.call true false 25 [(.reg 13)]),o_ (.call false false 24 [(.reg 8),(.reg 12),(.reg 14)]),o_ (.build [(.sl .nil []),(.bool false),(.bool false),(.sl .nil []),(.int .i64 0),(.int .i64 0),(.int .i64 0),(.int .i64 0),(.int .i64 0),(.sl .nil []),(.sl .nil [])] [(0,1,(.reg 5)),(1,1,(.reg 7)),(4,7,(.reg 15))]),o_ (.call false false 20 [(.reg 0),(.reg 16)]),s_ 3 (.mov (.reg 17))])
.ret)))⟩
theorem c73 : compFunc Tryd.prog opts a73 Tryd.f73 = some t73 := by kernel_rfl
def a74 : Ann := { slots := [0,1,3,4,5,6],lb := [5,3],mu := [],trunc := [],draws := [(2,⟨[0,0,3,7,0,16,63,127],[0,1,2,3,4],[(5,[0],[6]),(7,[],[])]⟩)] }
def t74 : TFunc := ⟨2,6,[.loc 3,.cell 4 2 true],
(.seq (.region [o_ (.boxL 2 (.loc 1)),s_ 3 (.mov (.cst (.sl .nil []))),o_ (.allocL 4 [(.int .i64 0),(.int .i64 0)])])
(.seq (.region [o_ (.mov (.loc 0)),o_ (.call false false 21 [(.reg 0)]),s_ 5 (.mov (.reg 1))])
(.seq (.draw [0,1,2,3,4] [(5,[0],[6]),(7,[],[])] [o_ (.loadN 5 (.loc 2)),o_ (.mov (.loc 5)),o_ (.build [(.int .i64 0),(.int .i64 0),(.int .i64 0),(.int .i64 0),(.int .i64 0),(.int .i64 0),(.sl .nil []),(.sl .nil []),(.int .i64 0),(.int .i64 0),(.sl .nil []),(.bool false),(.sl .nil []),(.int .i64 0)] [(0,1,(i_ 1)),(8,5,(.reg 0)),(13,1,(.reg 1))]),o_ (.lit false [(.int .i64 0),(.int .i64 0),(.int .i64 0),(.int .i64 0),(.int .i64 0),(.int .i64 0),(.sl .nil []),(.sl .nil []),(.int .i64 0),(.int .i64 0),(.sl .nil []),(.bool false),(.sl .nil []),(.int .i64 0)] 1 [(0,(.reg 2))]),o_ (.mov (.loc 5)),o_ (.call true false 25 [(.reg 4)]),s_ 3 (.mov (.reg 3)),o_ (.store 2 (.loc 4) (.reg 5))])
.ret)))⟩
theorem c74 : compFunc Tryd.prog opts a74 Tryd.f74 = some t74 := by kernel_rfl
def a75 : Ann := { slots := [0,1,2,3,5,6,8,10,12,16],lb := [1],mu := [],trunc := [],draws := [(9,⟨[0,1,0,7],[0,1,2,3],[]⟩),(11,⟨[0,1,0,7],[0,1,2,3],[]⟩)] }
def t75 : TFunc := ⟨1,10,[.loc 2,.loc 3],
(.seq (.region [o_ (.boxL 1 (.loc 0)),s_ 2 (.mov (i_ 0)),s_ 3 (.mov (i_ 0))])
(.seq (.seq (.region [o_ (.fieldAddr 0 (.loc 1)),s_ 4 (.load1 (.reg 0))])
(.block 0
(.seq (.region [o_ (.bin .eql (.loc 4) (i_ 12)),s_ 5 (.mov (.reg 0))])
(.cond (.loc 5)
(.seq (.region [s_ 2 (.mov (i_ 100)),s_ 3 (.mov (i_ 0))])
.ret)
(.seq (.region [o_ (.bin .eql (.loc 4) (i_ 13)),s_ 6 (.mov (.reg 0))])
(.cond (.loc 6)
(.seq (.region [s_ 2 (.mov (i_ 101)),s_ 3 (.mov (i_ 0))])
.ret)
(.seq (.region [o_ (.bin .eql (.loc 4) (i_ 14)),s_ 7 (.mov (.reg 0))])
(.cond (.loc 7)
(.seq (.region [s_ 2 (.mov (i_ 102)),s_ 3 (.mov (i_ 0))])
.ret)
(.seq (.region [o_ (.bin .eql (.loc 4) (i_ 3)),s_ 8 (.mov (.reg 0))])
(.cond (.loc 8)
(.seq (.draw [0,1,2,3] [] [o_ (.fieldAddr 1 (.loc 1)),o_ (.load1 (.reg 0)),s_ 2 (.mov (i_ 103)),s_ 3 (.mov (.reg 1))])
.ret)
(.seq (.region [o_ (.bin .eql (.loc 4) (i_ 5)),s_ 9 (.mov (.reg 0))])
(.cond (.loc 9)
(.seq (.draw [0,1,2,3] [] [o_ (.fieldAddr 1 (.loc 1)),o_ (.load1 (.reg 0)),s_ 2 (.mov (i_ 104)),s_ 3 (.mov (.reg 1))])
.ret)
.skip))))))))))))
(.seq (.region [o_ (.fieldAddr 1 (.loc 1)),o_ (.load1 (.reg 0)),s_ 2 (.mov (.reg 1)),s_ 3 (.mov (i_ 0))])
.ret)))⟩
theorem c75 : compFunc Tryd.prog opts a75 Tryd.f75 = some t75 := by kernel_rfl
def a76 : Ann := { slots := [0,1,2],lb := [],mu := [],trunc := [],draws := [] }
def t76 : TFunc := ⟨1,3,[.loc 2],
(.seq (.region [s_ 1 (.boxH 23 (.loc 0)),s_ 2 (.mov (.cst .nilf))])
(.seq (.region [o_ (.mkFn 96 [] [(.loc 1)]),s_ 2 (.mov (.reg 0))])
.ret))⟩
theorem c76 : compFunc Tryd.prog opts a76 Tryd.f76 = some t76 := by kernel_rfl
def a77 : Ann := { slots := [0,2],lb := [2],mu := [],trunc := [],draws := [] }
def t77 : TFunc := ⟨1,2,[.cell 1 7 true],
(.seq (.region [o_ (.allocL 1 [(.int .i64 0),(.int .i64 0),(.int .i64 0),(.int .i64 0),(.int .i64 0),(.sl .nil []),(.sl .nil [])])])
(.seq (.region [o_ (.mov (.loc 0)),o_ (.build [(.int .i64 0),(.int .i64 0),(.int .i64 0),(.int .i64 0),(.int .i64 0),(.sl .nil []),(.sl .nil [])] [(0,1,(i_ 6)),(5,1,(.reg 0))]),o_ (.store 7 (.loc 1) (.reg 1))])
.ret))⟩
theorem c77 : compFunc Tryd.prog opts a77 Tryd.f77 = some t77 := by kernel_rfl
def a79 : Ann := { slots := [0,2,3,4,5,7,8,17,22],lb := [],mu := [],trunc := [],draws := [] }
def t79L0 : TCode := (.seq (.seq (.region [o_ (.mov (.loc 6)),o_ (.mov (.loc 3)),o_ (.len .sl (.reg 1)),s_ 8 (.bin .lss (.reg 0) (.reg 2))])
(.cond (.loc 8)
.skip
(.exit 0)))
(.seq (.block 1
(.region [o_ (.mov (.loc 5)),o_ (.mov (.loc 3)),o_ (.mov (.loc 6)),o_ (.indexAddrS 2 (.reg 1) (.reg 2)),o_ (.fieldAddr 0 (.reg 3)),o_ (.load1 (.reg 4)),o_ (.lit false [(.int .i64 0)] 1 [(0,(.reg 5))]),o_ (.append false 1 8 3 (.reg 0) (.reg 6)),s_ 5 (.mov (.reg 7))]))
(.region [o_ (.mov (.loc 6)),o_ (.bin .add (.reg 0) (i_ 1)),s_ 6 (.mov (.reg 1))])))
def t79 : TFunc := ⟨1,9,[.loc 1,.loc 2],
(.seq (.region [s_ 1 (.mov (.cst (.sl .nil []))),s_ 2 (.mov (i_ 0))])
(.seq (.region [o_ (.mov (.loc 0)),o_ (.conv .strBytes (.reg 0)),o_ (.call true false 97 [(.reg 1)]),o_ (.mov (.reg 2)),o_ (.extract 0 (.reg 3)),o_ (.extract 1 (.reg 3)),o_ (.extract 2 (.reg 3)),s_ 3 (.mov (.reg 4)),s_ 4 (.mov (.reg 5)),o_ (.mov (.reg 6))])
(.seq (.seq (.region [o_ (.mov (.loc 4)),s_ 7 (.bin .neq (.reg 0) (i_ 0))])
(.cond (.loc 7)
(.seq (.region [o_ (.mov (.loc 4)),s_ 1 (.mov (.cst (.sl .nil []))),s_ 2 (.mov (.reg 0))])
.ret)
.skip))
(.seq (.region [s_ 5 (.mov (.cst (.sl .nil [])))])
(.seq (.seq (.region [s_ 6 (.mov (i_ 0))])
(.block 0
(.loop t79L0)))
(.seq (.region [o_ (.mov (.loc 5)),s_ 1 (.mov (.reg 0)),s_ 2 (.mov (i_ 0))])
.ret))))))⟩
theorem c79 : compFunc Tryd.prog opts a79 Tryd.f79 = some t79 := by kernel_rfl
def a81 : Ann := { slots := [0,2],lb := [],mu := [],trunc := [],draws := [] }
def t81 : TFunc := ⟨1,2,[.loc 1],
(.seq (.region [s_ 1 (.mov (.cst (.bool false)))])
(.seq (.region [o_ (.mov (.loc 0)),o_ (.bin .geq (.reg 0) (i_ 0)),o_ (.mov (.reg 1)),⟨.mov (.loc 0),none,(some (2,true))⟩,⟨.bin .leq (.reg 3) (i_ 1114111),none,(some (2,true))⟩,o_ (.pick (.reg 2) (.reg 4) (.cst (.bool false))),o_ (.mov (.reg 5)),⟨.mov (.loc 0),none,(some (6,true))⟩,⟨.bin .lss (.reg 7) (i_ 55296),none,(some (6,true))⟩,⟨.mov (.reg 8),none,(some (6,true))⟩,⟨.mov (.loc 0),none,(some (9,false))⟩,⟨.bin .gtr (.reg 10) (i_ 57343),none,(some (9,false))⟩,⟨.pick (.reg 9) (.cst (.bool true)) (.reg 11),none,(some (6,true))⟩,o_ (.pick (.reg 6) (.reg 12) (.cst (.bool false))),s_ 1 (.mov (.reg 13))])
.ret))⟩
theorem c81 : compFunc Tryd.prog opts a81 Tryd.f81 = some t81 := by kernel_rfl
def a84 : Ann := { slots := [0,1,4,5,7,8,9,16],lb := [],mu := [],trunc := [],draws := [] }
def t84L0 : TCode := (.seq (.region [s_ 6 (.bin .lss (.loc 5) (.loc 4))])
(.seq (.cond (.loc 6)
.skip
(.exit 0))
(.seq (.block 1
(.seq (.region [o_ (.mov (.loc 5)),s_ 3 (.mov (.reg 0))])
(.seq (.region [o_ (.mov (.loc 1)),o_ (.mov (.loc 0)),o_ (.mov (.loc 3)),o_ (.indexAddrS 5 (.reg 1) (.reg 2)),o_ (.loadN 5 (.reg 3)),s_ 7 (.callv (.reg 0) [(.reg 4)])])
(.cond (.loc 7)
(.seq (.region [o_ (.mov (.loc 3)),s_ 2 (.mov (.reg 0))])
.ret)
.skip))))
(.region [o_ (.bin .add (.loc 5) (i_ 1)),s_ 5 (.mov (.reg 0))]))))
def t84 : TFunc := ⟨2,8,[.loc 2],
(.seq (.region [s_ 2 (.mov (i_ 0))])
(.seq (.seq (.region [o_ (.mov (.loc 0)),s_ 4 (.len .sl (.reg 0)),s_ 5 (.mov (i_ 0))])
(.block 0
(.loop t84L0)))
(.seq (.region [s_ 2 (.mov (i_ (-1)))])
.ret)))⟩
theorem c84 : compFunc Tryd.prog opts a84 Tryd.f84 = some t84 := by kernel_rfl
def a85 : Ann := { slots := [0,2,3,16],lb := [],mu := [],trunc := [],draws := [] }
def t85 : TFunc := ⟨1,4,[.loc 1],
(.seq (.region [s_ 1 (.mov (.cst (.bool false)))])
(.seq (.region [o_ (.mov (.loc 0)),o_ (.call true false 100 [(.reg 0),(.cst (.str [45]))]),s_ 2 (.mov (.reg 1))])
(.seq (.seq (.region [o_ (.mov (.loc 2)),o_ (.bin .eql (.reg 0) (.cst (.str []))),o_ (.mov (.reg 1)),⟨.mov (.loc 2),none,(some (2,false))⟩,⟨.indexS (.reg 3) (i_ 0),none,(some (2,false))⟩,⟨.bin .eql (.reg 4) (.cst (.int .u8 48)),none,(some (2,false))⟩,⟨.mov (.reg 5),none,(some (2,false))⟩,⟨.mov (.loc 0),none,(some (6,true))⟩,⟨.bin .neq (.reg 7) (.cst (.str [48])),none,(some (6,true))⟩,⟨.pick (.reg 6) (.reg 8) (.cst (.bool false)),none,(some (2,false))⟩,s_ 3 (.pick (.reg 2) (.cst (.bool true)) (.reg 9))])
(.cond (.loc 3)
(.seq (.region [s_ 1 (.mov (.cst (.bool false)))])
.ret)
.skip))
(.seq (.region [o_ (.mov (.loc 2)),o_ (.call false false 101 [(.reg 0),(.fn 102)]),o_ (.un .not (.reg 1)),s_ 1 (.mov (.reg 2))])
.ret))))⟩
theorem c85 : compFunc Tryd.prog opts a85 Tryd.f85 = some t85 := by kernel_rfl
def a86 : Ann := { slots := [0,2],lb := [],mu := [],trunc := [],draws := [] }
def t86 : TFunc := ⟨1,2,[.loc 1],
(.seq (.region [s_ 1 (.mov (.cst (.bool false)))])
(.seq (.region [o_ (.mov (.loc 0)),o_ (.bin .geq (.reg 0) (i_ 0)),o_ (.mov (.reg 1)),⟨.mov (.loc 0),none,(some (2,true))⟩,⟨.bin .leq (.reg 3) (i_ 1114111),none,(some (2,true))⟩,o_ (.pick (.reg 2) (.reg 4) (.cst (.bool false))),o_ (.mov (.reg 5)),⟨.mov (.loc 0),none,(some (6,true))⟩,⟨.conv (.toInt .i32) (.reg 7),none,(some (6,true))⟩,⟨.call true false 103 [(.reg 8)],none,(some (6,true))⟩,o_ (.pick (.reg 6) (.reg 9) (.cst (.bool false))),s_ 1 (.mov (.reg 10))])
.ret))⟩
theorem c86 : compFunc Tryd.prog opts a86 Tryd.f86 = some t86 := by kernel_rfl
def a87 : Ann := { slots := [0,2,3,4,5,6,8,17,20,21,22,23],lb := [8,5],mu := [],trunc := [],draws := [(3,⟨[0,1,0,7],[0,1,2,3],[]⟩)] }
def t87L0 : TCode := (.seq (.region [s_ 11 (.bin .lss (.loc 10) (.loc 9))])
(.seq (.cond (.loc 11)
.skip
(.exit 0))
(.seq (.block 1
(.seq (.region [o_ (.indexAddrS 2 (.loc 8) (.loc 10)),o_ (.loadN 2 (.reg 0)),o_ (.allocL 6 [(.int .i64 0),(.int .i64 0)]),o_ (.store 2 (.reg 2) (.reg 1))])
(.region [o_ (.mov (.loc 5)),o_ (.fieldAddr 0 (.loc 6)),o_ (.load1 (.reg 1)),o_ (.lit false [(.int .i64 0)] 1 [(0,(.reg 2))]),o_ (.append false 1 8 3 (.reg 0) (.reg 3)),s_ 5 (.mov (.reg 4))])))
(.region [o_ (.bin .add (.loc 10) (i_ 1)),s_ 10 (.mov (.reg 0))]))))
def t87 : TFunc := ⟨1,12,[.loc 1,.loc 2],
(.seq (.region [s_ 1 (.mov (.cst (.sl .nil []))),s_ 2 (.mov (i_ 0))])
(.seq (.region [o_ (.mov (.loc 0)),o_ (.conv .strBytes (.reg 0)),o_ (.call true false 104 [(.reg 1)]),o_ (.mov (.reg 2)),o_ (.extract 0 (.reg 3)),o_ (.extract 1 (.reg 3)),o_ (.allocL 4 [(.int .i64 0),(.int .i64 0)]),s_ 3 (.mov (.reg 4)),o_ (.store 2 (.reg 6) (.reg 5))])
(.seq (.seq (.region [o_ (.fieldAddr 0 (.loc 4)),o_ (.load1 (.reg 0)),s_ 7 (.bin .neq (.reg 1) (i_ 0))])
(.cond (.loc 7)
(.seq (.draw [0,1,2,3] [] [o_ (.fieldAddr 0 (.loc 4)),o_ (.load1 (.reg 0)),s_ 1 (.mov (.cst (.sl .nil []))),s_ 2 (.mov (.reg 1))])
.ret)
.skip))
(.seq (.region [s_ 5 (.mov (.cst (.sl .nil [])))])
(.seq (.seq (.region [s_ 8 (.mov (.loc 3)),s_ 9 (.len .sl (.reg 0)),s_ 10 (.mov (i_ 0))])
(.block 0
(.loop t87L0)))
(.seq (.region [o_ (.mov (.loc 5)),s_ 1 (.mov (.reg 0)),s_ 2 (.mov (i_ 0))])
.ret))))))⟩
theorem c87 : compFunc Tryd.prog opts a87 Tryd.f87 = some t87 := by kernel_rfl
def a88 : Ann := { slots := [0,1,2,3,5,6,9,12,15,18,21,24,27,30,44,47,56,67,70,73],lb := [2,1],mu := [],trunc := [],draws := [(19,⟨[0,1,3,7,0,16,55,127,0,256,887,1911,2047,8191],[0,1,4,5,8,9],[(2,[5,9],[3]),(6,[9],[7]),(10,[],[11]),(12,[],[13])]⟩),(25,⟨[0,1,3,7,0,0,32,112,255,511,1023],[0,1,2,3,4,5,6,7,8],[(9,[],[10])]⟩)] }
def t88 : TFunc := ⟨1,20,[.cell 2 4 true,.loc 3],
(.seq (.region [o_ (.boxL 1 (.loc 0)),o_ (.allocL 2 [(.bool false),(.int .i64 0),(.bool false),(.str [])]),s_ 3 (.mov (.cst (.bool false)))])
(.seq (.seq (.region [o_ (.fieldAddr 0 (.loc 1)),s_ 4 (.load1 (.reg 0))])
(.block 0
(.seq (.region [o_ (.bin .eql (.loc 4) (i_ 1)),s_ 5 (.mov (.reg 0))])
(.cond (.loc 5)
(.seq (.region [o_ (.build [(.bool false),(.int .i64 0),(.bool false),(.str [])] [(0,1,(.cst (.bool true))),(1,1,(i_ 0)),(2,1,(.cst (.bool false))),(3,1,(.cst (.str [99])))]),o_ (.store 4 (.loc 2) (.reg 0)),s_ 3 (.mov (.cst (.bool true)))])
.ret)
(.seq (.region [o_ (.bin .eql (.loc 4) (i_ 2)),s_ 6 (.mov (.reg 0))])
(.cond (.loc 6)
(.seq (.region [o_ (.build [(.bool false),(.int .i64 0),(.bool false),(.str [])] [(0,1,(.cst (.bool true))),(1,1,(i_ 0)),(2,1,(.cst (.bool false))),(3,1,(.cst (.str [118])))]),o_ (.store 4 (.loc 2) (.reg 0)),s_ 3 (.mov (.cst (.bool true)))])
.ret)
(.seq (.region [o_ (.bin .eql (.loc 4) (i_ 3)),s_ 7 (.mov (.reg 0))])
(.cond (.loc 7)
(.seq (.region [o_ (.build [(.bool false),(.int .i64 0),(.bool false),(.str [])] [(0,1,(.cst (.bool true))),(1,1,(i_ 0)),(2,1,(.cst (.bool false))),(3,1,(.cst (.str [103])))]),o_ (.store 4 (.loc 2) (.reg 0)),s_ 3 (.mov (.cst (.bool true)))])
.ret)
(.seq (.region [o_ (.bin .eql (.loc 4) (i_ 4)),s_ 8 (.mov (.reg 0))])
(.cond (.loc 8)
(.seq (.region [o_ (.build [(.bool false),(.int .i64 0),(.bool false),(.str [])] [(0,1,(.cst (.bool true))),(1,1,(i_ 1)),(2,1,(.cst (.bool false))),(3,1,(.cst (.str [115,101,116,33,32,118])))]),o_ (.store 4 (.loc 2) (.reg 0)),s_ 3 (.mov (.cst (.bool true)))])
.ret)
(.seq (.region [o_ (.bin .eql (.loc 4) (i_ 5)),s_ 9 (.mov (.reg 0))])
(.cond (.loc 9)
(.seq (.region [o_ (.build [(.bool false),(.int .i64 0),(.bool false),(.str [])] [(0,1,(.cst (.bool true))),(1,1,(i_ 1)),(2,1,(.cst (.bool false))),(3,1,(.cst (.str [115,101,116,33,32,103])))]),o_ (.store 4 (.loc 2) (.reg 0)),s_ 3 (.mov (.cst (.bool true)))])
.ret)
(.seq (.region [o_ (.bin .eql (.loc 4) (i_ 6)),s_ 10 (.mov (.reg 0))])
(.cond (.loc 10)
(.seq (.region [o_ (.build [(.bool false),(.int .i64 0),(.bool false),(.str [])] [(0,1,(.cst (.bool false))),(1,1,(i_ 3)),(2,1,(.cst (.bool false))),(3,1,(.cst (.str [105,102])))]),o_ (.store 4 (.loc 2) (.reg 0)),s_ 3 (.mov (.cst (.bool true)))])
.ret)
(.seq (.region [o_ (.bin .eql (.loc 4) (i_ 7)),s_ 11 (.mov (.reg 0))])
(.cond (.loc 11)
(.seq (.region [o_ (.build [(.bool false),(.int .i64 0),(.bool false),(.str [])] [(0,1,(.cst (.bool false))),(1,1,(i_ 1)),(2,1,(.cst (.bool false))),(3,1,(.cst (.str [108,97,109,98,100,97])))]),o_ (.store 4 (.loc 2) (.reg 0)),s_ 3 (.mov (.cst (.bool true)))])
.ret)
(.seq (.region [o_ (.bin .eql (.loc 4) (i_ 8)),s_ 12 (.mov (.reg 0))])
(.cond (.loc 12)
(.seq (.region [o_ (.build [(.bool false),(.int .i64 0),(.bool false),(.str [])] [(0,1,(.cst (.bool false))),(1,1,(i_ 1)),(2,1,(.cst (.bool true))),(3,1,(.cst (.str [99,97,108,108])))]),o_ (.store 4 (.loc 2) (.reg 0)),s_ 3 (.mov (.cst (.bool true)))])
.ret)
(.seq (.region [o_ (.bin .eql (.loc 4) (i_ 9)),s_ 13 (.mov (.reg 0))])
(.cond (.loc 13)
(.seq (.draw [0,1,4,5,8,9] [(2,[5,9],[3]),(6,[9],[7]),(10,[],[11]),(12,[],[13])] [o_ (.fieldAddr 1 (.loc 1)),o_ (.load1 (.reg 0)),o_ (.call true false 92 [(.reg 1)]),o_ (.minmax true [(i_ 0),(.reg 2)]),o_ (.fieldAddr 1 (.loc 1)),o_ (.load1 (.reg 4)),o_ (.call true false 105 [(.reg 5)]),o_ (.build [(.bool false),(.int .i64 0),(.bool false),(.str [])] [(0,1,(.cst (.bool true))),(1,1,(.reg 3)),(2,1,(.cst (.bool false))),(3,1,(.reg 6))]),o_ (.fieldAddr 1 (.loc 1)),o_ (.load1 (.reg 8)),o_ (.call true false 92 [(.reg 9)]),o_ (.bin .geq (.reg 10) (i_ 0)),o_ (.store 4 (.loc 2) (.reg 7)),s_ 3 (.mov (.reg 11))])
.ret)
(.seq (.region [o_ (.bin .eql (.loc 4) (i_ 10)),s_ 14 (.mov (.reg 0))])
(.cond (.loc 14)
(.seq (.region [o_ (.build [(.bool false),(.int .i64 0),(.bool false),(.str [])] [(0,1,(.cst (.bool false))),(1,1,(i_ 1)),(2,1,(.cst (.bool true))),(3,1,(.cst (.str [98,101,103,105,110])))]),o_ (.store 4 (.loc 2) (.reg 0)),s_ 3 (.mov (.cst (.bool true)))])
.ret)
(.seq (.region [o_ (.bin .eql (.loc 4) (i_ 11)),s_ 15 (.mov (.reg 0))])
(.cond (.loc 15)
(.seq (.seq (.region [o_ (.fieldAddr 1 (.loc 1)),o_ (.load1 (.reg 0)),o_ (.bin .lss (.reg 1) (i_ 0)),o_ (.mov (.reg 2)),⟨.fieldAddr 1 (.loc 1),none,(some (3,false))⟩,⟨.load1 (.reg 4),none,(some (3,false))⟩,⟨.bin .gtr (.reg 5) (i_ 2),none,(some (3,false))⟩,s_ 16 (.pick (.reg 3) (.cst (.bool true)) (.reg 6))])
(.cond (.loc 16)
(.seq (.region [o_ (.build [(.bool false),(.int .i64 0),(.bool false),(.str [])] []),o_ (.store 4 (.loc 2) (.reg 0)),s_ 3 (.mov (.cst (.bool false)))])
.ret)
.skip))
(.seq (.draw [0,1,2,3,4,5,6,7,8] [(9,[],[10])] [o_ (.fieldAddr 1 (.loc 1)),o_ (.load1 (.reg 0)),o_ (.bin .add (.reg 1) (i_ 1)),o_ (.minmax false [(.reg 2),(i_ 2)]),o_ (.build [(.str []),(.str []),(.str [])] [(0,1,(.cst (.str [99,97,108,108,47,99,99]))),(1,1,(.cst (.str [97,112,112,108,121]))),(2,1,(.cst (.str [99,97,108,108,45,119,105,116,104,45,118,97,108,117,101,115])))]),o_ (.fieldAddr 1 (.loc 1)),o_ (.load1 (.reg 5)),o_ (.indexA 3 1 false (.reg 4) (.reg 6)),o_ (.build [(.bool false),(.int .i64 0),(.bool false),(.str [])] [(0,1,(.cst (.bool true))),(1,1,(.reg 3)),(2,1,(.cst (.bool false))),(3,1,(.reg 7))]),o_ (.store 4 (.loc 2) (.reg 8)),s_ 3 (.mov (.cst (.bool true)))])
.ret))
(.seq (.region [o_ (.bin .eql (.loc 4) (i_ 12)),s_ 17 (.mov (.reg 0))])
(.cond (.loc 17)
(.seq (.region [o_ (.build [(.bool false),(.int .i64 0),(.bool false),(.str [])] [(0,1,(.cst (.bool false))),(1,1,(i_ 1)),(2,1,(.cst (.bool false))),(3,1,(.cst (.str [98,111,120])))]),o_ (.store 4 (.loc 2) (.reg 0)),s_ 3 (.mov (.cst (.bool true)))])
.ret)
(.seq (.region [o_ (.bin .eql (.loc 4) (i_ 13)),s_ 18 (.mov (.reg 0))])
(.cond (.loc 18)
(.seq (.region [o_ (.build [(.bool false),(.int .i64 0),(.bool false),(.str [])] [(0,1,(.cst (.bool false))),(1,1,(i_ 1)),(2,1,(.cst (.bool false))),(3,1,(.cst (.str [117,110,98,111,120])))]),o_ (.store 4 (.loc 2) (.reg 0)),s_ 3 (.mov (.cst (.bool true)))])
.ret)
(.seq (.region [o_ (.bin .eql (.loc 4) (i_ 14)),s_ 19 (.mov (.reg 0))])
(.cond (.loc 19)
(.seq (.region [o_ (.build [(.bool false),(.int .i64 0),(.bool false),(.str [])] [(0,1,(.cst (.bool false))),(1,1,(i_ 2)),(2,1,(.cst (.bool false))),(3,1,(.cst (.str [115,101,116,45,98,111,120,33])))]),o_ (.store 4 (.loc 2) (.reg 0)),s_ 3 (.mov (.cst (.bool true)))])
.ret)
.skip))))))))))))))))))))))))))))))
(.seq (.region [o_ (.build [(.bool false),(.int .i64 0),(.bool false),(.str [])] []),o_ (.store 4 (.loc 2) (.reg 0)),s_ 3 (.mov (.cst (.bool false)))])
.ret)))⟩
theorem c88 : compFunc Tryd.prog opts a88 Tryd.f88 = some t88 := by kernel_rfl
def a89 : Ann := { slots := [0,1,4],lb := [],mu := [],trunc := [],draws := [] }
def t89 : TFunc := ⟨2,3,[.loc 2],
(.seq (.region [s_ 2 (.mov (.cst (.bool false)))])
(.seq (.region [o_ (.mov (.loc 0)),o_ (.bin .geq (.reg 0) (i_ 0)),o_ (.mov (.reg 1)),⟨.mov (.loc 0),none,(some (2,true))⟩,⟨.mov (.loc 1),none,(some (2,true))⟩,⟨.bin .lss (.reg 3) (.reg 4),none,(some (2,true))⟩,o_ (.pick (.reg 2) (.reg 5) (.cst (.bool false))),s_ 2 (.mov (.reg 6))])
.ret))⟩
theorem c89 : compFunc Tryd.prog opts a89 Tryd.f89 = some t89 := by kernel_rfl
def a90 : Ann := { slots := [0,1,4],lb := [],mu := [],trunc := [],draws := [] }
def t90 : TFunc := ⟨2,3,[.loc 2],
(.seq (.region [s_ 2 (.mov (.cst (.bool false)))])
(.seq (.region [o_ (.mov (.loc 0)),o_ (.mov (.loc 1)),o_ (.call false false 106 [(.reg 0),(.reg 1)]),o_ (.bin .geq (.reg 2) (i_ 0)),s_ 2 (.mov (.reg 3))])
.ret))⟩
theorem c90 : compFunc Tryd.prog opts a90 Tryd.f90 = some t90 := by kernel_rfl
def a91 : Ann := { slots := [0,1,2,4],lb := [],mu := [],trunc := [],draws := [(1,⟨[0,0,0,4,12,28,60,127,255,511],[0,1,2,3,4,5,6],[(7,[],[8,9])]⟩)] }
def t91 : TFunc := ⟨3,4,[.loc 3],
(.seq (.region [s_ 3 (.mov (.cst (.bool false)))])
(.seq (.draw [0,1,2,3,4,5,6] [(7,[],[8,9])] [o_ (.load1 (.loc 1)),o_ (.mov (.loc 0)),o_ (.load1 (.loc 2)),o_ (.nilCheck (.reg 2)),o_ (.fieldAddr 0 (.reg 3)),o_ (.fieldAddr 6 (.reg 4)),o_ (.load1 (.reg 5)),o_ (.callv (.reg 0) [(.reg 1),(.reg 6)]),o_ (.un .not (.reg 7)),s_ 3 (.mov (.reg 8))])
.ret))⟩
theorem c91 : compFunc Tryd.prog opts a91 Tryd.f91 = some t91 := by kernel_rfl
def a92 : Ann := { slots := [0,2,3,10],lb := [3],mu := [],trunc := [],draws := [] }
def t92 : TFunc := ⟨1,4,[.loc 1],
(.seq (.region [s_ 1 (.mov (i_ 0))])
(.seq (.region [o_ (.build [(.int .i64 0),(.int .i64 0),(.int .i64 0),(.int .i64 0),(.int .i64 0),(.int .i64 0),(.int .i64 0),(.int .i64 0),(.int .i64 0),(.int .i64 0),(.int .i64 0),(.int .i64 0),(.int .i64 0),(.int .i64 0),(.int .i64 0),(.int .i64 0),(.int .i64 0),(.int .i64 0),(.int .i64 0),(.int .i64 0),(.int .i64 0),(.int .i64 0),(.int .i64 0),(.int .i64 0),(.int .i64 0),(.int .i64 0),(.int .i64 0),(.int .i64 0),(.int .i64 0),(.int .i64 0),(.int .i64 0),(.int .i64 0),(.int .i64 0),(.int .i64 0),(.int .i64 0),(.int .i64 0),(.int .i64 0),(.int .i64 0),(.int .i64 0),(.int .i64 0),(.int .i64 0),(.int .i64 0)] [(0,1,(i_ 2)),(1,1,(i_ 1)),(2,1,(i_ 2)),(3,1,(i_ 1)),(4,1,(i_ 1)),(5,1,(i_ 2)),(6,1,(i_ 2)),(7,1,(i_ 1)),(8,1,(i_ 2)),(9,1,(i_ 2)),(10,1,(i_ 2)),(11,1,(i_ 2)),(12,1,(i_ 2)),(13,1,(i_ 2)),(14,1,(i_ 2)),(15,1,(i_ 1)),(16,1,(i_ 1)),(17,1,(i_ 1)),(18,1,(i_ 1)),(19,1,(i_ 2)),(20,1,(i_ 1)),(21,1,(i_ 2)),(22,1,(i_ 3)),(23,1,(i_ 1)),(24,1,(i_ 1)),(25,1,(i_ 1)),(26,1,(i_ 1)),(27,1,(i_ 2)),(28,1,(i_ 1)),(29,1,(i_ 2)),(30,1,(i_ 3)),(31,1,(i_ 1)),(32,1,(i_ 2)),(33,1,(i_ 1)),(34,1,(i_ 2)),(35,1,(i_ 3)),(36,1,(i_ 1)),(37,1,(i_ 0)),(38,1,(i_ 1)),(39,1,(i_ 1)),(40,1,(i_ 0)),(41,1,(i_ 0))]),o_ (.allocL 2 [(.int .i64 0),(.int .i64 0),(.int .i64 0),(.int .i64 0),(.int .i64 0),(.int .i64 0),(.int .i64 0),(.int .i64 0),(.int .i64 0),(.int .i64 0),(.int .i64 0),(.int .i64 0),(.int .i64 0),(.int .i64 0),(.int .i64 0),(.int .i64 0),(.int .i64 0),(.int .i64 0),(.int .i64 0),(.int .i64 0),(.int .i64 0),(.int .i64 0),(.int .i64 0),(.int .i64 0),(.int .i64 0),(.int .i64 0),(.int .i64 0),(.int .i64 0),(.int .i64 0),(.int .i64 0),(.int .i64 0),(.int .i64 0),(.int .i64 0),(.int .i64 0),(.int .i64 0),(.int .i64 0),(.int .i64 0),(.int .i64 0),(.int .i64 0),(.int .i64 0),(.int .i64 0),(.int .i64 0)]),o_ (.store 42 (.reg 1) (.reg 0))])
(.seq (.seq (.region [o_ (.mov (.loc 0)),o_ (.bin .lss (.reg 0) (i_ 0)),o_ (.mov (.reg 1)),⟨.mov (.loc 0),none,(some (2,false))⟩,⟨.bin .geq (.reg 3) (i_ 42),none,(some (2,false))⟩,s_ 3 (.pick (.reg 2) (.cst (.bool true)) (.reg 4))])
(.cond (.loc 3)
(.seq (.region [s_ 1 (.mov (i_ (-1)))])
.ret)
.skip))
(.seq (.region [o_ (.mov (.loc 0)),o_ (.indexAddrA 42 1 (.loc 2) (.reg 0)),o_ (.load1 (.reg 1)),s_ 1 (.mov (.reg 2))])
.ret))))⟩
theorem c92 : compFunc Tryd.prog opts a92 Tryd.f92 = some t92 := by kernel_rfl
def a96 : Ann := { slots := [0,1,3,8,18],lb := [],mu := [],trunc := [],draws := [] }
def t96L0 : TCode := (.seq (.seq (.region [o_ (.mov (.loc 2)),s_ 3 (.bin .geq (.reg 0) (i_ 0))])
(.cond (.loc 3)
.skip
(.exit 0)))
(.seq (.block 1
(.seq (.region [o_ (.mov (.loc 0)),o_ (.mov (.loc 2)),o_ (.load1 (.loc 1)),o_ (.mov (.loc 2)),o_ (.indexAddrS 1 (.reg 2) (.reg 3)),o_ (.load1 (.reg 4)),o_ (.callv (.reg 0) [(.reg 1),(.reg 5)]),s_ 4 (.un .not (.reg 6))])
(.cond (.loc 4)
.ret
.skip)))
(.region [o_ (.mov (.loc 2)),o_ (.bin .sub (.reg 0) (i_ 1)),s_ 2 (.mov (.reg 1))])))
def t96 : TFunc := ⟨2,5,[],
(.seq (.region [o_ (.load1 (.loc 1)),o_ (.len .sl (.reg 0)),o_ (.bin .sub (.reg 1) (i_ 1)),s_ 2 (.mov (.reg 2))])
(.block 0
(.loop t96L0)))⟩
theorem c96 : compFunc Tryd.prog opts a96 Tryd.f96 = some t96 := by kernel_rfl
def a97 : Ann := { slots := [0,2,3,4,5,6,7,8,9,13,22],lb := [],mu := [],trunc := [],draws := [] }
def t97L0 : TCode := (.seq (.seq (.region [o_ (.mov (.loc 5)),o_ (.mov (.loc 0)),o_ (.len .sl (.reg 1)),s_ 9 (.bin .lss (.reg 0) (.reg 2))])
(.cond (.loc 9)
.skip
(.exit 0)))
(.block 1
(.seq (.region [o_ (.mov (.loc 0)),o_ (.mov (.loc 5)),o_ (.call true false 110 [(.reg 0),(.reg 1)]),o_ (.mov (.reg 2)),o_ (.extract 0 (.reg 3)),o_ (.extract 1 (.reg 3)),o_ (.extract 2 (.reg 3)),s_ 6 (.mov (.reg 4)),s_ 7 (.mov (.reg 5)),s_ 8 (.mov (.reg 6))])
(.seq (.seq (.region [o_ (.mov (.loc 8)),s_ 10 (.bin .neq (.reg 0) (i_ 0))])
(.cond (.loc 10)
(.seq (.region [o_ (.mov (.loc 5)),s_ 1 (.mov (.cst (.sl .nil []))),s_ 2 (.mov (i_ 4)),s_ 3 (.mov (.reg 0))])
.ret)
.skip))
(.seq (.region [o_ (.mov (.loc 4)),o_ (.mov (.loc 6)),o_ (.mov (.loc 5)),o_ (.build [(.int .i64 0),(.int .i64 0)] [(0,1,(.reg 1)),(1,1,(.reg 2))]),o_ (.lit false [(.int .i64 0),(.int .i64 0)] 1 [(0,(.reg 3))]),o_ (.append false 2 16 161 (.reg 0) (.reg 4)),s_ 4 (.mov (.reg 5))])
(.region [o_ (.mov (.loc 5)),o_ (.mov (.loc 7)),o_ (.bin .add (.reg 0) (.reg 1)),s_ 5 (.mov (.reg 2))]))))))
def t97 : TFunc := ⟨1,11,[.loc 1,.loc 2,.loc 3],
(.seq (.region [s_ 1 (.mov (.cst (.sl .nil []))),s_ 2 (.mov (i_ 0)),s_ 3 (.mov (i_ 0))])
(.seq (.region [s_ 4 (.mov (.cst (.sl .nil [])))])
(.seq (.region [s_ 5 (.mov (i_ 0))])
(.seq (.block 0
(.loop t97L0))
(.seq (.region [o_ (.mov (.loc 4)),s_ 1 (.mov (.reg 0)),s_ 2 (.mov (i_ 0)),s_ 3 (.mov (i_ 0))])
.ret)))))⟩
theorem c97 : compFunc Tryd.prog opts a97 Tryd.f97 = some t97 := by kernel_rfl
def a100 : Ann := { slots := [0,1,4],lb := [],mu := [],trunc := [],draws := [] }
def t100 : TFunc := ⟨2,3,[.loc 2],
(.seq (.region [s_ 2 (.mov (.cst (.str [])))])
(.seq (.region [o_ (.mov (.loc 0)),o_ (.mov (.loc 1)),o_ (.call true false 111 [(.reg 0),(.reg 1)]),s_ 2 (.mov (.reg 2))])
.ret))⟩
theorem c100 : compFunc Tryd.prog opts a100 Tryd.f100 = some t100 := by kernel_rfl
def a101 : Ann := { slots := [0,1,4],lb := [],mu := [],trunc := [],draws := [] }
def t101 : TFunc := ⟨2,3,[.loc 2],
(.seq (.region [s_ 2 (.mov (.cst (.bool false)))])
(.seq (.region [o_ (.mov (.loc 0)),o_ (.mov (.loc 1)),o_ (.call false false 112 [(.reg 0),(.reg 1)]),o_ (.bin .geq (.reg 2) (i_ 0)),s_ 2 (.mov (.reg 3))])
.ret))⟩
theorem c101 : compFunc Tryd.prog opts a101 Tryd.f101 = some t101 := by kernel_rfl
def a102 : Ann := { slots := [0,2],lb := [],mu := [],trunc := [],draws := [] }
def t102 : TFunc := ⟨1,2,[.loc 1],
(.seq (.region [s_ 1 (.mov (.cst (.bool false)))])
(.seq (.region [o_ (.mov (.loc 0)),o_ (.bin .lss (.reg 0) (.cst (.int .i32 48))),o_ (.mov (.reg 1)),⟨.mov (.loc 0),none,(some (2,false))⟩,⟨.bin .gtr (.reg 3) (.cst (.int .i32 57)),none,(some (2,false))⟩,o_ (.pick (.reg 2) (.cst (.bool true)) (.reg 4)),s_ 1 (.mov (.reg 5))])
.ret))⟩
theorem c102 : compFunc Tryd.prog opts a102 Tryd.f102 = some t102 := by kernel_rfl
def a103 : Ann := { slots := [0,2,3,10],lb := [],mu := [],trunc := [],draws := [] }
def t103 : TFunc := ⟨1,4,[.loc 1],
(.seq (.region [s_ 1 (.mov (.cst (.bool false)))])
(.seq (.block 0
(.seq (.region [o_ (.mov (.loc 0)),o_ (.bin .leq (.cst (.int .i32 0)) (.reg 0)),o_ (.mov (.reg 1)),⟨.mov (.loc 0),none,(some (2,true))⟩,⟨.bin .lss (.reg 3) (.cst (.int .i32 55296)),none,(some (2,true))⟩,o_ (.pick (.reg 2) (.reg 4) (.cst (.bool false))),s_ 2 (.mov (.reg 5))])
(.cond (.loc 2)
(.seq (.region [s_ 1 (.mov (.cst (.bool true)))])
.ret)
(.seq (.region [o_ (.mov (.loc 0)),o_ (.bin .lss (.cst (.int .i32 57343)) (.reg 0)),o_ (.mov (.reg 1)),⟨.mov (.loc 0),none,(some (2,true))⟩,⟨.bin .leq (.reg 3) (.cst (.int .i32 1114111)),none,(some (2,true))⟩,o_ (.pick (.reg 2) (.reg 4) (.cst (.bool false))),s_ 3 (.mov (.reg 5))])
(.cond (.loc 3)
(.seq (.region [s_ 1 (.mov (.cst (.bool true)))])
.ret)
.skip)))))
(.seq (.region [s_ 1 (.mov (.cst (.bool false)))])
.ret)))⟩
theorem c103 : compFunc Tryd.prog opts a103 Tryd.f103 = some t103 := by kernel_rfl
def a104 : Ann := { slots := [0,2,3,4,5,6,8,11,12,13,17,27],lb := [3],mu := [],trunc := [],draws := [] }
def t104L0 : TCode := (.seq (.region [s_ 8 (.nextS (.loc 7)),s_ 9 (.extract 0 (.reg 0))])
(.seq (.cond (.loc 9)
.skip
(.exit 0))
(.block 1
(.seq (.region [o_ (.extract 1 (.loc 8)),o_ (.extract 2 (.loc 8)),s_ 4 (.mov (.reg 0)),s_ 5 (.mov (.reg 1))])
(.seq (.seq (.region [o_ (.mov (.loc 5)),s_ 10 (.bin .eql (.reg 0) (.cst (.int .i32 65533)))])
(.cond (.loc 10)
(.seq (.region [o_ (.mov (.loc 0)),o_ (.mov (.loc 4)),o_ (.slice (.sl 1) (.reg 0) (some (.reg 1)) none none),o_ (.call true false 113 [(.reg 2)]),o_ (.mov (.reg 3)),o_ (.extract 0 (.reg 4)),o_ (.extract 1 (.reg 4)),o_ (.mov (.reg 5)),s_ 6 (.mov (.reg 6))])
(.seq (.region [o_ (.mov (.loc 5)),o_ (.mov (.loc 6)),s_ 11 (.call true false 114 [(.reg 0),(.reg 1)])])
(.cond (.loc 11)
(.seq (.region [o_ (.mov (.loc 4)),o_ (.build [(.int .i64 0),(.int .i64 0)] [(0,1,(i_ 4)),(1,1,(.reg 0))]),s_ 1 (.mov (.cst (.sl .nil []))),o_ (.store 2 (.loc 2) (.reg 1))])
.ret)
.skip)))
.skip))
(.region [o_ (.mov (.loc 3)),o_ (.mov (.loc 5)),o_ (.conv (.toInt .i64) (.reg 1)),o_ (.mov (.loc 4)),o_ (.build [(.int .i64 0),(.int .i64 0)] [(0,1,(.reg 2)),(1,1,(.reg 3))]),o_ (.lit false [(.int .i64 0),(.int .i64 0)] 1 [(0,(.reg 4))]),o_ (.append false 2 16 170 (.reg 0) (.reg 5)),s_ 3 (.mov (.reg 6))]))))))
def t104 : TFunc := ⟨1,12,[.loc 1,.cell 2 2 true],
(.seq (.region [s_ 1 (.mov (.cst (.sl .nil []))),o_ (.allocL 2 [(.int .i64 0),(.int .i64 0)])])
(.seq (.region [s_ 3 (.mov (.cst (.sl .nil [])))])
(.seq (.seq (.region [o_ (.mov (.loc 0)),o_ (.conv .bytesStr (.reg 0)),s_ 7 (.range true (.reg 1))])
(.block 0
(.loop t104L0)))
(.seq (.region [o_ (.mov (.loc 3)),o_ (.build [(.int .i64 0),(.int .i64 0)] []),s_ 1 (.mov (.reg 0)),o_ (.store 2 (.loc 2) (.reg 1))])
.ret))))⟩
theorem c104 : compFunc Tryd.prog opts a104 Tryd.f104 = some t104 := by kernel_rfl
def a105 : Ann := { slots := [0,2,3,10],lb := [3],mu := [],trunc := [],draws := [] }
def t105 : TFunc := ⟨1,4,[.loc 1],
(.seq (.region [s_ 1 (.mov (.cst (.str [])))])
(.seq (.region [o_ (.build [(.str []),(.str []),(.str []),(.str []),(.str []),(.str []),(.str []),(.str []),(.str []),(.str []),(.str []),(.str []),(.str []),(.str []),(.str []),(.str []),(.str []),(.str []),(.str []),(.str []),(.str []),(.str []),(.str []),(.str []),(.str []),(.str []),(.str []),(.str []),(.str []),(.str []),(.str []),(.str []),(.str []),(.str []),(.str []),(.str []),(.str []),(.str []),(.str []),(.str []),(.str []),(.str [])] [(0,1,(.cst (.str [101,113,63]))),(1,1,(.cst (.str [112,97,105,114,63]))),(2,1,(.cst (.str [99,111,110,115]))),(3,1,(.cst (.str [99,97,114]))),(4,1,(.cst (.str [99,100,114]))),(5,1,(.cst (.str [115,101,116,45,99,97,114,33]))),(6,1,(.cst (.str [115,101,116,45,99,100,114,33]))),(7,1,(.cst (.str [105,110,116,101,103,101,114,63]))),(8,1,(.cst (.str [37,43]))),(9,1,(.cst (.str [37,45]))),(10,1,(.cst (.str [37,42]))),(11,1,(.cst (.str [113,117,111,116,105,101,110,116]))),(12,1,(.cst (.str [114,101,109,97,105,110,100,101,114]))),(13,1,(.cst (.str [37,61]))),(14,1,(.cst (.str [37,60]))),(15,1,(.cst (.str [99,104,97,114,63]))),(16,1,(.cst (.str [99,104,97,114,45,62,105,110,116,101,103,101,114]))),(17,1,(.cst (.str [105,110,116,101,103,101,114,45,62,99,104,97,114]))),(18,1,(.cst (.str [115,116,114,105,110,103,63]))),(19,1,(.cst (.str [109,97,107,101,45,115,116,114,105,110,103]))),(20,1,(.cst (.str [115,116,114,105,110,103,45,108,101,110,103,116,104]))),(21,1,(.cst (.str [115,116,114,105,110,103,45,114,101,102]))),(22,1,(.cst (.str [115,116,114,105,110,103,45,115,101,116,33]))),(23,1,(.cst (.str [115,121,109,98,111,108,63]))),(24,1,(.cst (.str [115,121,109,98,111,108,45,62,115,116,114,105,110,103]))),(25,1,(.cst (.str [115,116,114,105,110,103,45,62,115,121,109,98,111,108]))),(26,1,(.cst (.str [118,101,99,116,111,114,63]))),(27,1,(.cst (.str [109,97,107,101,45,118,101,99,116,111,114]))),(28,1,(.cst (.str [118,101,99,116,111,114,45,108,101,110,103,116,104]))),(29,1,(.cst (.str [118,101,99,116,111,114,45,114,101,102]))),(30,1,(.cst (.str [118,101,99,116,111,114,45,115,101,116,33]))),(31,1,(.cst (.str [98,121,116,101,118,101,99,116,111,114,63]))),(32,1,(.cst (.str [109,97,107,101,45,98,121,116,101,118,101,99,116,111,114]))),(33,1,(.cst (.str [98,121,116,101,118,101,99,116,111,114,45,108,101,110,103,116,104]))),(34,1,(.cst (.str [98,121,116,101,118,101,99,116,111,114,45,117,56,45,114,101,102]))),(35,1,(.cst (.str [98,121,116,101,118,101,99,116,111,114,45,117,56,45,115,101,116,33]))),(36,1,(.cst (.str [112,114,111,99,101,100,117,114,101,63]))),(37,1,(.cst (.str [114,101,97,100,45,117,56]))),(38,1,(.cst (.str [119,114,105,116,101,45,117,56]))),(39,1,(.cst (.str [37,104,97,108,116]))),(40,1,(.cst (.str [101,111,102,45,111,98,106,101,99,116]))),(41,1,(.cst (.str [37,110,111,110,101])))]),o_ (.allocL 2 [(.str []),(.str []),(.str []),(.str []),(.str []),(.str []),(.str []),(.str []),(.str []),(.str []),(.str []),(.str []),(.str []),(.str []),(.str []),(.str []),(.str []),(.str []),(.str []),(.str []),(.str []),(.str []),(.str []),(.str []),(.str []),(.str []),(.str []),(.str []),(.str []),(.str []),(.str []),(.str []),(.str []),(.str []),(.str []),(.str []),(.str []),(.str []),(.str []),(.str []),(.str []),(.str [])]),o_ (.store 42 (.reg 1) (.reg 0))])
(.seq (.seq (.region [o_ (.mov (.loc 0)),o_ (.bin .lss (.reg 0) (i_ 0)),o_ (.mov (.reg 1)),⟨.mov (.loc 0),none,(some (2,false))⟩,⟨.bin .geq (.reg 3) (i_ 42),none,(some (2,false))⟩,s_ 3 (.pick (.reg 2) (.cst (.bool true)) (.reg 4))])
(.cond (.loc 3)
(.seq (.region [s_ 1 (.mov (.cst (.str [])))])
.ret)
.skip))
(.seq (.region [o_ (.mov (.loc 0)),o_ (.indexAddrA 42 1 (.loc 2) (.reg 0)),o_ (.load1 (.reg 1)),s_ 1 (.mov (.reg 2))])
.ret))))⟩
theorem c105 : compFunc Tryd.prog opts a105 Tryd.f105 = some t105 := by kernel_rfl
def a106 : Ann := { slots := [0,1,4,5,7,8,9,16],lb := [],mu := [],trunc := [],draws := [] }
def t106L0 : TCode := (.seq (.region [s_ 6 (.bin .lss (.loc 5) (.loc 4))])
(.seq (.cond (.loc 6)
.skip
(.exit 0))
(.seq (.block 1
(.seq (.region [o_ (.mov (.loc 5)),s_ 3 (.mov (.reg 0))])
(.seq (.region [o_ (.mov (.loc 1)),o_ (.mov (.loc 0)),o_ (.mov (.loc 3)),o_ (.indexAddrS 1 (.reg 1) (.reg 2)),o_ (.load1 (.reg 3)),s_ 7 (.callv (.reg 0) [(.reg 4)])])
(.cond (.loc 7)
(.seq (.region [o_ (.mov (.loc 3)),s_ 2 (.mov (.reg 0))])
.ret)
.skip))))
(.region [o_ (.bin .add (.loc 5) (i_ 1)),s_ 5 (.mov (.reg 0))]))))
def t106 : TFunc := ⟨2,8,[.loc 2],
(.seq (.region [s_ 2 (.mov (i_ 0))])
(.seq (.seq (.region [o_ (.mov (.loc 0)),s_ 4 (.len .sl (.reg 0)),s_ 5 (.mov (i_ 0))])
(.block 0
(.loop t106L0)))
(.seq (.region [s_ 2 (.mov (i_ (-1)))])
.ret)))⟩
theorem c106 : compFunc Tryd.prog opts a106 Tryd.f106 = some t106 := by kernel_rfl
def a110 : Ann := { slots := [0,1,4,5,6,7,8,16,26,50],lb := [],mu := [],trunc := [],draws := [(7,⟨[0,1,3,7,15,31,7,7,7,7,775,1991,4039,8191,16383],[0],[(1,[],[2,3,6,7,8,9,10,11,12]),(4,[11,12],[5,13,14])]⟩)] }
def t110L0 : TCode := (.seq (.seq (.region [o_ (.mov (.loc 5)),o_ (.bin .leq (.reg 0) (i_ 4)),o_ (.mov (.reg 1)),⟨.mov (.loc 1),none,(some (2,true))⟩,⟨.mov (.loc 5),none,(some (2,true))⟩,⟨.bin .add (.reg 3) (.reg 4),none,(some (2,true))⟩,⟨.mov (.loc 0),none,(some (2,true))⟩,⟨.len .sl (.reg 6),none,(some (2,true))⟩,⟨.bin .leq (.reg 5) (.reg 7),none,(some (2,true))⟩,s_ 8 (.pick (.reg 2) (.reg 8) (.cst (.bool false)))])
(.cond (.loc 8)
.skip
(.exit 0)))
(.seq (.block 1
(.seq (.region [o_ (.mov (.loc 0)),o_ (.mov (.loc 1)),o_ (.mov (.loc 1)),o_ (.mov (.loc 5)),o_ (.bin .add (.reg 2) (.reg 3)),o_ (.slice (.sl 1) (.reg 0) (some (.reg 1)) (some (.reg 4)) none),o_ (.call true false 126 [(.reg 5)]),s_ 6 (.mov (.reg 6))])
(.seq (.draw [0] [(1,[],[2,3,6,7,8,9,10,11,12]),(4,[11,12],[5,13,14])] [o_ (.mov (.loc 6)),o_ (.call true false 81 [(.reg 0)]),o_ (.mov (.reg 1)),⟨.mov (.loc 6),none,(some (2,true))⟩,⟨.call true false 127 [(.reg 3)],none,(some (2,true))⟩,⟨.conv .bytesStr (.reg 4),none,(some (2,true))⟩,⟨.mov (.loc 0),none,(some (2,true))⟩,⟨.mov (.loc 1),none,(some (2,true))⟩,⟨.mov (.loc 1),none,(some (2,true))⟩,⟨.mov (.loc 5),none,(some (2,true))⟩,⟨.bin .add (.reg 8) (.reg 9),none,(some (2,true))⟩,⟨.slice (.sl 1) (.reg 6) (some (.reg 7)) (some (.reg 10)) none,none,(some (2,true))⟩,⟨.conv .bytesStr (.reg 11),none,(some (2,true))⟩,⟨.bin .eql (.reg 5) (.reg 12),none,(some (2,true))⟩,s_ 9 (.pick (.reg 2) (.reg 13) (.cst (.bool false)))])
(.cond (.loc 9)
(.seq (.region [o_ (.mov (.loc 6)),o_ (.mov (.loc 5)),s_ 2 (.mov (.reg 0)),s_ 3 (.mov (.reg 1)),s_ 4 (.mov (i_ 0))])
.ret)
.skip))))
(.region [o_ (.mov (.loc 5)),o_ (.bin .add (.reg 0) (i_ 1)),s_ 5 (.mov (.reg 1))])))
def t110 : TFunc := ⟨2,10,[.loc 2,.loc 3,.loc 4],
(.seq (.region [s_ 2 (.mov (i_ 0)),s_ 3 (.mov (i_ 0)),s_ 4 (.mov (i_ 0))])
(.seq (.seq (.region [o_ (.mov (.loc 1)),o_ (.bin .lss (.reg 0) (i_ 0)),o_ (.mov (.reg 1)),⟨.mov (.loc 1),none,(some (2,false))⟩,⟨.mov (.loc 0),none,(some (2,false))⟩,⟨.len .sl (.reg 4),none,(some (2,false))⟩,⟨.bin .geq (.reg 3) (.reg 5),none,(some (2,false))⟩,s_ 7 (.pick (.reg 2) (.cst (.bool true)) (.reg 6))])
(.cond (.loc 7)
(.seq (.region [s_ 2 (.mov (i_ 0)),s_ 3 (.mov (i_ 0)),s_ 4 (.mov (i_ 2))])
.ret)
.skip))
(.seq (.seq (.region [s_ 5 (.mov (i_ 1))])
(.block 0
(.loop t110L0)))
(.seq (.region [s_ 2 (.mov (i_ 0)),s_ 3 (.mov (i_ 0)),s_ 4 (.mov (i_ 4))])
.ret))))⟩
theorem c110 : compFunc Tryd.prog opts a110 Tryd.f110 = some t110 := by kernel_rfl
def a111 : Ann := { slots := [0,1,4,7],lb := [],mu := [],trunc := [],draws := [] }
def t111 : TFunc := ⟨2,4,[.loc 2],
(.seq (.region [s_ 2 (.mov (.cst (.str [])))])
(.seq (.seq (.region [o_ (.mov (.loc 0)),o_ (.mov (.loc 1)),s_ 3 (.call true false 128 [(.reg 0),(.reg 1)])])
(.cond (.loc 3)
(.seq (.region [o_ (.mov (.loc 0)),o_ (.mov (.loc 1)),o_ (.len .str (.reg 1)),o_ (.slice .str (.reg 0) (some (.reg 2)) none none),s_ 2 (.mov (.reg 3))])
.ret)
.skip))
(.seq (.region [o_ (.mov (.loc 0)),s_ 2 (.mov (.reg 0))])
.ret)))⟩
theorem c111 : compFunc Tryd.prog opts a111 Tryd.f111 = some t111 := by kernel_rfl
def a112 : Ann := { slots := [0,1,4],lb := [],mu := [],trunc := [],draws := [] }
def t112 : TFunc := ⟨2,3,[.loc 2],
(.seq (.region [s_ 2 (.mov (i_ 0))])
(.seq (.region [o_ (.mov (.loc 0)),o_ (.mov (.loc 1)),o_ (.call false false 129 [(.reg 0),(.reg 1),(.cst (.bool true))]),s_ 2 (.mov (.reg 2))])
.ret))⟩
theorem c112 : compFunc Tryd.prog opts a112 Tryd.f112 = some t112 := by kernel_rfl
def a113 : Ann := { slots := [0,2,3,5,6,7,8,9,13],lb := [],mu := [],trunc := [],draws := [] }
def t113L0 : TCode := (.seq (.region [s_ 7 (.bin .lss (.loc 6) (.loc 5))])
(.seq (.cond (.loc 7)
.skip
(.exit 0))
(.seq (.block 1
(.seq (.region [o_ (.indexAddrS 1 (.loc 4) (.loc 6)),o_ (.load1 (.reg 0)),s_ 3 (.mov (.reg 1))])
(.seq (.seq (.region [o_ (.mov (.loc 3)),s_ 8 (.bin .lss (.reg 0) (.cst (.int .u8 128)))])
(.cond (.loc 8)
(.seq (.region [o_ (.mov (.loc 3)),o_ (.conv (.toInt .i32) (.reg 0)),s_ 1 (.mov (.reg 1)),s_ 2 (.mov (i_ 1))])
.ret)
.skip))
(.exit 0))))
(.region [o_ (.bin .add (.loc 6) (i_ 1)),s_ 6 (.mov (.reg 0))]))))
def t113 : TFunc := ⟨1,9,[.loc 1,.loc 2],
(.seq (.region [s_ 1 (.mov (.cst (.int .i32 0))),s_ 2 (.mov (i_ 0))])
(.seq (.seq (.region [s_ 4 (.mov (.loc 0)),s_ 5 (.len .sl (.reg 0)),s_ 6 (.mov (i_ 0))])
(.block 0
(.loop t113L0)))
(.seq (.region [o_ (.mov (.loc 0)),o_ (.call true false 130 [(.reg 0)]),o_ (.mov (.reg 1)),o_ (.extract 0 (.reg 2)),o_ (.extract 1 (.reg 2)),s_ 1 (.mov (.reg 3)),s_ 2 (.mov (.reg 4))])
.ret)))⟩
theorem c113 : compFunc Tryd.prog opts a113 Tryd.f113 = some t113 := by kernel_rfl
def a114 : Ann := { slots := [0,1,4],lb := [],mu := [],trunc := [],draws := [] }
def t114 : TFunc := ⟨2,3,[.loc 2],
(.seq (.region [s_ 2 (.mov (.cst (.bool false)))])
(.seq (.region [o_ (.mov (.loc 0)),o_ (.bin .eql (.reg 0) (.cst (.int .i32 65533))),o_ (.mov (.reg 1)),⟨.mov (.loc 1),none,(some (2,true))⟩,⟨.bin .leq (.reg 3) (i_ 1),none,(some (2,true))⟩,o_ (.pick (.reg 2) (.reg 4) (.cst (.bool false))),s_ 2 (.mov (.reg 5))])
.ret))⟩
theorem c114 : compFunc Tryd.prog opts a114 Tryd.f114 = some t114 := by kernel_rfl
def a126 : Ann := { slots := [0,2,3,4,5,13,18,23,29],lb := [],mu := [],trunc := [],draws := [] }
def t126L0 : TCode := (.seq (.seq (.region [o_ (.mov (.loc 4)),o_ (.mov (.loc 0)),o_ (.len .sl (.reg 1)),s_ 8 (.bin .lss (.reg 0) (.reg 2))])
(.cond (.loc 8)
.skip
(.exit 0)))
(.seq (.block 1
(.region [o_ (.mov (.loc 3)),o_ (.bin .mul (i_ 64) (.reg 0)),o_ (.mov (.loc 0)),o_ (.mov (.loc 4)),o_ (.indexAddrS 1 (.reg 2) (.reg 3)),o_ (.load1 (.reg 4)),o_ (.conv (.toInt .i64) (.reg 5)),o_ (.bin .rem (.reg 6) (i_ 64)),o_ (.bin .add (.reg 1) (.reg 7)),s_ 3 (.mov (.reg 8))]))
(.region [o_ (.mov (.loc 4)),o_ (.bin .add (.reg 0) (i_ 1)),s_ 4 (.mov (.reg 1))])))
def t126 : TFunc := ⟨1,9,[.loc 1],
(.seq (.region [s_ 1 (.mov (i_ 0))])
(.seq (.region [o_ (.mov (.loc 0)),o_ (.indexAddrS 1 (.reg 0) (i_ 0)),o_ (.load1 (.reg 1)),o_ (.conv (.toInt .i64) (.reg 2)),s_ 2 (.mov (.reg 3))])
(.seq (.region [o_ (.mov (.loc 2)),s_ 3 (.mov (.reg 0))])
(.seq (.seq (.region [o_ (.mov (.loc 0)),o_ (.len .sl (.reg 0)),s_ 5 (.bin .eql (.reg 1) (i_ 2))])
(.cond (.loc 5)
(.region [o_ (.mov (.loc 2)),o_ (.bin .rem (.reg 0) (i_ 32)),s_ 3 (.mov (.reg 1))])
.skip))
(.seq (.seq (.region [o_ (.mov (.loc 0)),o_ (.len .sl (.reg 0)),s_ 6 (.bin .eql (.reg 1) (i_ 3))])
(.cond (.loc 6)
(.region [o_ (.mov (.loc 2)),o_ (.bin .rem (.reg 0) (i_ 16)),s_ 3 (.mov (.reg 1))])
.skip))
(.seq (.seq (.region [o_ (.mov (.loc 0)),o_ (.len .sl (.reg 0)),s_ 7 (.bin .eql (.reg 1) (i_ 4))])
(.cond (.loc 7)
(.region [o_ (.mov (.loc 2)),o_ (.bin .rem (.reg 0) (i_ 8)),s_ 3 (.mov (.reg 1))])
.skip))
(.seq (.seq (.region [s_ 4 (.mov (i_ 1))])
(.block 0
(.loop t126L0)))
(.seq (.region [o_ (.mov (.loc 3)),s_ 1 (.mov (.reg 0))])
.ret))))))))⟩
theorem c126 : compFunc Tryd.prog opts a126 Tryd.f126 = some t126 := by kernel_rfl
def a127 : Ann := { slots := [0,2,4,9,20],lb := [],mu := [],trunc := [],draws := [] }
def t127 : TFunc := ⟨1,5,[.loc 1],
(.seq (.region [s_ 1 (.mov (.cst (.sl .nil [])))])
(.seq (.seq (.region [o_ (.mov (.loc 0)),s_ 2 (.bin .lss (.reg 0) (i_ 128))])
(.cond (.loc 2)
(.seq (.region [o_ (.mov (.loc 0)),o_ (.conv (.toInt .u8) (.reg 0)),o_ (.lit false [(.int .u8 0)] 1 [(0,(.reg 1))]),s_ 1 (.mov (.reg 2))])
.ret)
.skip))
(.seq (.seq (.region [o_ (.mov (.loc 0)),s_ 3 (.bin .lss (.reg 0) (i_ 2048))])
(.cond (.loc 3)
(.seq (.region [o_ (.mov (.loc 0)),o_ (.bin .quo (.reg 0) (i_ 64)),o_ (.bin .add (i_ 192) (.reg 1)),o_ (.conv (.toInt .u8) (.reg 2)),o_ (.mov (.loc 0)),o_ (.bin .rem (.reg 4) (i_ 64)),o_ (.bin .add (i_ 128) (.reg 5)),o_ (.conv (.toInt .u8) (.reg 6)),o_ (.lit false [(.int .u8 0)] 2 [(0,(.reg 3)),(1,(.reg 7))]),s_ 1 (.mov (.reg 8))])
.ret)
.skip))
(.seq (.seq (.region [o_ (.mov (.loc 0)),s_ 4 (.bin .lss (.reg 0) (i_ 65536))])
(.cond (.loc 4)
(.seq (.region [o_ (.mov (.loc 0)),o_ (.bin .quo (.reg 0) (i_ 4096)),o_ (.bin .add (i_ 224) (.reg 1)),o_ (.conv (.toInt .u8) (.reg 2)),o_ (.mov (.loc 0)),o_ (.bin .quo (.reg 4) (i_ 64)),o_ (.bin .rem (.reg 5) (i_ 64)),o_ (.bin .add (i_ 128) (.reg 6)),o_ (.conv (.toInt .u8) (.reg 7)),o_ (.mov (.loc 0)),o_ (.bin .rem (.reg 9) (i_ 64)),o_ (.bin .add (i_ 128) (.reg 10)),o_ (.conv (.toInt .u8) (.reg 11)),o_ (.lit false [(.int .u8 0)] 3 [(0,(.reg 3)),(1,(.reg 8)),(2,(.reg 12))]),s_ 1 (.mov (.reg 13))])
.ret)
.skip))
(.seq (.region [o_ (.mov (.loc 0)),o_ (.bin .quo (.reg 0) (i_ 262144)),o_ (.bin .add (i_ 240) (.reg 1)),o_ (.conv (.toInt .u8) (.reg 2)),o_ (.mov (.loc 0)),o_ (.bin .quo (.reg 4) (i_ 4096)),o_ (.bin .rem (.reg 5) (i_ 64)),o_ (.bin .add (i_ 128) (.reg 6)),o_ (.conv (.toInt .u8) (.reg 7)),o_ (.mov (.loc 0)),o_ (.bin .quo (.reg 9) (i_ 64)),o_ (.bin .rem (.reg 10) (i_ 64)),o_ (.bin .add (i_ 128) (.reg 11)),o_ (.conv (.toInt .u8) (.reg 12)),o_ (.mov (.loc 0)),o_ (.bin .rem (.reg 14) (i_ 64)),o_ (.bin .add (i_ 128) (.reg 15)),o_ (.conv (.toInt .u8) (.reg 16)),o_ (.lit false [(.int .u8 0)] 4 [(0,(.reg 3)),(1,(.reg 8)),(2,(.reg 13)),(3,(.reg 17))]),s_ 1 (.mov (.reg 18))])
.ret)))))⟩
theorem c127 : compFunc Tryd.prog opts a127 Tryd.f127 = some t127 := by kernel_rfl
def a128 : Ann := { slots := [0,1,4],lb := [],mu := [],trunc := [],draws := [] }
def t128 : TFunc := ⟨2,3,[.loc 2],
(.seq (.region [s_ 2 (.mov (.cst (.bool false)))])
(.seq (.region [o_ (.mov (.loc 0)),o_ (.len .str (.reg 0)),o_ (.mov (.loc 1)),o_ (.len .str (.reg 2)),o_ (.bin .geq (.reg 1) (.reg 3)),o_ (.mov (.reg 4)),⟨.mov (.loc 0),none,(some (5,true))⟩,⟨.mov (.loc 1),none,(some (5,true))⟩,⟨.len .str (.reg 7),none,(some (5,true))⟩,⟨.slice .str (.reg 6) none (some (.reg 8)) none,none,(some (5,true))⟩,⟨.mov (.loc 1),none,(some (5,true))⟩,⟨.bin .eql (.reg 9) (.reg 10),none,(some (5,true))⟩,o_ (.pick (.reg 5) (.reg 11) (.cst (.bool false))),s_ 2 (.mov (.reg 12))])
.ret))⟩
theorem c128 : compFunc Tryd.prog opts a128 Tryd.f128 = some t128 := by kernel_rfl
def a129 : Ann := { slots := [0,1,2,6,7,8,10,11,12,19],lb := [],mu := [],trunc := [],draws := [] }
def t129L0 : TCode := (.seq (.region [s_ 7 (.nextS (.loc 6)),s_ 8 (.extract 0 (.reg 0))])
(.seq (.cond (.loc 8)
.skip
(.exit 0))
(.block 1
(.seq (.region [o_ (.extract 1 (.loc 7)),o_ (.extract 2 (.loc 7)),s_ 4 (.mov (.reg 0)),s_ 5 (.mov (.reg 1))])
(.seq (.region [o_ (.mov (.loc 1)),o_ (.mov (.loc 5)),o_ (.callv (.reg 0) [(.reg 1)]),o_ (.mov (.loc 2)),s_ 9 (.eqB false .bool (.reg 2) (.reg 3))])
(.cond (.loc 9)
(.seq (.region [o_ (.mov (.loc 4)),s_ 3 (.mov (.reg 0))])
.ret)
.skip))))))
def t129 : TFunc := ⟨3,10,[.loc 3],
(.seq (.region [s_ 3 (.mov (i_ 0))])
(.seq (.seq (.region [o_ (.mov (.loc 0)),s_ 6 (.range true (.reg 0))])
(.block 0
(.loop t129L0)))
(.seq (.region [s_ 3 (.mov (i_ (-1)))])
.ret)))⟩
theorem c129 : compFunc Tryd.prog opts a129 Tryd.f129 = some t129 := by kernel_rfl
def a130 : Ann := { slots := [0,2,3,4,5,6,7,8,9,10,11,12,16,24,47,60,62,79,81,103],lb := [9],mu := [],trunc := [],draws := [] }
def t130 : TFunc := ⟨1,20,[.loc 1,.loc 2],
(.seq (.region [s_ 1 (.mov (.cst (.int .i32 0))),s_ 2 (.mov (i_ 0))])
(.seq (.region [o_ (.mov (.loc 0)),o_ (.len .sl (.reg 0)),s_ 3 (.mov (.reg 1))])
(.seq (.seq (.region [o_ (.mov (.loc 3)),s_ 12 (.bin .lss (.reg 0) (i_ 1))])
(.cond (.loc 12)
(.seq (.region [s_ 1 (.mov (.cst (.int .i32 65533))),s_ 2 (.mov (i_ 0))])
.ret)
.skip))
(.seq (.region [o_ (.mov (.loc 0)),o_ (.indexAddrS 1 (.reg 0) (i_ 0)),o_ (.load1 (.reg 1)),s_ 4 (.mov (.reg 2))])
(.seq (.region [o_ (.mov (.loc 4)),o_ (.indexAddrA 256 1 (.glob 0) (.reg 0)),o_ (.load1 (.reg 1)),s_ 5 (.mov (.reg 2))])
(.seq (.seq (.region [o_ (.mov (.loc 5)),s_ 13 (.bin .geq (.reg 0) (.cst (.int .u8 240)))])
(.cond (.loc 13)
(.seq (.region [o_ (.mov (.loc 5)),o_ (.conv (.toInt .i32) (.reg 0)),o_ (.bin .shl (.reg 1) (.cst (.int .u64 31))),o_ (.bin .shr (.reg 2) (.cst (.int .u64 31))),s_ 6 (.mov (.reg 3))])
(.seq (.region [o_ (.mov (.loc 0)),o_ (.indexAddrS 1 (.reg 0) (i_ 0)),o_ (.load1 (.reg 1)),o_ (.conv (.toInt .i32) (.reg 2)),o_ (.mov (.loc 6)),o_ (.bin .andNot (.reg 3) (.reg 4)),o_ (.mov (.loc 6)),o_ (.bin .and (.cst (.int .i32 65533)) (.reg 6)),o_ (.bin .or (.reg 5) (.reg 7)),s_ 1 (.mov (.reg 8)),s_ 2 (.mov (i_ 1))])
.ret))
.skip))
(.seq (.region [o_ (.mov (.loc 5)),o_ (.bin .and (.reg 0) (.cst (.int .u8 7))),o_ (.conv (.toInt .i64) (.reg 1)),s_ 7 (.mov (.reg 2))])
(.seq (.region [o_ (.mov (.loc 5)),o_ (.bin .shr (.reg 0) (.cst (.int .u64 4))),o_ (.indexAddrA 16 2 (.glob 1) (.reg 1)),o_ (.loadN 2 (.reg 2)),o_ (.allocL 8 [(.int .u8 0),(.int .u8 0)]),o_ (.store 2 (.reg 4) (.reg 3))])
(.seq (.seq (.region [o_ (.mov (.loc 3)),o_ (.mov (.loc 7)),s_ 14 (.bin .lss (.reg 0) (.reg 1))])
(.cond (.loc 14)
(.seq (.region [s_ 1 (.mov (.cst (.int .i32 65533))),s_ 2 (.mov (i_ 1))])
.ret)
.skip))
(.seq (.region [o_ (.mov (.loc 0)),o_ (.indexAddrS 1 (.reg 0) (i_ 1)),o_ (.load1 (.reg 1)),s_ 9 (.mov (.reg 2))])
(.seq (.seq (.region [o_ (.mov (.loc 9)),o_ (.fieldAddr 0 (.loc 8)),o_ (.load1 (.reg 1)),o_ (.bin .lss (.reg 0) (.reg 2)),o_ (.mov (.reg 3)),⟨.fieldAddr 1 (.loc 8),none,(some (4,false))⟩,⟨.load1 (.reg 5),none,(some (4,false))⟩,⟨.mov (.loc 9),none,(some (4,false))⟩,⟨.bin .lss (.reg 6) (.reg 7),none,(some (4,false))⟩,s_ 15 (.pick (.reg 4) (.cst (.bool true)) (.reg 8))])
(.cond (.loc 15)
(.seq (.region [s_ 1 (.mov (.cst (.int .i32 65533))),s_ 2 (.mov (i_ 1))])
.ret)
.skip))
(.seq (.seq (.region [o_ (.mov (.loc 7)),s_ 16 (.bin .leq (.reg 0) (i_ 2))])
(.cond (.loc 16)
(.seq (.region [o_ (.mov (.loc 4)),o_ (.bin .and (.reg 0) (.cst (.int .u8 31))),o_ (.conv (.toInt .i32) (.reg 1)),o_ (.bin .shl (.reg 2) (.cst (.int .u64 6))),o_ (.mov (.loc 9)),o_ (.bin .and (.reg 4) (.cst (.int .u8 63))),o_ (.conv (.toInt .i32) (.reg 5)),o_ (.bin .or (.reg 3) (.reg 6)),s_ 1 (.mov (.reg 7)),s_ 2 (.mov (i_ 2))])
.ret)
.skip))
(.seq (.region [o_ (.mov (.loc 0)),o_ (.indexAddrS 1 (.reg 0) (i_ 2)),o_ (.load1 (.reg 1)),s_ 10 (.mov (.reg 2))])
(.seq (.seq (.region [o_ (.mov (.loc 10)),o_ (.bin .lss (.reg 0) (.cst (.int .u8 128))),o_ (.mov (.reg 1)),⟨.mov (.loc 10),none,(some (2,false))⟩,⟨.bin .lss (.cst (.int .u8 191)) (.reg 3),none,(some (2,false))⟩,s_ 17 (.pick (.reg 2) (.cst (.bool true)) (.reg 4))])
(.cond (.loc 17)
(.seq (.region [s_ 1 (.mov (.cst (.int .i32 65533))),s_ 2 (.mov (i_ 1))])
.ret)
.skip))
(.seq (.seq (.region [o_ (.mov (.loc 7)),s_ 18 (.bin .leq (.reg 0) (i_ 3))])
(.cond (.loc 18)
(.seq (.region [o_ (.mov (.loc 4)),o_ (.bin .and (.reg 0) (.cst (.int .u8 15))),o_ (.conv (.toInt .i32) (.reg 1)),o_ (.bin .shl (.reg 2) (.cst (.int .u64 12))),o_ (.mov (.loc 9)),o_ (.bin .and (.reg 4) (.cst (.int .u8 63))),o_ (.conv (.toInt .i32) (.reg 5)),o_ (.bin .shl (.reg 6) (.cst (.int .u64 6))),o_ (.bin .or (.reg 3) (.reg 7)),o_ (.mov (.loc 10)),o_ (.bin .and (.reg 9) (.cst (.int .u8 63))),o_ (.conv (.toInt .i32) (.reg 10)),o_ (.bin .or (.reg 8) (.reg 11)),s_ 1 (.mov (.reg 12)),s_ 2 (.mov (i_ 3))])
.ret)
.skip))
(.seq (.region [o_ (.mov (.loc 0)),o_ (.indexAddrS 1 (.reg 0) (i_ 3)),o_ (.load1 (.reg 1)),s_ 11 (.mov (.reg 2))])
(.seq (.seq (.region [o_ (.mov (.loc 11)),o_ (.bin .lss (.reg 0) (.cst (.int .u8 128))),o_ (.mov (.reg 1)),⟨.mov (.loc 11),none,(some (2,false))⟩,⟨.bin .lss (.cst (.int .u8 191)) (.reg 3),none,(some (2,false))⟩,s_ 19 (.pick (.reg 2) (.cst (.bool true)) (.reg 4))])
(.cond (.loc 19)
(.seq (.region [s_ 1 (.mov (.cst (.int .i32 65533))),s_ 2 (.mov (i_ 1))])
.ret)
.skip))
(.seq (.region [o_ (.mov (.loc 4)),o_ (.bin .and (.reg 0) (.cst (.int .u8 7))),o_ (.conv (.toInt .i32) (.reg 1)),o_ (.bin .shl (.reg 2) (.cst (.int .u64 18))),o_ (.mov (.loc 9)),o_ (.bin .and (.reg 4) (.cst (.int .u8 63))),o_ (.conv (.toInt .i32) (.reg 5)),o_ (.bin .shl (.reg 6) (.cst (.int .u64 12))),o_ (.bin .or (.reg 3) (.reg 7)),o_ (.mov (.loc 10)),o_ (.bin .and (.reg 9) (.cst (.int .u8 63))),o_ (.conv (.toInt .i32) (.reg 10)),o_ (.bin .shl (.reg 11) (.cst (.int .u64 6))),o_ (.bin .or (.reg 8) (.reg 12)),o_ (.mov (.loc 11)),o_ (.bin .and (.reg 14) (.cst (.int .u8 63))),o_ (.conv (.toInt .i32) (.reg 15)),o_ (.bin .or (.reg 13) (.reg 16)),s_ 1 (.mov (.reg 17)),s_ 2 (.mov (i_ 4))])
.ret))))))))))))))))))⟩
theorem c130 : compFunc Tryd.prog opts a130 Tryd.f130 = some t130 := by kernel_rfl
def g0 : List IV := [(.int .u8 240),(.int .u8 240),(.int .u8 240),(.int .u8 240),(.int .u8 240),(.int .u8 240),(.int .u8 240),(.int .u8 240),(.int .u8 240),(.int .u8 240),(.int .u8 240),(.int .u8 240),(.int .u8 240),(.int .u8 240),(.int .u8 240),(.int .u8 240),(.int .u8 240),(.int .u8 240),(.int .u8 240),(.int .u8 240),(.int .u8 240),(.int .u8 240),(.int .u8 240),(.int .u8 240),(.int .u8 240),(.int .u8 240),(.int .u8 240),(.int .u8 240),(.int .u8 240),(.int .u8 240),(.int .u8 240),(.int .u8 240),(.int .u8 240),(.int .u8 240),(.int .u8 240),(.int .u8 240),(.int .u8 240),(.int .u8 240),(.int .u8 240),(.int .u8 240),(.int .u8 240),(.int .u8 240),(.int .u8 240),(.int .u8 240),(.int .u8 240),(.int .u8 240),(.int .u8 240),(.int .u8 240),(.int .u8 240),(.int .u8 240),(.int .u8 240),(.int .u8 240),(.int .u8 240),(.int .u8 240),(.int .u8 240),(.int .u8 240),(.int .u8 240),(.int .u8 240),(.int .u8 240),(.int .u8 240),(.int .u8 240),(.int .u8 240),(.int .u8 240),(.int .u8 240),(.int .u8 240),(.int .u8 240),(.int .u8 240),(.int .u8 240),(.int .u8 240),(.int .u8 240),(.int .u8 240),(.int .u8 240),(.int .u8 240),(.int .u8 240),(.int .u8 240),(.int .u8 240),(.int .u8 240),(.int .u8 240),(.int .u8 240),(.int .u8 240),(.int .u8 240),(.int .u8 240),(.int .u8 240),(.int .u8 240),(.int .u8 240),(.int .u8 240),(.int .u8 240),(.int .u8 240),(.int .u8 240),(.int .u8 240),(.int .u8 240),(.int .u8 240),(.int .u8 240),(.int .u8 240),(.int .u8 240),(.int .u8 240),(.int .u8 240),(.int .u8 240),(.int .u8 240),(.int .u8 240),(.int .u8 240),(.int .u8 240),(.int .u8 240),(.int .u8 240),(.int .u8 240),(.int .u8 240),(.int .u8 240),(.int .u8 240),(.int .u8 240),(.int .u8 240),(.int .u8 240),(.int .u8 240),(.int .u8 240),(.int .u8 240),(.int .u8 240),(.int .u8 240),(.int .u8 240),(.int .u8 240),(.int .u8 240),(.int .u8 240),(.int .u8 240),(.int .u8 240),(.int .u8 240),(.int .u8 240),(.int .u8 240),(.int .u8 240),(.int .u8 240),(.int .u8 240),(.int .u8 241),(.int .u8 241),(.int .u8 241),(.int .u8 241),(.int .u8 241),(.int .u8 241),(.int .u8 241),(.int .u8 241),(.int .u8 241),(.int .u8 241),(.int .u8 241),(.int .u8 241),(.int .u8 241),(.int .u8 241),(.int .u8 241),(.int .u8 241),(.int .u8 241),(.int .u8 241),(.int .u8 241),(.int .u8 241),(.int .u8 241),(.int .u8 241),(.int .u8 241),(.int .u8 241),(.int .u8 241),(.int .u8 241),(.int .u8 241),(.int .u8 241),(.int .u8 241),(.int .u8 241),(.int .u8 241),(.int .u8 241),(.int .u8 241),(.int .u8 241),(.int .u8 241),(.int .u8 241),(.int .u8 241),(.int .u8 241),(.int .u8 241),(.int .u8 241),(.int .u8 241),(.int .u8 241),(.int .u8 241),(.int .u8 241),(.int .u8 241),(.int .u8 241),(.int .u8 241),(.int .u8 241),(.int .u8 241),(.int .u8 241),(.int .u8 241),(.int .u8 241),(.int .u8 241),(.int .u8 241),(.int .u8 241),(.int .u8 241),(.int .u8 241),(.int .u8 241),(.int .u8 241),(.int .u8 241),(.int .u8 241),(.int .u8 241),(.int .u8 241),(.int .u8 241),(.int .u8 241),(.int .u8 241),(.int .u8 2),(.int .u8 2),(.int .u8 2),(.int .u8 2),(.int .u8 2),(.int .u8 2),(.int .u8 2),(.int .u8 2),(.int .u8 2),(.int .u8 2),(.int .u8 2),(.int .u8 2),(.int .u8 2),(.int .u8 2),(.int .u8 2),(.int .u8 2),(.int .u8 2),(.int .u8 2),(.int .u8 2),(.int .u8 2),(.int .u8 2),(.int .u8 2),(.int .u8 2),(.int .u8 2),(.int .u8 2),(.int .u8 2),(.int .u8 2),(.int .u8 2),(.int .u8 2),(.int .u8 2),(.int .u8 19),(.int .u8 3),(.int .u8 3),(.int .u8 3),(.int .u8 3),(.int .u8 3),(.int .u8 3),(.int .u8 3),(.int .u8 3),(.int .u8 3),(.int .u8 3),(.int .u8 3),(.int .u8 3),(.int .u8 35),(.int .u8 3),(.int .u8 3),(.int .u8 52),(.int .u8 4),(.int .u8 4),(.int .u8 4),(.int .u8 68),(.int .u8 241),(.int .u8 241),(.int .u8 241),(.int .u8 241),(.int .u8 241),(.int .u8 241),(.int .u8 241),(.int .u8 241),(.int .u8 241),(.int .u8 241),(.int .u8 241)]
def g1 : List IV := [(.int .u8 128),(.int .u8 191),(.int .u8 160),(.int .u8 191),(.int .u8 128),(.int .u8 159),(.int .u8 144),(.int .u8 191),(.int .u8 128),(.int .u8 143),(.int .u8 0),(.int .u8 0),(.int .u8 0),(.int .u8 0),(.int .u8 0),(.int .u8 0),(.int .u8 0),(.int .u8 0),(.int .u8 0),(.int .u8 0),(.int .u8 0),(.int .u8 0),(.int .u8 0),(.int .u8 0),(.int .u8 0),(.int .u8 0),(.int .u8 0),(.int .u8 0),(.int .u8 0),(.int .u8 0),(.int .u8 0),(.int .u8 0)]
def tbl : List (Option TFunc) := [none,none,none,none,some t4,none,none,some t7,some t8,some t9,none,some t11,none,some t13,some t14,some t15,none,some t17,some t18,some t19,some t20,some t21,some t22,some t23,some t24,some t25,none,none,none,none,none,none,none,none,some t34,some t35,some t36,none,none,none,some t40,some t41,none,some t43,some t44,some t45,some t46,some t47,some t48,some t49,some t50,none,none,none,none,none,some t56,some t57,some t58,some t59,some t60,some t61,none,none,none,none,none,none,none,none,some t70,some t71,some t72,some t73,some t74,some t75,some t76,some t77,none,some t79,none,some t81,none,none,some t84,some t85,some t86,some t87,some t88,some t89,some t90,some t91,some t92,none,none,none,some t96,some t97,none,none,some t100,some t101,some t102,some t103,some t104,some t105,some t106,none,none,none,some t110,some t111,some t112,some t113,some t114,none,none,none,none,none,none,none,none,none,none,none,some t126,some t127,some t128,some t129,some t130]
def gtbl : List (Option (List IV)) := [some g0,some g1]
def K : TM.Prog := ⟨fun k => tbl.getD k none,fun g => gtbl.getD g none,fun f => primAt prims f⟩
def Good (k : Nat) (tf : TFunc) : Prop := ∃ (A : Ann) (fn : Func), Tryd.prog.funcs[k]? = some fn ∧ fn.name ≠ "runtime.NumGoroutine" ∧ compFunc Tryd.prog opts A fn = some tf
theorem n4 : (Tryd.f4.name == "runtime.NumGoroutine") = false := by kernel_rfl
theorem q4 : Good 4 t4 := ⟨a4,Tryd.f4,Tryd.func4,fun e => by have h := n4; rw [e] at h; simp at h,c4⟩
theorem n7 : (Tryd.f7.name == "runtime.NumGoroutine") = false := by kernel_rfl
theorem q7 : Good 7 t7 := ⟨a7,Tryd.f7,Tryd.func7,fun e => by have h := n7; rw [e] at h; simp at h,c7⟩
theorem n8 : (Tryd.f8.name == "runtime.NumGoroutine") = false := by kernel_rfl
theorem q8 : Good 8 t8 := ⟨a8,Tryd.f8,Tryd.func8,fun e => by have h := n8; rw [e] at h; simp at h,c8⟩
theorem n9 : (Tryd.f9.name == "runtime.NumGoroutine") = false := by kernel_rfl
theorem q9 : Good 9 t9 := ⟨a9,Tryd.f9,Tryd.func9,fun e => by have h := n9; rw [e] at h; simp at h,c9⟩
theorem n11 : (Tryd.f11.name == "runtime.NumGoroutine") = false := by kernel_rfl
theorem q11 : Good 11 t11 := ⟨a11,Tryd.f11,Tryd.func11,fun e => by have h := n11; rw [e] at h; simp at h,c11⟩
theorem n13 : (Tryd.f13.name == "runtime.NumGoroutine") = false := by kernel_rfl
theorem q13 : Good 13 t13 := ⟨a13,Tryd.f13,Tryd.func13,fun e => by have h := n13; rw [e] at h; simp at h,c13⟩
theorem n14 : (Tryd.f14.name == "runtime.NumGoroutine") = false := by kernel_rfl
theorem q14 : Good 14 t14 := ⟨a14,Tryd.f14,Tryd.func14,fun e => by have h := n14; rw [e] at h; simp at h,c14⟩
theorem n15 : (Tryd.f15.name == "runtime.NumGoroutine") = false := by kernel_rfl
theorem q15 : Good 15 t15 := ⟨a15,Tryd.f15,Tryd.func15,fun e => by have h := n15; rw [e] at h; simp at h,c15⟩
theorem n17 : (Tryd.f17.name == "runtime.NumGoroutine") = false := by kernel_rfl
theorem q17 : Good 17 t17 := ⟨a17,Tryd.f17,Tryd.func17,fun e => by have h := n17; rw [e] at h; simp at h,c17⟩
theorem n18 : (Tryd.f18.name == "runtime.NumGoroutine") = false := by kernel_rfl
theorem q18 : Good 18 t18 := ⟨a18,Tryd.f18,Tryd.func18,fun e => by have h := n18; rw [e] at h; simp at h,c18⟩
theorem n19 : (Tryd.f19.name == "runtime.NumGoroutine") = false := by kernel_rfl
theorem q19 : Good 19 t19 := ⟨a19,Tryd.f19,Tryd.func19,fun e => by have h := n19; rw [e] at h; simp at h,c19⟩
theorem n20 : (Tryd.f20.name == "runtime.NumGoroutine") = false := by kernel_rfl
theorem q20 : Good 20 t20 := ⟨a20,Tryd.f20,Tryd.func20,fun e => by have h := n20; rw [e] at h; simp at h,c20⟩
theorem n21 : (Tryd.f21.name == "runtime.NumGoroutine") = false := by kernel_rfl
theorem q21 : Good 21 t21 := ⟨a21,Tryd.f21,Tryd.func21,fun e => by have h := n21; rw [e] at h; simp at h,c21⟩
theorem n22 : (Tryd.f22.name == "runtime.NumGoroutine") = false := by kernel_rfl
theorem q22 : Good 22 t22 := ⟨a22,Tryd.f22,Tryd.func22,fun e => by have h := n22; rw [e] at h; simp at h,c22⟩
theorem n23 : (Tryd.f23.name == "runtime.NumGoroutine") = false := by kernel_rfl
theorem q23 : Good 23 t23 := ⟨a23,Tryd.f23,Tryd.func23,fun e => by have h := n23; rw [e] at h; simp at h,c23⟩
theorem n24 : (Tryd.f24.name == "runtime.NumGoroutine") = false := by kernel_rfl
theorem q24 : Good 24 t24 := ⟨a24,Tryd.f24,Tryd.func24,fun e => by have h := n24; rw [e] at h; simp at h,c24⟩
theorem n25 : (Tryd.f25.name == "runtime.NumGoroutine") = false := by kernel_rfl
theorem q25 : Good 25 t25 := ⟨a25,Tryd.f25,Tryd.func25,fun e => by have h := n25; rw [e] at h; simp at h,c25⟩
theorem n34 : (Tryd.f34.name == "runtime.NumGoroutine") = false := by kernel_rfl
theorem q34 : Good 34 t34 := ⟨a34,Tryd.f34,Tryd.func34,fun e => by have h := n34; rw [e] at h; simp at h,c34⟩
theorem n35 : (Tryd.f35.name == "runtime.NumGoroutine") = false := by kernel_rfl
theorem q35 : Good 35 t35 := ⟨a35,Tryd.f35,Tryd.func35,fun e => by have h := n35; rw [e] at h; simp at h,c35⟩
theorem n36 : (Tryd.f36.name == "runtime.NumGoroutine") = false := by kernel_rfl
theorem q36 : Good 36 t36 := ⟨a36,Tryd.f36,Tryd.func36,fun e => by have h := n36; rw [e] at h; simp at h,c36⟩
theorem n40 : (Tryd.f40.name == "runtime.NumGoroutine") = false := by kernel_rfl
theorem q40 : Good 40 t40 := ⟨a40,Tryd.f40,Tryd.func40,fun e => by have h := n40; rw [e] at h; simp at h,c40⟩
theorem n41 : (Tryd.f41.name == "runtime.NumGoroutine") = false := by kernel_rfl
theorem q41 : Good 41 t41 := ⟨a41,Tryd.f41,Tryd.func41,fun e => by have h := n41; rw [e] at h; simp at h,c41⟩
theorem n43 : (Tryd.f43.name == "runtime.NumGoroutine") = false := by kernel_rfl
theorem q43 : Good 43 t43 := ⟨a43,Tryd.f43,Tryd.func43,fun e => by have h := n43; rw [e] at h; simp at h,c43⟩
theorem n44 : (Tryd.f44.name == "runtime.NumGoroutine") = false := by kernel_rfl
theorem q44 : Good 44 t44 := ⟨a44,Tryd.f44,Tryd.func44,fun e => by have h := n44; rw [e] at h; simp at h,c44⟩
theorem n45 : (Tryd.f45.name == "runtime.NumGoroutine") = false := by kernel_rfl
theorem q45 : Good 45 t45 := ⟨a45,Tryd.f45,Tryd.func45,fun e => by have h := n45; rw [e] at h; simp at h,c45⟩
theorem n46 : (Tryd.f46.name == "runtime.NumGoroutine") = false := by kernel_rfl
theorem q46 : Good 46 t46 := ⟨a46,Tryd.f46,Tryd.func46,fun e => by have h := n46; rw [e] at h; simp at h,c46⟩
theorem n47 : (Tryd.f47.name == "runtime.NumGoroutine") = false := by kernel_rfl
theorem q47 : Good 47 t47 := ⟨a47,Tryd.f47,Tryd.func47,fun e => by have h := n47; rw [e] at h; simp at h,c47⟩
theorem n48 : (Tryd.f48.name == "runtime.NumGoroutine") = false := by kernel_rfl
theorem q48 : Good 48 t48 := ⟨a48,Tryd.f48,Tryd.func48,fun e => by have h := n48; rw [e] at h; simp at h,c48⟩
theorem n49 : (Tryd.f49.name == "runtime.NumGoroutine") = false := by kernel_rfl
theorem q49 : Good 49 t49 := ⟨a49,Tryd.f49,Tryd.func49,fun e => by have h := n49; rw [e] at h; simp at h,c49⟩
theorem n50 : (Tryd.f50.name == "runtime.NumGoroutine") = false := by kernel_rfl
theorem q50 : Good 50 t50 := ⟨a50,Tryd.f50,Tryd.func50,fun e => by have h := n50; rw [e] at h; simp at h,c50⟩
theorem n56 : (Tryd.f56.name == "runtime.NumGoroutine") = false := by kernel_rfl
theorem q56 : Good 56 t56 := ⟨a56,Tryd.f56,Tryd.func56,fun e => by have h := n56; rw [e] at h; simp at h,c56⟩
theorem n57 : (Tryd.f57.name == "runtime.NumGoroutine") = false := by kernel_rfl
theorem q57 : Good 57 t57 := ⟨a57,Tryd.f57,Tryd.func57,fun e => by have h := n57; rw [e] at h; simp at h,c57⟩
theorem n58 : (Tryd.f58.name == "runtime.NumGoroutine") = false := by kernel_rfl
theorem q58 : Good 58 t58 := ⟨a58,Tryd.f58,Tryd.func58,fun e => by have h := n58; rw [e] at h; simp at h,c58⟩
theorem n59 : (Tryd.f59.name == "runtime.NumGoroutine") = false := by kernel_rfl
theorem q59 : Good 59 t59 := ⟨a59,Tryd.f59,Tryd.func59,fun e => by have h := n59; rw [e] at h; simp at h,c59⟩
theorem n60 : (Tryd.f60.name == "runtime.NumGoroutine") = false := by kernel_rfl
theorem q60 : Good 60 t60 := ⟨a60,Tryd.f60,Tryd.func60,fun e => by have h := n60; rw [e] at h; simp at h,c60⟩
theorem n61 : (Tryd.f61.name == "runtime.NumGoroutine") = false := by kernel_rfl
theorem q61 : Good 61 t61 := ⟨a61,Tryd.f61,Tryd.func61,fun e => by have h := n61; rw [e] at h; simp at h,c61⟩
theorem n70 : (Tryd.f70.name == "runtime.NumGoroutine") = false := by kernel_rfl
theorem q70 : Good 70 t70 := ⟨a70,Tryd.f70,Tryd.func70,fun e => by have h := n70; rw [e] at h; simp at h,c70⟩
theorem n71 : (Tryd.f71.name == "runtime.NumGoroutine") = false := by kernel_rfl
theorem q71 : Good 71 t71 := ⟨a71,Tryd.f71,Tryd.func71,fun e => by have h := n71; rw [e] at h; simp at h,c71⟩
theorem n72 : (Tryd.f72.name == "runtime.NumGoroutine") = false := by kernel_rfl
theorem q72 : Good 72 t72 := ⟨a72,Tryd.f72,Tryd.func72,fun e => by have h := n72; rw [e] at h; simp at h,c72⟩
theorem n73 : (Tryd.f73.name == "runtime.NumGoroutine") = false := by kernel_rfl
theorem q73 : Good 73 t73 := ⟨a73,Tryd.f73,Tryd.func73,fun e => by have h := n73; rw [e] at h; simp at h,c73⟩
theorem n74 : (Tryd.f74.name == "runtime.NumGoroutine") = false := by kernel_rfl
theorem q74 : Good 74 t74 := ⟨a74,Tryd.f74,Tryd.func74,fun e => by have h := n74; rw [e] at h; simp at h,c74⟩
theorem n75 : (Tryd.f75.name == "runtime.NumGoroutine") = false := by kernel_rfl
theorem q75 : Good 75 t75 := ⟨a75,Tryd.f75,Tryd.func75,fun e => by have h := n75; rw [e] at h; simp at h,c75⟩
theorem n76 : (Tryd.f76.name == "runtime.NumGoroutine") = false := by kernel_rfl
theorem q76 : Good 76 t76 := ⟨a76,Tryd.f76,Tryd.func76,fun e => by have h := n76; rw [e] at h; simp at h,c76⟩
theorem n77 : (Tryd.f77.name == "runtime.NumGoroutine") = false := by kernel_rfl
theorem q77 : Good 77 t77 := ⟨a77,Tryd.f77,Tryd.func77,fun e => by have h := n77; rw [e] at h; simp at h,c77⟩
theorem n79 : (Tryd.f79.name == "runtime.NumGoroutine") = false := by kernel_rfl
theorem q79 : Good 79 t79 := ⟨a79,Tryd.f79,Tryd.func79,fun e => by have h := n79; rw [e] at h; simp at h,c79⟩
theorem n81 : (Tryd.f81.name == "runtime.NumGoroutine") = false := by kernel_rfl
theorem q81 : Good 81 t81 := ⟨a81,Tryd.f81,Tryd.func81,fun e => by have h := n81; rw [e] at h; simp at h,c81⟩
theorem n84 : (Tryd.f84.name == "runtime.NumGoroutine") = false := by kernel_rfl
theorem q84 : Good 84 t84 := ⟨a84,Tryd.f84,Tryd.func84,fun e => by have h := n84; rw [e] at h; simp at h,c84⟩
theorem n85 : (Tryd.f85.name == "runtime.NumGoroutine") = false := by kernel_rfl
theorem q85 : Good 85 t85 := ⟨a85,Tryd.f85,Tryd.func85,fun e => by have h := n85; rw [e] at h; simp at h,c85⟩
theorem n86 : (Tryd.f86.name == "runtime.NumGoroutine") = false := by kernel_rfl
theorem q86 : Good 86 t86 := ⟨a86,Tryd.f86,Tryd.func86,fun e => by have h := n86; rw [e] at h; simp at h,c86⟩
theorem n87 : (Tryd.f87.name == "runtime.NumGoroutine") = false := by kernel_rfl
theorem q87 : Good 87 t87 := ⟨a87,Tryd.f87,Tryd.func87,fun e => by have h := n87; rw [e] at h; simp at h,c87⟩
theorem n88 : (Tryd.f88.name == "runtime.NumGoroutine") = false := by kernel_rfl
theorem q88 : Good 88 t88 := ⟨a88,Tryd.f88,Tryd.func88,fun e => by have h := n88; rw [e] at h; simp at h,c88⟩
theorem n89 : (Tryd.f89.name == "runtime.NumGoroutine") = false := by kernel_rfl
theorem q89 : Good 89 t89 := ⟨a89,Tryd.f89,Tryd.func89,fun e => by have h := n89; rw [e] at h; simp at h,c89⟩
theorem n90 : (Tryd.f90.name == "runtime.NumGoroutine") = false := by kernel_rfl
theorem q90 : Good 90 t90 := ⟨a90,Tryd.f90,Tryd.func90,fun e => by have h := n90; rw [e] at h; simp at h,c90⟩
theorem n91 : (Tryd.f91.name == "runtime.NumGoroutine") = false := by kernel_rfl
theorem q91 : Good 91 t91 := ⟨a91,Tryd.f91,Tryd.func91,fun e => by have h := n91; rw [e] at h; simp at h,c91⟩
theorem n92 : (Tryd.f92.name == "runtime.NumGoroutine") = false := by kernel_rfl
theorem q92 : Good 92 t92 := ⟨a92,Tryd.f92,Tryd.func92,fun e => by have h := n92; rw [e] at h; simp at h,c92⟩
theorem n96 : (Tryd.f96.name == "runtime.NumGoroutine") = false := by kernel_rfl
theorem q96 : Good 96 t96 := ⟨a96,Tryd.f96,Tryd.func96,fun e => by have h := n96; rw [e] at h; simp at h,c96⟩
theorem n97 : (Tryd.f97.name == "runtime.NumGoroutine") = false := by kernel_rfl
theorem q97 : Good 97 t97 := ⟨a97,Tryd.f97,Tryd.func97,fun e => by have h := n97; rw [e] at h; simp at h,c97⟩
theorem n100 : (Tryd.f100.name == "runtime.NumGoroutine") = false := by kernel_rfl
theorem q100 : Good 100 t100 := ⟨a100,Tryd.f100,Tryd.func100,fun e => by have h := n100; rw [e] at h; simp at h,c100⟩
theorem n101 : (Tryd.f101.name == "runtime.NumGoroutine") = false := by kernel_rfl
theorem q101 : Good 101 t101 := ⟨a101,Tryd.f101,Tryd.func101,fun e => by have h := n101; rw [e] at h; simp at h,c101⟩
theorem n102 : (Tryd.f102.name == "runtime.NumGoroutine") = false := by kernel_rfl
theorem q102 : Good 102 t102 := ⟨a102,Tryd.f102,Tryd.func102,fun e => by have h := n102; rw [e] at h; simp at h,c102⟩
theorem n103 : (Tryd.f103.name == "runtime.NumGoroutine") = false := by kernel_rfl
theorem q103 : Good 103 t103 := ⟨a103,Tryd.f103,Tryd.func103,fun e => by have h := n103; rw [e] at h; simp at h,c103⟩
theorem n104 : (Tryd.f104.name == "runtime.NumGoroutine") = false := by kernel_rfl
theorem q104 : Good 104 t104 := ⟨a104,Tryd.f104,Tryd.func104,fun e => by have h := n104; rw [e] at h; simp at h,c104⟩
theorem n105 : (Tryd.f105.name == "runtime.NumGoroutine") = false := by kernel_rfl
theorem q105 : Good 105 t105 := ⟨a105,Tryd.f105,Tryd.func105,fun e => by have h := n105; rw [e] at h; simp at h,c105⟩
theorem n106 : (Tryd.f106.name == "runtime.NumGoroutine") = false := by kernel_rfl
theorem q106 : Good 106 t106 := ⟨a106,Tryd.f106,Tryd.func106,fun e => by have h := n106; rw [e] at h; simp at h,c106⟩
theorem n110 : (Tryd.f110.name == "runtime.NumGoroutine") = false := by kernel_rfl
theorem q110 : Good 110 t110 := ⟨a110,Tryd.f110,Tryd.func110,fun e => by have h := n110; rw [e] at h; simp at h,c110⟩
theorem n111 : (Tryd.f111.name == "runtime.NumGoroutine") = false := by kernel_rfl
theorem q111 : Good 111 t111 := ⟨a111,Tryd.f111,Tryd.func111,fun e => by have h := n111; rw [e] at h; simp at h,c111⟩
theorem n112 : (Tryd.f112.name == "runtime.NumGoroutine") = false := by kernel_rfl
theorem q112 : Good 112 t112 := ⟨a112,Tryd.f112,Tryd.func112,fun e => by have h := n112; rw [e] at h; simp at h,c112⟩
theorem n113 : (Tryd.f113.name == "runtime.NumGoroutine") = false := by kernel_rfl
theorem q113 : Good 113 t113 := ⟨a113,Tryd.f113,Tryd.func113,fun e => by have h := n113; rw [e] at h; simp at h,c113⟩
theorem n114 : (Tryd.f114.name == "runtime.NumGoroutine") = false := by kernel_rfl
theorem q114 : Good 114 t114 := ⟨a114,Tryd.f114,Tryd.func114,fun e => by have h := n114; rw [e] at h; simp at h,c114⟩
theorem n126 : (Tryd.f126.name == "runtime.NumGoroutine") = false := by kernel_rfl
theorem q126 : Good 126 t126 := ⟨a126,Tryd.f126,Tryd.func126,fun e => by have h := n126; rw [e] at h; simp at h,c126⟩
theorem n127 : (Tryd.f127.name == "runtime.NumGoroutine") = false := by kernel_rfl
theorem q127 : Good 127 t127 := ⟨a127,Tryd.f127,Tryd.func127,fun e => by have h := n127; rw [e] at h; simp at h,c127⟩
theorem n128 : (Tryd.f128.name == "runtime.NumGoroutine") = false := by kernel_rfl
theorem q128 : Good 128 t128 := ⟨a128,Tryd.f128,Tryd.func128,fun e => by have h := n128; rw [e] at h; simp at h,c128⟩
theorem n129 : (Tryd.f129.name == "runtime.NumGoroutine") = false := by kernel_rfl
theorem q129 : Good 129 t129 := ⟨a129,Tryd.f129,Tryd.func129,fun e => by have h := n129; rw [e] at h; simp at h,c129⟩
theorem n130 : (Tryd.f130.name == "runtime.NumGoroutine") = false := by kernel_rfl
theorem q130 : Good 130 t130 := ⟨a130,Tryd.f130,Tryd.func130,fun e => by have h := n130; rw [e] at h; simp at h,c130⟩
theorem good : AllAt Good 0 tbl := ⟨q4,q7,q8,q9,q11,q13,q14,q15,q17,q18,q19,q20,q21,q22,q23,q24,q25,q34,q35,q36,q40,q41,q43,q44,q45,q46,q47,q48,q49,q50,q56,q57,q58,q59,q60,q61,q70,q71,q72,q73,q74,q75,q76,q77,q79,q81,q84,q85,q86,q87,q88,q89,q90,q91,q92,q96,q97,q100,q101,q102,q103,q104,q105,q106,q110,q111,q112,q113,q114,q126,q127,q128,q129,q130,trivial⟩
theorem kok : KOK Tryd.prog opts K := ⟨fun k tf h => allAt_get good k tf h,fun f p h => primAt_ok (prims_ok opts K) h,by kernel_rfl⟩
end Go.Proofs.YtageemgcnoblnaaDoor
