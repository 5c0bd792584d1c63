/- The functions of this seat, compiled for the evaluator TM; each held against the translation by the kernel. By program. Condition: none. -/
import Derived.Test.YtjbpbohpmfpoiaaGreatDoorPrim
set_option maxRecDepth 100000
set_option linter.unusedVariables false
namespace Go.Proofs.YtjbpbohpmfpoiaaGreatDoor
open Go Go.TM
abbrev o_ (x : TOp) : TOper := ⟨x,none,none⟩
abbrev s_ (n : Nat) (x : TOp) : TOper := ⟨x,some n,none⟩
abbrev i_ (n : Int) : TOpd := .cst (.int .i64 n)
def opts : Opts := ⟨fun f => ([9,20,21,23,24,25,26,30,32,33,34,36,37,40,42,43,44,45,46,47,48,49,55,57,58,60,65,71,72,76,84,87,88,90,91,95,97,98,99,102,107,113,119,120,121,122,124,125,127,129,138,139,145,168,169,170,171,172,173,174,175,176] : List Nat).contains f,fun f => ([72,98,147,159] : List Nat).contains f⟩
def a5 : Ann := { slots := [0,1,5,9,13,17,18,19,20,21,22],lb := [21,18,1],mu := [],trunc := [],draws := [(9,⟨[0,1,3,3,3,3,59,127,255,511,1023,1023,1023,5119,16383,32767,65535,131071,262143,524287,1048575,2097151,4194303,8388607,16777215,33554431,67108863,134217727,268435455,536870911,1073741823,2147483647,4294967295,8589934591,17179869183,34359738367,68719476735,137438953471,137438953471,549755813887,1099511627775,2199023255551,4398046511103,8796093022207,17592186044415,35184372088831,70368744177663,140737488355327,281474976710655,562949953421311,1125899906842623,2251799813685247,4503599627370495,9007199254740991,18014398509481983,36028797018963967,72057594037927935,144115188075855871],[],[(0,[],[1,2,4,5]),(3,[],[6]),(7,[],[8,9,10,11,12,13]),(14,[],[15,16,17,18,19,20,21,22,23,24,25,26,27,28,29,30,31,32,33,34,35,36,37]),(38,[37],[]),(39,[],[40,41]),(42,[],[43,44]),(45,[],[46,47]),(48,[],[49,50]),(51,[],[52,53,54,55,56,57])]⟩)] }
def t5 : TFunc := ⟨0,11,[.loc 0],
(.seq (.region [s_ 0 (.mov (.cst (.bool false)))])
(.seq (.region [o_ (.call true false 13 [(.cst (.str [49]))]),o_ (.call true false 13 [(.cst (.str [53,51,54,56,55,48,57,49,50]))]),o_ (.lit false [(.int .i64 0),(.int .i64 0),(.str []),(.sl .nil []),(.int .i64 0)] 2 [(0,(.reg 0)),(1,(.reg 1))]),o_ (.build [(.int .i64 0),(.int .i64 0),(.str []),(.sl .nil []),(.int .i64 0)] [(0,1,(i_ 6)),(3,1,(.reg 2))]),o_ (.allocL 1 [(.int .i64 0),(.int .i64 0),(.str []),(.sl .nil []),(.int .i64 0)]),o_ (.store 5 (.reg 4) (.reg 3))])
(.seq (.region [o_ (.call true false 8 [(.cst (.sl .nil [])),(i_ (-1))]),o_ (.mov (.reg 0)),o_ (.extract 0 (.reg 1)),o_ (.extract 1 (.reg 1)),o_ (.extract 2 (.reg 1)),o_ (.extract 3 (.reg 1)),o_ (.mov (.reg 2)),o_ (.mov (.reg 3)),o_ (.mov (.reg 4)),s_ 2 (.mov (.reg 5))])
(.seq (.region [o_ (.call true false 13 [(.cst (.str [48,53]))]),o_ (.lit false [(.int .i64 0),(.int .i64 0),(.str []),(.sl .nil []),(.int .i64 0)] 1 [(0,(.reg 0))]),o_ (.call true false 8 [(.reg 1),(i_ 0)]),o_ (.mov (.reg 2)),o_ (.extract 0 (.reg 3)),o_ (.extract 1 (.reg 3)),o_ (.extract 2 (.reg 3)),o_ (.extract 3 (.reg 3)),o_ (.mov (.reg 4)),o_ (.mov (.reg 5)),o_ (.mov (.reg 6)),s_ 3 (.mov (.reg 7))])
(.seq (.region [o_ (.call true false 14 [(.cst (.str [97,98]))]),o_ (.lit false [(.int .i64 0),(.int .i64 0),(.str []),(.sl .nil []),(.int .i64 0)] 1 [(0,(.reg 0))]),o_ (.call true false 8 [(.reg 1),(i_ 67108862)]),o_ (.mov (.reg 2)),o_ (.extract 0 (.reg 3)),o_ (.extract 1 (.reg 3)),o_ (.extract 2 (.reg 3)),o_ (.extract 3 (.reg 3)),o_ (.mov (.reg 4)),o_ (.mov (.reg 5)),o_ (.mov (.reg 6)),s_ 4 (.mov (.reg 7))])
(.seq (.region [o_ (.build [(.int .i64 0),(.int .i64 0),(.str []),(.sl .nil []),(.int .i64 0)] [(0,1,(i_ 5)),(2,1,(.cst (.str [115]))),(1,1,(i_ 1))]),o_ (.lit false [(.int .i64 0),(.int .i64 0),(.str []),(.sl .nil []),(.int .i64 0)] 1 [(0,(.reg 0))]),o_ (.call true false 8 [(.reg 1),(i_ 0)]),o_ (.mov (.reg 2)),o_ (.extract 0 (.reg 3)),o_ (.extract 1 (.reg 3)),o_ (.extract 2 (.reg 3)),o_ (.extract 3 (.reg 3)),o_ (.mov (.reg 4)),o_ (.mov (.reg 5)),o_ (.mov (.reg 6)),s_ 5 (.mov (.reg 7))])
(.seq (.region [o_ (.lit false [(.int .u32 0)] 2 [(0,(.cst (.int .u32 51))),(1,(.cst (.int .u32 1554)))]),o_ (.call true false 11 [(.reg 0),(i_ 100),(.cst (.int .u32 401))]),o_ (.mov (.reg 1)),o_ (.extract 0 (.reg 2)),o_ (.extract 1 (.reg 2)),o_ (.allocL 6 [(.int .i64 0),(.int .i64 0),(.str []),(.sl .nil []),(.int .i64 0)]),o_ (.store 5 (.reg 5) (.reg 3)),s_ 7 (.mov (.reg 4))])
(.seq (.region [o_ (.lit false [(.int .u32 0)] 2 [(0,(.cst (.int .u32 39))),(1,(.cst (.int .u32 401)))]),s_ 8 (.mov (.reg 0))])
(.seq (.region [o_ (.mov (.loc 8)),o_ (.call true false 11 [(.reg 0),(i_ 100),(.cst (.int .u32 401))]),o_ (.mov (.reg 1)),o_ (.extract 0 (.reg 2)),o_ (.extract 1 (.reg 2)),o_ (.allocL 9 [(.int .i64 0),(.int .i64 0),(.str []),(.sl .nil []),(.int .i64 0)]),o_ (.store 5 (.reg 5) (.reg 3)),s_ 10 (.mov (.reg 4))])
(.seq (.draw [] [(0,[],[1,2,4,5]),(3,[],[6]),(7,[],[8,9,10,11,12,13]),(14,[],[15,16,17,18,19,20,21,22,23,24,25,26,27,28,29,30,31,32,33,34,35,36,37]),(38,[37],[]),(39,[],[40,41]),(42,[],[43,44]),(45,[],[46,47]),(48,[],[49,50]),(51,[],[52,53,54,55,56,57])] [o_ (.call true false 7 []),o_ (.mov (.reg 0)),⟨.lit false [(.int .u32 0)] 3 [(0,(.cst (.int .u32 20))),(1,(.cst (.int .u32 22))),(2,(.cst (.int .u32 1554)))],none,(some (1,true))⟩,⟨.call true false 13 [(.cst (.str [53]))],none,(some (1,true))⟩,⟨.build [(.int .i64 0),(.int .i64 0),(.str []),(.sl .nil []),(.int .i64 0)] [(0,1,(i_ 1)),(1,1,(i_ 1))],none,(some (1,true))⟩,⟨.build [(.int .i64 0),(.int .i64 0),(.str []),(.sl .nil []),(.int .i64 0)] [(0,1,(i_ 3)),(1,1,(i_ 97))],none,(some (1,true))⟩,⟨.lit false [(.int .i64 0),(.int .i64 0),(.str []),(.sl .nil []),(.int .i64 0)] 3 [(0,(.reg 3)),(1,(.reg 4)),(2,(.reg 5))],none,(some (1,true))⟩,⟨.call true false 15 [(.cst (.sl .nil [])),(.reg 2),(.cst (.int .u32 38)),(.reg 6)],none,(some (1,true))⟩,o_ (.pick (.reg 1) (.reg 7) (.cst (.bool false))),o_ (.mov (.reg 8)),⟨.lit false [(.int .u32 0)] 7 [(0,(.cst (.int .u32 127))),(1,(.cst (.int .u32 0))),(2,(.cst (.int .u32 0))),(3,(.cst (.int .u32 32768))),(4,(.cst (.int .u32 67))),(5,(.cst (.int .u32 4))),(6,(.cst (.int .u32 401)))],none,(some (9,true))⟩,⟨.lit false [(.int .u32 0)] 1 [(0,(.cst (.int .u32 417)))],none,(some (9,true))⟩,⟨.loadN 5 (.loc 1),none,(some (9,true))⟩,⟨.lit false [(.int .i64 0),(.int .i64 0),(.str []),(.sl .nil []),(.int .i64 0)] 1 [(0,(.reg 12))],none,(some (9,true))⟩,⟨.call true false 15 [(.reg 10),(.reg 11),(.cst (.int .u32 38)),(.reg 13)],none,(some (9,true))⟩,o_ (.pick (.reg 9) (.reg 14) (.cst (.bool false))),o_ (.mov (.reg 15)),⟨.mov (.loc 2),none,(some (16,true))⟩,⟨.bin .eql (.reg 17) (i_ 2),none,(some (16,true))⟩,o_ (.pick (.reg 16) (.reg 18) (.cst (.bool false))),o_ (.mov (.reg 19)),⟨.mov (.loc 3),none,(some (20,true))⟩,⟨.bin .eql (.reg 21) (i_ 2),none,(some (20,true))⟩,o_ (.pick (.reg 20) (.reg 22) (.cst (.bool false))),o_ (.mov (.reg 23)),⟨.mov (.loc 4),none,(some (24,true))⟩,⟨.bin .eql (.reg 25) (i_ 3),none,(some (24,true))⟩,o_ (.pick (.reg 24) (.reg 26) (.cst (.bool false))),o_ (.mov (.reg 27)),⟨.mov (.loc 5),none,(some (28,true))⟩,⟨.bin .eql (.reg 29) (i_ 2),none,(some (28,true))⟩,o_ (.pick (.reg 28) (.reg 30) (.cst (.bool false))),o_ (.mov (.reg 31)),⟨.mov (.loc 7),none,(some (32,true))⟩,⟨.bin .eql (.reg 33) (i_ 0),none,(some (32,true))⟩,o_ (.pick (.reg 32) (.reg 34) (.cst (.bool false))),o_ (.mov (.reg 35)),⟨.loadN 5 (.loc 6),none,(some (36,true))⟩,⟨.call true false 14 [(.cst (.str [97]))],none,(some (36,true))⟩,⟨.call true false 16 [(.reg 37),(.reg 38)],none,(some (36,true))⟩,o_ (.pick (.reg 36) (.reg 39) (.cst (.bool false))),o_ (.mov (.reg 40)),⟨.call true false 17 [(.cst (.int .u32 403)),(i_ 4)],none,(some (41,true))⟩,o_ (.pick (.reg 41) (.reg 42) (.cst (.bool false))),o_ (.mov (.reg 43)),⟨.call true false 17 [(.cst (.int .u32 405)),(i_ 4)],none,(some (44,true))⟩,o_ (.pick (.reg 44) (.reg 45) (.cst (.bool false))),o_ (.mov (.reg 46)),⟨.call true false 17 [(.cst (.int .u32 3)),(i_ 4)],none,(some (47,true))⟩,o_ (.pick (.reg 47) (.reg 48) (.cst (.bool false))),o_ (.mov (.reg 49)),⟨.call true false 17 [(.cst (.int .u32 397)),(i_ 4)],none,(some (50,true))⟩,o_ (.pick (.reg 50) (.reg 51) (.cst (.bool false))),o_ (.mov (.reg 52)),⟨.mov (.loc 10),none,(some (53,true))⟩,⟨.bin .eql (.reg 54) (i_ 3),none,(some (53,true))⟩,o_ (.pick (.reg 53) (.reg 55) (.cst (.bool false))),s_ 0 (.mov (.reg 56))])
.ret))))))))))⟩
theorem c5 : compFunc Tryz.prog opts a5 Tryz.f5 = some t5 := by kernel_rfl
def a7 : Ann := { slots := [0],lb := [],mu := [],trunc := [],draws := [] }
def t7 : TFunc := ⟨0,1,[.loc 0],
(.seq (.region [s_ 0 (.mov (.cst (.bool false)))])
(.seq (.region [o_ (.lit false [(.int .u32 0)] 2 [(0,(.cst (.int .u32 51))),(1,(.cst (.int .u32 1554)))]),o_ (.lit false [(.int .u32 0)] 1 [(0,(.cst (.int .u32 401)))]),o_ (.call true false 14 [(.cst (.str [97]))]),o_ (.lit false [(.int .i64 0),(.int .i64 0),(.str []),(.sl .nil []),(.int .i64 0)] 1 [(0,(.reg 2))]),o_ (.call true false 15 [(.reg 0),(.reg 1),(.cst (.int .u32 38)),(.reg 3)]),o_ (.mov (.reg 4)),⟨.lit false [(.int .u32 0)] 7 [(0,(.cst (.int .u32 51))),(1,(.cst (.int .u32 1842))),(2,(.cst (.int .u32 55))),(3,(.cst (.int .u32 401))),(4,(.cst (.int .u32 67))),(5,(.cst (.int .u32 409))),(6,(.cst (.int .u32 38)))],none,(some (5,true))⟩,⟨.lit false [(.int .u32 0)] 2 [(0,(.cst (.int .u32 409))),(1,(.cst (.int .u32 409)))],none,(some (5,true))⟩,⟨.call true false 19 [(.cst (.str [115]))],none,(some (5,true))⟩,⟨.call true false 19 [(.cst (.str [115]))],none,(some (5,true))⟩,⟨.lit false [(.int .i64 0),(.int .i64 0),(.str []),(.sl .nil []),(.int .i64 0)] 2 [(0,(.reg 8)),(1,(.reg 9))],none,(some (5,true))⟩,⟨.call true false 15 [(.reg 6),(.reg 7),(.cst (.int .u32 417)),(.reg 10)],none,(some (5,true))⟩,o_ (.pick (.reg 5) (.reg 11) (.cst (.bool false))),s_ 0 (.mov (.reg 12))])
.ret))⟩
theorem c7 : compFunc Tryz.prog opts a7 Tryz.f7 = some t7 := by kernel_rfl
def a8 : Ann := { slots := [0,1,4,5,6,7,8,10,20,31,32,33,34,50],lb := [],mu := [],trunc := [],draws := [] }
def t8L0 : TCode := (.seq (.region [s_ 12 (.bin .lss (.loc 11) (.loc 10))])
(.seq (.cond (.loc 12)
.skip
(.exit 0))
(.seq (.block 1
(.seq (.region [o_ (.indexAddrS 1 (.loc 9) (.loc 11)),o_ (.load1 (.reg 0)),s_ 7 (.mov (.reg 1))])
(.region [o_ (.mov (.loc 6)),o_ (.mov (.loc 7)),o_ (.mov (.loc 4)),o_ (.lit false [(.int .u32 0)] 2 [(0,(.reg 1)),(1,(.reg 2))]),o_ (.call false false 25 [(.reg 0),(i_ 0),(.reg 3)]),s_ 4 (.mov (.reg 4))])))
(.region [o_ (.bin .add (.loc 11) (i_ 1)),s_ 11 (.mov (.reg 0))]))))
def t8 : TFunc := ⟨2,14,[.loc 2,.loc 3,.loc 4,.loc 5],
(.seq (.region [s_ 2 (.mov (.cst (.sl .nil []))),s_ 3 (.mov (.cst (.sl .nil []))),s_ 4 (.mov (.cst (.int .u32 0))),s_ 5 (.mov (i_ 0))])
(.seq (.seq (.region [o_ (.mov (.loc 1)),o_ (.bin .lss (.reg 0) (i_ 0)),o_ (.mov (.reg 1)),⟨.mov (.loc 1),none,(some (2,false))⟩,⟨.bin .gtr (.reg 3) (i_ 67108864),none,(some (2,false))⟩,o_ (.pick (.reg 2) (.cst (.bool true)) (.reg 4)),o_ (.mov (.reg 5)),⟨.mov (.loc 0),none,(some (6,false))⟩,⟨.call false false 20 [(.reg 7),(.fn 21)],none,(some (6,false))⟩,s_ 8 (.pick (.reg 6) (.cst (.bool true)) (.reg 8))])
(.cond (.loc 8)
(.seq (.region [s_ 2 (.mov (.cst (.sl .nil []))),s_ 3 (.mov (.cst (.sl .nil []))),s_ 4 (.mov (.cst (.int .u32 0))),s_ 5 (.mov (i_ 2))])
.ret)
.skip))
(.seq (.region [o_ (.mov (.loc 1)),o_ (.mkMap),o_ (.build [(.int .i64 0),(.sl .nil []),.nilm,(.sl .nil [])] [(0,1,(.reg 0)),(2,1,(.reg 1))]),o_ (.boxH 53 (.reg 2)),s_ 6 (.mov (.reg 3))])
(.seq (.region [o_ (.mov (.loc 6)),o_ (.mov (.loc 0)),o_ (.call false false 24 [(.reg 0),(.reg 1)]),s_ 3 (.mov (.reg 2))])
(.seq (.region [s_ 4 (.mov (.cst (.int .u32 38)))])
(.seq (.seq (.region [o_ (.mov (.loc 6)),o_ (.nilCheck (.reg 0)),o_ (.fieldAddr 3 (.reg 1)),s_ 9 (.load1 (.reg 2)),s_ 10 (.len .sl (.reg 3)),s_ 11 (.mov (i_ 0))])
(.block 0
(.loop t8L0)))
(.seq (.seq (.region [o_ (.mov (.loc 1)),o_ (.mov (.loc 6)),o_ (.nilCheck (.reg 1)),o_ (.fieldAddr 1 (.reg 2)),o_ (.load1 (.reg 3)),o_ (.len .sl (.reg 4)),o_ (.bin .add (.reg 0) (.reg 5)),s_ 13 (.bin .gtr (.reg 6) (i_ 67108864))])
(.cond (.loc 13)
(.seq (.region [s_ 2 (.mov (.cst (.sl .nil []))),s_ 3 (.mov (.cst (.sl .nil []))),s_ 4 (.mov (.cst (.int .u32 0))),s_ 5 (.mov (i_ 3))])
.ret)
.skip))
(.seq (.region [o_ (.mov (.loc 6)),o_ (.nilCheck (.reg 0)),o_ (.fieldAddr 1 (.reg 1)),o_ (.load1 (.reg 2)),o_ (.mov (.loc 3)),o_ (.mov (.loc 4)),s_ 2 (.mov (.reg 3)),s_ 3 (.mov (.reg 4)),s_ 4 (.mov (.reg 5)),s_ 5 (.mov (i_ 0))])
.ret))))))))⟩
theorem c8 : compFunc Tryz.prog opts a8 Tryz.f8 = some t8 := by kernel_rfl
def a11 : Ann := { slots := [0,1,2,6,7,8,9,21],lb := [9,6],mu := [],trunc := [],draws := [(4,⟨[0,0,2,6,14,1,63],[0,1,2,3,4],[(5,[4],[6])]⟩)] }
def t11 : TFunc := ⟨3,8,[.cell 3 5 true,.loc 4],
(.seq (.region [o_ (.allocL 3 [(.int .i64 0),(.int .i64 0),(.str []),(.sl .nil []),(.int .i64 0)]),s_ 4 (.mov (i_ 0))])
(.seq (.region [o_ (.mov (.loc 1)),o_ (.mov (.loc 0)),o_ (.build [(.int .i64 0),(.sl .nil []),(.int .i64 0),(.int .i64 0)] [(0,1,(.reg 0)),(1,1,(.reg 1))]),o_ (.boxH 77 (.reg 2)),s_ 5 (.mov (.reg 3))])
(.seq (.region [o_ (.mov (.loc 5)),o_ (.mov (.loc 2)),o_ (.call false false 30 [(.reg 0),(.reg 1),(i_ 0)]),o_ (.allocL 6 [(.int .i64 0),(.int .i64 0),(.str []),(.sl .nil []),(.int .i64 0)]),o_ (.store 5 (.reg 3) (.reg 2))])
(.seq (.seq (.region [o_ (.mov (.loc 5)),o_ (.nilCheck (.reg 0)),o_ (.fieldAddr 3 (.reg 1)),o_ (.load1 (.reg 2)),s_ 7 (.bin .neq (.reg 3) (i_ 0))])
(.cond (.loc 7)
(.seq (.draw [0,1,2,3,4] [(5,[4],[6])] [o_ (.build [(.int .i64 0),(.int .i64 0),(.str []),(.sl .nil []),(.int .i64 0)] []),o_ (.mov (.loc 5)),o_ (.nilCheck (.reg 1)),o_ (.fieldAddr 3 (.reg 2)),o_ (.load1 (.reg 3)),o_ (.store 5 (.loc 3) (.reg 0)),s_ 4 (.mov (.reg 4))])
.ret)
.skip))
(.seq (.region [o_ (.loadN 5 (.loc 6)),o_ (.store 5 (.loc 3) (.reg 0)),s_ 4 (.mov (i_ 0))])
.ret)))))⟩
theorem c11 : compFunc Tryz.prog opts a11 Tryz.f11 = some t11 := by kernel_rfl
def a12 : Ann := { slots := [0,1,2,3,5],lb := [3,1],mu := [],trunc := [],draws := [(4,⟨[0,0,1,7],[0,1,2],[(3,[],[])]⟩)] }
def t12L0 : TCode := (.seq (.seq (.region [o_ (.loadN 5 (.loc 1)),s_ 4 (.call true false 31 [(.reg 0)])])
(.cond (.loc 4)
.skip
(.exit 0)))
(.block 1
(.seq (.region [o_ (.mov (.loc 2)),o_ (.fieldAddr 3 (.loc 1)),o_ (.load1 (.reg 1)),o_ (.indexAddrS 5 (.reg 2) (i_ 0)),o_ (.loadN 5 (.reg 3)),o_ (.lit false [(.int .i64 0),(.int .i64 0),(.str []),(.sl .nil []),(.int .i64 0)] 1 [(0,(.reg 4))]),o_ (.append false 5 64 37 (.reg 0) (.reg 5)),s_ 2 (.mov (.reg 6))])
(.region [o_ (.fieldAddr 3 (.loc 1)),o_ (.load1 (.reg 0)),o_ (.indexAddrS 5 (.reg 1) (i_ 1)),o_ (.loadN 5 (.reg 2)),o_ (.store 5 (.loc 1) (.reg 3))]))))
def t12 : TFunc := ⟨1,5,[.loc 2,.cell 3 5 true],
(.seq (.region [o_ (.boxL 1 (.loc 0)),s_ 2 (.mov (.cst (.sl .nil []))),o_ (.allocL 3 [(.int .i64 0),(.int .i64 0),(.str []),(.sl .nil []),(.int .i64 0)])])
(.seq (.block 0
(.loop t12L0))
(.seq (.draw [0,1,2] [(3,[],[])] [o_ (.mov (.loc 2)),o_ (.loadN 5 (.loc 1)),s_ 2 (.mov (.reg 0)),o_ (.store 5 (.loc 3) (.reg 1))])
.ret)))⟩
theorem c12 : compFunc Tryz.prog opts a12 Tryz.f12 = some t12 := by kernel_rfl
def a13 : Ann := { slots := [0,2],lb := [2],mu := [],trunc := [],draws := [] }
def t13 : TFunc := ⟨1,2,[.cell 1 5 true],
(.seq (.region [o_ (.allocL 1 [(.int .i64 0),(.int .i64 0),(.str []),(.sl .nil []),(.int .i64 0)])])
(.seq (.region [o_ (.mov (.loc 0)),o_ (.build [(.int .i64 0),(.int .i64 0),(.str []),(.sl .nil []),(.int .i64 0)] [(0,1,(i_ 2)),(2,1,(.reg 0))]),o_ (.store 5 (.loc 1) (.reg 1))])
.ret))⟩
theorem c13 : compFunc Tryz.prog opts a13 Tryz.f13 = some t13 := by kernel_rfl
def a14 : Ann := { slots := [0,2],lb := [2],mu := [],trunc := [],draws := [] }
def t14 : TFunc := ⟨1,2,[.cell 1 5 true],
(.seq (.region [o_ (.allocL 1 [(.int .i64 0),(.int .i64 0),(.str []),(.sl .nil []),(.int .i64 0)])])
(.seq (.region [o_ (.mov (.loc 0)),o_ (.build [(.int .i64 0),(.int .i64 0),(.str []),(.sl .nil []),(.int .i64 0)] [(0,1,(i_ 4)),(2,1,(.reg 0))]),o_ (.store 5 (.loc 1) (.reg 1))])
.ret))⟩
theorem c14 : compFunc Tryz.prog opts a14 Tryz.f14 = some t14 := by kernel_rfl
def a15 : Ann := { slots := [0,1,2,3,8,9,10,11,12,13,14,42,46,57,61,72],lb := [],mu := [],trunc := [],draws := [(7,⟨[0,0,3,7,0,0,48,112,255],[0,1,2,3,4,5,6,7,8],[]⟩),(12,⟨[0,0,3,7,0,0,48,112,255],[0,1,2,3,4,5,6,7,8],[]⟩)] }
def t15L0 : TCode := (.seq (.seq (.region [o_ (.mov (.loc 10)),o_ (.mov (.loc 6)),o_ (.len .sl (.reg 1)),s_ 14 (.bin .lss (.reg 0) (.reg 2))])
(.cond (.loc 14)
.skip
(.exit 2)))
(.seq (.block 3
(.seq (.draw [0,1,2,3,4,5,6,7,8] [] [o_ (.mov (.loc 6)),o_ (.mov (.loc 10)),o_ (.indexAddrS 1 (.reg 0) (.reg 1)),o_ (.load1 (.reg 2)),o_ (.mov (.loc 1)),o_ (.mov (.loc 10)),o_ (.indexAddrS 1 (.reg 4) (.reg 5)),o_ (.load1 (.reg 6)),s_ 15 (.bin .neq (.reg 3) (.reg 7))])
(.cond (.loc 15)
(.seq (.region [s_ 4 (.mov (.cst (.bool false)))])
.ret)
.skip)))
(.region [o_ (.mov (.loc 10)),o_ (.bin .add (.reg 0) (i_ 1)),s_ 10 (.mov (.reg 1))])))
def t15L1 : TCode := (.seq (.seq (.region [o_ (.mov (.loc 9)),o_ (.mov (.loc 5)),o_ (.len .sl (.reg 1)),s_ 12 (.bin .lss (.reg 0) (.reg 2))])
(.cond (.loc 12)
.skip
(.exit 0)))
(.seq (.block 1
(.seq (.draw [0,1,2,3,4,5,6,7,8] [] [o_ (.mov (.loc 5)),o_ (.mov (.loc 9)),o_ (.indexAddrS 1 (.reg 0) (.reg 1)),o_ (.load1 (.reg 2)),o_ (.mov (.loc 0)),o_ (.mov (.loc 9)),o_ (.indexAddrS 1 (.reg 4) (.reg 5)),o_ (.load1 (.reg 6)),s_ 13 (.bin .neq (.reg 3) (.reg 7))])
(.cond (.loc 13)
(.seq (.region [s_ 4 (.mov (.cst (.bool false)))])
.ret)
.skip)))
(.region [o_ (.mov (.loc 9)),o_ (.bin .add (.reg 0) (i_ 1)),s_ 9 (.mov (.reg 1))])))
def t15 : TFunc := ⟨4,16,[.loc 4],
(.seq (.region [s_ 4 (.mov (.cst (.bool false)))])
(.seq (.region [o_ (.mov (.loc 3)),o_ (.call true false 8 [(.reg 0),(i_ 100)]),o_ (.mov (.reg 1)),o_ (.extract 0 (.reg 2)),o_ (.extract 1 (.reg 2)),o_ (.extract 2 (.reg 2)),o_ (.extract 3 (.reg 2)),s_ 5 (.mov (.reg 3)),s_ 6 (.mov (.reg 4)),s_ 7 (.mov (.reg 5)),s_ 8 (.mov (.reg 6))])
(.seq (.seq (.region [o_ (.mov (.loc 8)),o_ (.bin .neq (.reg 0) (i_ 0)),o_ (.mov (.reg 1)),⟨.mov (.loc 7),none,(some (2,false))⟩,⟨.mov (.loc 2),none,(some (2,false))⟩,⟨.bin .neq (.reg 3) (.reg 4),none,(some (2,false))⟩,o_ (.pick (.reg 2) (.cst (.bool true)) (.reg 5)),o_ (.mov (.reg 6)),⟨.mov (.loc 5),none,(some (7,false))⟩,⟨.len .sl (.reg 8),none,(some (7,false))⟩,⟨.mov (.loc 0),none,(some (7,false))⟩,⟨.len .sl (.reg 10),none,(some (7,false))⟩,⟨.bin .neq (.reg 9) (.reg 11),none,(some (7,false))⟩,o_ (.pick (.reg 7) (.cst (.bool true)) (.reg 12)),o_ (.mov (.reg 13)),⟨.mov (.loc 6),none,(some (14,false))⟩,⟨.len .sl (.reg 15),none,(some (14,false))⟩,⟨.mov (.loc 1),none,(some (14,false))⟩,⟨.len .sl (.reg 17),none,(some (14,false))⟩,⟨.bin .neq (.reg 16) (.reg 18),none,(some (14,false))⟩,s_ 11 (.pick (.reg 14) (.cst (.bool true)) (.reg 19))])
(.cond (.loc 11)
(.seq (.region [s_ 4 (.mov (.cst (.bool false)))])
.ret)
.skip))
(.seq (.seq (.region [s_ 9 (.mov (i_ 0))])
(.block 0
(.loop t15L1)))
(.seq (.seq (.region [s_ 10 (.mov (i_ 0))])
(.block 2
(.loop t15L0)))
(.seq (.region [s_ 4 (.mov (.cst (.bool true)))])
.ret))))))⟩
theorem c15 : compFunc Tryz.prog opts a15 Tryz.f15 = some t15 := by kernel_rfl
def a16 : Ann := { slots := [0,1,2,3,4,10,20],lb := [3,2],mu := [],trunc := [],draws := [(2,⟨[0,1,3,7,0,16,48,112,255,511],[0,1,2,3,4,5,6,7],[(8,[],[9])]⟩),(4,⟨[0,1,3,7,0,16,48,112,15,511],[0,1,2,3,4,5,6,7],[(8,[5,7],[]),(9,[],[])]⟩)] }
def t16L0 : TCode := (.seq (.seq (.region [o_ (.loadN 5 (.loc 2)),o_ (.call true false 31 [(.reg 0)]),o_ (.mov (.reg 1)),⟨.loadN 5 (.loc 3),none,(some (2,true))⟩,⟨.call true false 31 [(.reg 3)],none,(some (2,true))⟩,s_ 5 (.pick (.reg 2) (.reg 4) (.cst (.bool false)))])
(.cond (.loc 5)
.skip
(.exit 0)))
(.block 1
(.seq (.seq (.draw [0,1,2,3,4,5,6,7] [(8,[],[9])] [o_ (.fieldAddr 3 (.loc 2)),o_ (.load1 (.reg 0)),o_ (.indexAddrS 5 (.reg 1) (i_ 0)),o_ (.loadN 5 (.reg 2)),o_ (.fieldAddr 3 (.loc 3)),o_ (.load1 (.reg 4)),o_ (.indexAddrS 5 (.reg 5) (i_ 0)),o_ (.loadN 5 (.reg 6)),o_ (.call true false 16 [(.reg 3),(.reg 7)]),s_ 6 (.un .not (.reg 8))])
(.cond (.loc 6)
(.seq (.region [s_ 4 (.mov (.cst (.bool false)))])
.ret)
.skip))
(.draw [0,1,2,3,4,5,6,7] [(8,[5,7],[]),(9,[],[])] [o_ (.fieldAddr 3 (.loc 2)),o_ (.load1 (.reg 0)),o_ (.indexAddrS 5 (.reg 1) (i_ 1)),o_ (.loadN 5 (.reg 2)),o_ (.fieldAddr 3 (.loc 3)),o_ (.load1 (.reg 4)),o_ (.indexAddrS 5 (.reg 5) (i_ 1)),o_ (.loadN 5 (.reg 6)),o_ (.store 5 (.loc 2) (.reg 3)),o_ (.store 5 (.loc 3) (.reg 7))]))))
def t16 : TFunc := ⟨2,7,[.loc 4],
(.seq (.region [o_ (.boxL 2 (.loc 0)),o_ (.boxL 3 (.loc 1)),s_ 4 (.mov (.cst (.bool false)))])
(.seq (.block 0
(.loop t16L0))
(.seq (.region [o_ (.fieldAddr 0 (.loc 2)),o_ (.load1 (.reg 0)),o_ (.fieldAddr 0 (.loc 3)),o_ (.load1 (.reg 2)),o_ (.bin .eql (.reg 1) (.reg 3)),o_ (.mov (.reg 4)),⟨.fieldAddr 1 (.loc 2),none,(some (5,true))⟩,⟨.load1 (.reg 6),none,(some (5,true))⟩,⟨.fieldAddr 1 (.loc 3),none,(some (5,true))⟩,⟨.load1 (.reg 8),none,(some (5,true))⟩,⟨.bin .eql (.reg 7) (.reg 9),none,(some (5,true))⟩,o_ (.pick (.reg 5) (.reg 10) (.cst (.bool false))),o_ (.mov (.reg 11)),⟨.fieldAddr 2 (.loc 2),none,(some (12,true))⟩,⟨.load1 (.reg 13),none,(some (12,true))⟩,⟨.fieldAddr 2 (.loc 3),none,(some (12,true))⟩,⟨.load1 (.reg 15),none,(some (12,true))⟩,⟨.bin .eql (.reg 14) (.reg 16),none,(some (12,true))⟩,o_ (.pick (.reg 12) (.reg 17) (.cst (.bool false))),o_ (.mov (.reg 18)),⟨.fieldAddr 3 (.loc 2),none,(some (19,true))⟩,⟨.load1 (.reg 20),none,(some (19,true))⟩,⟨.fieldAddr 3 (.loc 3),none,(some (19,true))⟩,⟨.load1 (.reg 22),none,(some (19,true))⟩,⟨.call false false 32 [(.reg 21),(.reg 23),(.fn 16)],none,(some (19,true))⟩,o_ (.pick (.reg 19) (.reg 24) (.cst (.bool false))),s_ 4 (.mov (.reg 25))])
.ret)))⟩
theorem c16 : compFunc Tryz.prog opts a16 Tryz.f16 = some t16 := by kernel_rfl
def a17 : Ann := { slots := [0,1,4,5,6],lb := [5],mu := [],trunc := [],draws := [] }
def t17 : TFunc := ⟨2,5,[.loc 2],
(.seq (.region [s_ 2 (.mov (.cst (.bool false)))])
(.seq (.region [o_ (.lit false [(.int .u32 0)] 2 [(0,(.cst (.int .u32 51))),(1,(.cst (.int .u32 1554)))]),o_ (.mov (.loc 0)),o_ (.call true false 11 [(.reg 0),(i_ 100),(.reg 1)]),o_ (.mov (.reg 2)),o_ (.extract 0 (.reg 3)),o_ (.extract 1 (.reg 3)),o_ (.allocL 3 [(.int .i64 0),(.int .i64 0),(.str []),(.sl .nil []),(.int .i64 0)]),o_ (.store 5 (.reg 6) (.reg 4)),s_ 4 (.mov (.reg 5))])
(.seq (.region [o_ (.mov (.loc 4)),o_ (.mov (.loc 1)),o_ (.bin .eql (.reg 0) (.reg 1)),o_ (.mov (.reg 2)),⟨.fieldAddr 0 (.loc 3),none,(some (3,true))⟩,⟨.load1 (.reg 4),none,(some (3,true))⟩,⟨.bin .eql (.reg 5) (i_ 0),none,(some (3,true))⟩,o_ (.pick (.reg 3) (.reg 6) (.cst (.bool false))),o_ (.mov (.reg 7)),⟨.fieldAddr 2 (.loc 3),none,(some (8,true))⟩,⟨.load1 (.reg 9),none,(some (8,true))⟩,⟨.bin .eql (.reg 10) (.cst (.str [])),none,(some (8,true))⟩,o_ (.pick (.reg 8) (.reg 11) (.cst (.bool false))),s_ 2 (.mov (.reg 12))])
.ret)))⟩
theorem c17 : compFunc Tryz.prog opts a17 Tryz.f17 = some t17 := by kernel_rfl
def a19 : Ann := { slots := [0,2],lb := [2],mu := [],trunc := [],draws := [] }
def t19 : TFunc := ⟨1,2,[.cell 1 5 true],
(.seq (.region [o_ (.allocL 1 [(.int .i64 0),(.int .i64 0),(.str []),(.sl .nil []),(.int .i64 0)])])
(.seq (.region [o_ (.mov (.loc 0)),o_ (.build [(.int .i64 0),(.int .i64 0),(.str []),(.sl .nil []),(.int .i64 0)] [(0,1,(i_ 5)),(2,1,(.reg 0))]),o_ (.store 5 (.loc 1) (.reg 1))])
.ret))⟩
theorem c19 : compFunc Tryz.prog opts a19 Tryz.f19 = some t19 := by kernel_rfl
def a20 : Ann := { slots := [0,1,4],lb := [],mu := [],trunc := [],draws := [] }
def t20 : TFunc := ⟨2,3,[.loc 2],
(.seq (.region [s_ 2 (.mov (.cst (.bool false)))])
(.seq (.region [o_ (.mov (.loc 0)),o_ (.mov (.loc 1)),o_ (.call false false 33 [(.reg 0),(.reg 1)]),o_ (.bin .geq (.reg 2) (i_ 0)),s_ 2 (.mov (.reg 3))])
.ret))⟩
theorem c20 : compFunc Tryz.prog opts a20 Tryz.f20 = some t20 := by kernel_rfl
def a21 : Ann := { slots := [0,1,2],lb := [1],mu := [],trunc := [],draws := [] }
def t21 : TFunc := ⟨1,3,[.loc 2],
(.seq (.region [o_ (.boxL 1 (.loc 0)),s_ 2 (.mov (.cst (.bool false)))])
(.seq (.region [o_ (.loadN 5 (.loc 1)),o_ (.call true false 22 [(.reg 0)]),o_ (.un .not (.reg 1)),o_ (.mov (.reg 2)),⟨.loadN 5 (.loc 1),none,(some (3,false))⟩,⟨.call false false 23 [(.reg 4)],none,(some (3,false))⟩,⟨.un .not (.reg 5),none,(some (3,false))⟩,o_ (.pick (.reg 3) (.cst (.bool true)) (.reg 6)),s_ 2 (.mov (.reg 7))])
.ret))⟩
theorem c21 : compFunc Tryz.prog opts a21 Tryz.f21 = some t21 := by kernel_rfl
def a22 : Ann := { slots := [0,1,2,4,10,17],lb := [1],mu := [],trunc := [],draws := [] }
def t22L0 : TCode := (.seq (.seq (.region [o_ (.loadN 5 (.loc 1)),s_ 3 (.call true false 31 [(.reg 0)])])
(.cond (.loc 3)
.skip
(.exit 0)))
(.block 1
(.seq (.seq (.region [o_ (.fieldAddr 3 (.loc 1)),o_ (.load1 (.reg 0)),o_ (.indexAddrS 5 (.reg 1) (i_ 0)),o_ (.loadN 5 (.reg 2)),o_ (.call true false 22 [(.reg 3)]),s_ 4 (.un .not (.reg 4))])
(.cond (.loc 4)
(.seq (.region [s_ 2 (.mov (.cst (.bool false)))])
.ret)
.skip))
(.region [o_ (.fieldAddr 3 (.loc 1)),o_ (.load1 (.reg 0)),o_ (.indexAddrS 5 (.reg 1) (i_ 1)),o_ (.loadN 5 (.reg 2)),o_ (.store 5 (.loc 1) (.reg 3))]))))
def t22 : TFunc := ⟨1,6,[.loc 2],
(.seq (.region [o_ (.boxL 1 (.loc 0)),s_ 2 (.mov (.cst (.bool false)))])
(.seq (.block 0
(.loop t22L0))
(.seq (.seq (.region [o_ (.fieldAddr 0 (.loc 1)),o_ (.load1 (.reg 0)),s_ 5 (.bin .eql (.reg 1) (i_ 7))])
(.cond (.loc 5)
(.seq (.region [o_ (.fieldAddr 3 (.loc 1)),o_ (.load1 (.reg 0)),o_ (.call false false 20 [(.reg 1),(.fn 34)]),o_ (.un .not (.reg 2)),s_ 2 (.mov (.reg 3))])
.ret)
.skip))
(.seq (.region [o_ (.fieldAddr 3 (.loc 1)),o_ (.load1 (.reg 0)),o_ (.len .sl (.reg 1)),o_ (.bin .eql (.reg 2) (i_ 0)),o_ (.mov (.reg 3)),⟨.loadN 5 (.loc 1),none,(some (4,true))⟩,⟨.call true false 35 [(.reg 5)],none,(some (4,true))⟩,o_ (.pick (.reg 4) (.reg 6) (.cst (.bool false))),s_ 2 (.mov (.reg 7))])
.ret))))⟩
theorem c22 : compFunc Tryz.prog opts a22 Tryz.f22 = some t22 := by kernel_rfl
def a23 : Ann := { slots := [0,1,2,5,11],lb := [1],mu := [],trunc := [],draws := [] }
def t23L0 : TCode := (.seq (.seq (.region [o_ (.fieldAddr 0 (.loc 1)),o_ (.load1 (.reg 0)),s_ 3 (.bin .eql (.reg 1) (i_ 6))])
(.cond (.loc 3)
.skip
(.exit 0)))
(.block 1
(.seq (.seq (.region [o_ (.fieldAddr 3 (.loc 1)),o_ (.load1 (.reg 0)),o_ (.indexAddrS 5 (.reg 1) (i_ 0)),o_ (.loadN 5 (.reg 2)),o_ (.call false false 23 [(.reg 3)]),s_ 4 (.un .not (.reg 4))])
(.cond (.loc 4)
(.seq (.region [s_ 2 (.mov (.cst (.bool false)))])
.ret)
.skip))
(.region [o_ (.fieldAddr 3 (.loc 1)),o_ (.load1 (.reg 0)),o_ (.indexAddrS 5 (.reg 1) (i_ 1)),o_ (.loadN 5 (.reg 2)),o_ (.store 5 (.loc 1) (.reg 3))]))))
def t23 : TFunc := ⟨1,5,[.loc 2],
(.seq (.region [o_ (.boxL 1 (.loc 0)),s_ 2 (.mov (.cst (.bool false)))])
(.seq (.block 0
(.loop t23L0))
(.seq (.region [o_ (.fieldAddr 0 (.loc 1)),o_ (.load1 (.reg 0)),o_ (.bin .neq (.reg 1) (i_ 5)),o_ (.mov (.reg 2)),⟨.fieldAddr 1 (.loc 1),none,(some (3,false))⟩,⟨.load1 (.reg 4),none,(some (3,false))⟩,⟨.bin .eql (.reg 5) (i_ 0),none,(some (3,false))⟩,o_ (.pick (.reg 3) (.cst (.bool true)) (.reg 6)),o_ (.mov (.reg 7)),⟨.fieldAddr 3 (.loc 1),none,(some (8,true))⟩,⟨.load1 (.reg 9),none,(some (8,true))⟩,⟨.call false false 20 [(.reg 10),(.fn 36)],none,(some (8,true))⟩,⟨.un .not (.reg 11),none,(some (8,true))⟩,o_ (.pick (.reg 8) (.reg 12) (.cst (.bool false))),s_ 2 (.mov (.reg 13))])
.ret)))⟩
theorem c23 : compFunc Tryz.prog opts a23 Tryz.f23 = some t23 := by kernel_rfl
def a24 : Ann := { slots := [0,1,4,6,7,8,9,10],lb := [6],mu := [],trunc := [],draws := [] }
def t24L0 : TCode := (.seq (.region [s_ 7 (.bin .lss (.loc 6) (.loc 5))])
(.seq (.cond (.loc 7)
.skip
(.exit 0))
(.seq (.block 1
(.seq (.region [o_ (.indexAddrS 5 (.loc 4) (.loc 6)),o_ (.loadN 5 (.reg 0)),o_ (.allocL 3 [(.int .i64 0),(.int .i64 0),(.str []),(.sl .nil []),(.int .i64 0)]),o_ (.store 5 (.reg 2) (.reg 1))])
(.region [o_ (.mov (.loc 2)),o_ (.mov (.loc 0)),o_ (.loadN 5 (.loc 3)),o_ (.call false false 37 [(.reg 1),(.reg 2)]),o_ (.lit false [(.int .u32 0)] 1 [(0,(.reg 3))]),o_ (.append false 1 4 26 (.reg 0) (.reg 4)),s_ 2 (.mov (.reg 5))])))
(.region [o_ (.bin .add (.loc 6) (i_ 1)),s_ 6 (.mov (.reg 0))]))))
def t24 : TFunc := ⟨2,8,[.loc 2],
(.seq (.region [s_ 2 (.mov (.cst (.sl .nil [])))])
(.seq (.seq (.region [s_ 4 (.mov (.loc 1)),s_ 5 (.len .sl (.reg 0)),s_ 6 (.mov (i_ 0))])
(.block 0
(.loop t24L0)))
(.seq (.region [o_ (.mov (.loc 2)),s_ 2 (.mov (.reg 0))])
.ret)))⟩
theorem c24 : compFunc Tryz.prog opts a24 Tryz.f24 = some t24 := by kernel_rfl
def a25 : Ann := { slots := [0,1,2,6,7],lb := [],mu := [],trunc := [],draws := [(1,⟨[0,1,3,7,0,16,48,112,240,511,1023],[0,1,2,3,4,5,6,7,8,9,10],[]⟩)] }
def t25 : TFunc := ⟨3,5,[.loc 3],
(.seq (.region [s_ 3 (.mov (.cst (.int .u32 0)))])
(.seq (.draw [0,1,2,3,4,5,6,7,8,9,10] [] [o_ (.mov (.loc 0)),o_ (.nilCheck (.reg 0)),o_ (.fieldAddr 0 (.reg 1)),o_ (.load1 (.reg 2)),o_ (.mov (.loc 0)),o_ (.nilCheck (.reg 4)),o_ (.fieldAddr 1 (.reg 5)),o_ (.load1 (.reg 6)),o_ (.len .sl (.reg 7)),o_ (.bin .add (.reg 3) (.reg 8)),s_ 4 (.mov (.reg 9))])
(.seq (.region [o_ (.mov (.loc 0)),o_ (.mov (.loc 0)),o_ (.nilCheck (.reg 1)),o_ (.fieldAddr 1 (.reg 2)),o_ (.load1 (.reg 3)),o_ (.mov (.loc 2)),o_ (.len .sl (.reg 5)),o_ (.conv (.toInt .u32) (.reg 6)),o_ (.bin .shl (.reg 7) (.cst (.int .u64 5))),o_ (.mov (.loc 1)),o_ (.conv (.toInt .u32) (.reg 9)),o_ (.bin .shl (.reg 10) (.cst (.int .u64 2))),o_ (.bin .or (.reg 8) (.reg 11)),o_ (.bin .or (.reg 12) (.cst (.int .u32 3))),o_ (.lit false [(.int .u32 0)] 1 [(0,(.reg 13))]),o_ (.append false 1 4 26 (.reg 4) (.reg 14)),o_ (.nilCheck (.reg 0)),o_ (.fieldAddr 1 (.reg 16)),o_ (.store 1 (.reg 17) (.reg 15))])
(.seq (.region [o_ (.mov (.loc 0)),o_ (.mov (.loc 0)),o_ (.nilCheck (.reg 1)),o_ (.fieldAddr 1 (.reg 2)),o_ (.load1 (.reg 3)),o_ (.mov (.loc 2)),o_ (.append false 1 4 26 (.reg 4) (.reg 5)),o_ (.nilCheck (.reg 0)),o_ (.fieldAddr 1 (.reg 7)),o_ (.store 1 (.reg 8) (.reg 6))])
(.seq (.region [o_ (.mov (.loc 4)),o_ (.conv (.toInt .u32) (.reg 0)),o_ (.bin .shl (.reg 1) (.cst (.int .u64 2))),o_ (.bin .or (.reg 2) (.cst (.int .u32 1))),s_ 3 (.mov (.reg 3))])
.ret)))))⟩
theorem c25 : compFunc Tryz.prog opts a25 Tryz.f25 = some t25 := by kernel_rfl
def a30 : Ann := { slots := [0,1,2,6,7,8,9,11,12,13,18,22,26,37,44,51,57,61,62,63,64,79,86,108,113,119],lb := [9,6],mu := [],trunc := [],draws := [(19,⟨[0,1,0,0,0,16,60,124,255,511,1023],[0,1,2,3,4,5],[(6,[1],[7]),(8,[],[9]),(10,[],[])]⟩)] }
def t30L0 : TCode := (.seq (.region [s_ 20 (.bin .lss (.loc 19) (.loc 18))])
(.seq (.cond (.loc 20)
.skip
(.exit 1))
(.seq (.block 2
(.seq (.region [o_ (.indexAddrS 1 (.loc 17) (.loc 19)),o_ (.load1 (.reg 0)),s_ 7 (.mov (.reg 1))])
(.draw [0,1,2,3,4,5] [(6,[1],[7]),(8,[],[9]),(10,[],[])] [o_ (.fieldAddr 3 (.loc 6)),o_ (.load1 (.reg 0)),o_ (.mov (.loc 0)),o_ (.mov (.loc 7)),o_ (.mov (.loc 2)),o_ (.bin .add (.reg 4) (i_ 1)),o_ (.call false false 30 [(.reg 2),(.reg 3),(.reg 5)]),o_ (.lit false [(.int .i64 0),(.int .i64 0),(.str []),(.sl .nil []),(.int .i64 0)] 1 [(0,(.reg 6))]),o_ (.append false 5 64 37 (.reg 1) (.reg 7)),o_ (.fieldAddr 3 (.loc 6)),o_ (.store 1 (.reg 9) (.reg 8))])))
(.region [o_ (.bin .add (.loc 19) (i_ 1)),s_ 19 (.mov (.reg 0))]))))
def t30 : TFunc := ⟨3,26,[.cell 3 5 true],
(.seq (.region [o_ (.allocL 3 [(.int .i64 0),(.int .i64 0),(.str []),(.sl .nil []),(.int .i64 0)])])
(.seq (.seq (.region [o_ (.mov (.loc 0)),o_ (.nilCheck (.reg 0)),o_ (.fieldAddr 3 (.reg 1)),o_ (.load1 (.reg 2)),s_ 10 (.bin .neq (.reg 3) (i_ 0))])
(.cond (.loc 10)
(.seq (.region [o_ (.build [(.int .i64 0),(.int .i64 0),(.str []),(.sl .nil []),(.int .i64 0)] []),o_ (.store 5 (.loc 3) (.reg 0))])
.ret)
.skip))
(.seq (.seq (.region [o_ (.mov (.loc 1)),o_ (.bin .and (.reg 0) (.cst (.int .u32 3))),s_ 11 (.bin .neq (.reg 1) (.cst (.int .u32 1)))])
(.cond (.loc 11)
(.seq (.seq (.region [o_ (.mov (.loc 0)),o_ (.mov (.loc 2)),o_ (.call false false 42 [(.reg 0),(.reg 1)]),s_ 12 (.un .not (.reg 2))])
(.cond (.loc 12)
(.seq (.region [o_ (.build [(.int .i64 0),(.int .i64 0),(.str []),(.sl .nil []),(.int .i64 0)] []),o_ (.store 5 (.loc 3) (.reg 0))])
.ret)
.skip))
(.seq (.region [o_ (.mov (.loc 0)),o_ (.mov (.loc 1)),o_ (.call false false 43 [(.reg 0),(.reg 1)]),o_ (.store 5 (.loc 3) (.reg 2))])
.ret))
.skip))
(.seq (.region [o_ (.mov (.loc 0)),o_ (.mov (.loc 1)),o_ (.call false false 44 [(.reg 0),(.reg 1)]),o_ (.mov (.reg 2)),o_ (.extract 0 (.reg 3)),o_ (.extract 1 (.reg 3)),s_ 4 (.mov (.reg 4)),s_ 5 (.mov (.reg 5))])
(.seq (.block 0
(.seq (.region [o_ (.mov (.loc 0)),o_ (.nilCheck (.reg 0)),o_ (.fieldAddr 3 (.reg 1)),o_ (.load1 (.reg 2)),o_ (.bin .neq (.reg 3) (i_ 0)),s_ 13 (.mov (.reg 4))])
(.cond (.loc 13)
(.seq (.region [o_ (.build [(.int .i64 0),(.int .i64 0),(.str []),(.sl .nil []),(.int .i64 0)] []),o_ (.store 5 (.loc 3) (.reg 0))])
.ret)
(.seq (.region [o_ (.mov (.loc 4)),o_ (.bin .eql (.reg 0) (i_ 0)),s_ 14 (.mov (.reg 1))])
(.cond (.loc 14)
(.seq (.region [o_ (.mov (.loc 0)),o_ (.mov (.loc 1)),o_ (.mov (.loc 2)),o_ (.call false false 45 [(.reg 0),(.reg 1),(.reg 2)]),o_ (.store 5 (.loc 3) (.reg 3))])
.ret)
(.seq (.region [o_ (.mov (.loc 0)),o_ (.mov (.loc 2)),o_ (.call false false 42 [(.reg 0),(.reg 1)]),o_ (.un .not (.reg 2)),s_ 15 (.mov (.reg 3))])
(.cond (.loc 15)
(.seq (.region [o_ (.build [(.int .i64 0),(.int .i64 0),(.str []),(.sl .nil []),(.int .i64 0)] []),o_ (.store 5 (.loc 3) (.reg 0))])
.ret)
(.seq (.region [o_ (.mov (.loc 4)),o_ (.bin .eql (.reg 0) (i_ 1)),s_ 16 (.mov (.reg 1))])
(.cond (.loc 16)
(.seq (.region [o_ (.build [(.int .i64 0),(.int .i64 0),(.str []),(.sl .nil []),(.int .i64 0)] [(0,1,(i_ 7))]),o_ (.allocL 6 [(.int .i64 0),(.int .i64 0),(.str []),(.sl .nil []),(.int .i64 0)]),o_ (.store 5 (.reg 1) (.reg 0))])
(.seq (.seq (.region [s_ 17 (.mov (.loc 5)),s_ 18 (.len .sl (.reg 0)),s_ 19 (.mov (i_ 0))])
(.block 1
(.loop t30L0)))
(.seq (.region [o_ (.loadN 5 (.loc 6)),o_ (.store 5 (.loc 3) (.reg 0))])
.ret)))
(.seq (.region [o_ (.mov (.loc 4)),o_ (.bin .eql (.reg 0) (i_ 4)),s_ 21 (.mov (.reg 1))])
(.cond (.loc 21)
(.seq (.region [o_ (.mov (.loc 0)),o_ (.mov (.loc 5)),o_ (.call false false 46 [(.reg 0),(.reg 1)]),o_ (.build [(.int .i64 0),(.int .i64 0),(.str []),(.sl .nil []),(.int .i64 0)] [(0,1,(i_ 4)),(2,1,(.reg 2))]),o_ (.store 5 (.loc 3) (.reg 3))])
.ret)
(.seq (.region [o_ (.mov (.loc 4)),o_ (.bin .eql (.reg 0) (i_ 5)),o_ (.mov (.reg 1)),⟨.mov (.loc 5),none,(some (2,true))⟩,⟨.len .sl (.reg 3),none,(some (2,true))⟩,⟨.bin .eql (.reg 4) (i_ 1),none,(some (2,true))⟩,o_ (.pick (.reg 2) (.reg 5) (.cst (.bool false))),s_ 22 (.mov (.reg 6))])
(.cond (.loc 22)
(.seq (.region [o_ (.mov (.loc 0)),o_ (.mov (.loc 5)),o_ (.indexAddrS 1 (.reg 1) (i_ 0)),o_ (.load1 (.reg 2)),o_ (.call false false 44 [(.reg 0),(.reg 3)]),o_ (.mov (.reg 4)),o_ (.extract 0 (.reg 5)),o_ (.extract 1 (.reg 5)),s_ 8 (.mov (.reg 6)),s_ 9 (.mov (.reg 7))])
(.seq (.region [o_ (.mov (.loc 8)),o_ (.bin .eql (.reg 0) (i_ 4)),o_ (.mov (.reg 1)),⟨.mov (.loc 9),none,(some (2,true))⟩,⟨.len .sl (.reg 3),none,(some (2,true))⟩,⟨.bin .gtr (.reg 4) (i_ 0),none,(some (2,true))⟩,s_ 23 (.pick (.reg 2) (.reg 5) (.cst (.bool false)))])
(.cond (.loc 23)
(.seq (.region [o_ (.mov (.loc 0)),o_ (.mov (.loc 9)),o_ (.call false false 46 [(.reg 0),(.reg 1)]),o_ (.build [(.int .i64 0),(.int .i64 0),(.str []),(.sl .nil []),(.int .i64 0)] [(0,1,(i_ 5)),(2,1,(.reg 2))]),o_ (.store 5 (.loc 3) (.reg 3))])
.ret)
.skip)))
(.seq (.region [o_ (.mov (.loc 4)),o_ (.bin .eql (.reg 0) (i_ 6)),s_ 24 (.mov (.reg 1))])
(.cond (.loc 24)
(.seq (.region [o_ (.mov (.loc 0)),o_ (.mov (.loc 5)),o_ (.call false false 47 [(.reg 0),(.reg 1)]),o_ (.store 5 (.loc 3) (.reg 2))])
.ret)
(.seq (.region [o_ (.mov (.loc 4)),o_ (.bin .eql (.reg 0) (i_ 7)),s_ 25 (.mov (.reg 1))])
(.cond (.loc 25)
(.seq (.region [o_ (.mov (.loc 0)),o_ (.mov (.loc 5)),o_ (.call false false 48 [(.reg 0),(.reg 1)]),o_ (.store 5 (.loc 3) (.reg 2))])
.ret)
.skip)))))))))))))))))
(.seq (.region [o_ (.mov (.loc 0)),o_ (.call false false 49 [(.reg 0),(i_ 4)]),o_ (.store 5 (.loc 3) (.reg 1))])
.ret))))))⟩
theorem c30 : compFunc Tryz.prog opts a30 Tryz.f30 = some t30 := by kernel_rfl
def a31 : Ann := { slots := [0,1,2],lb := [1],mu := [],trunc := [],draws := [] }
def t31 : TFunc := ⟨1,3,[.loc 2],
(.seq (.region [o_ (.boxL 1 (.loc 0)),s_ 2 (.mov (.cst (.bool false)))])
(.seq (.region [o_ (.fieldAddr 0 (.loc 1)),o_ (.load1 (.reg 0)),o_ (.bin .eql (.reg 1) (i_ 6)),o_ (.mov (.reg 2)),⟨.fieldAddr 3 (.loc 1),none,(some (3,true))⟩,⟨.load1 (.reg 4),none,(some (3,true))⟩,⟨.len .sl (.reg 5),none,(some (3,true))⟩,⟨.bin .eql (.reg 6) (i_ 2),none,(some (3,true))⟩,o_ (.pick (.reg 3) (.reg 7) (.cst (.bool false))),s_ 2 (.mov (.reg 8))])
.ret))⟩
theorem c31 : compFunc Tryz.prog opts a31 Tryz.f31 = some t31 := by kernel_rfl
def a32 : Ann := { slots := [0,1,2,6,7,8,9,14,15,16,17,18,30],lb := [9,8],mu := [],trunc := [],draws := [] }
def t32L0 : TCode := (.seq (.region [s_ 11 (.bin .lss (.loc 10) (.loc 9))])
(.seq (.cond (.loc 11)
.skip
(.exit 0))
(.seq (.block 1
(.seq (.region [o_ (.mov (.loc 10)),o_ (.indexAddrS 5 (.loc 8) (.loc 10)),o_ (.loadN 5 (.reg 1)),o_ (.allocL 5 [(.int .i64 0),(.int .i64 0),(.str []),(.sl .nil []),(.int .i64 0)]),s_ 4 (.mov (.reg 0)),o_ (.store 5 (.reg 3) (.reg 2))])
(.seq (.region [o_ (.mov (.loc 1)),o_ (.mov (.loc 4)),o_ (.indexAddrS 5 (.reg 0) (.reg 1)),o_ (.loadN 5 (.reg 2)),o_ (.allocL 6 [(.int .i64 0),(.int .i64 0),(.str []),(.sl .nil []),(.int .i64 0)]),o_ (.store 5 (.reg 4) (.reg 3))])
(.seq (.region [o_ (.mov (.loc 2)),o_ (.loadN 5 (.loc 5)),o_ (.loadN 5 (.loc 6)),o_ (.callv (.reg 0) [(.reg 1),(.reg 2)]),s_ 12 (.un .not (.reg 3))])
(.cond (.loc 12)
(.seq (.region [s_ 3 (.mov (.cst (.bool false)))])
.ret)
.skip)))))
(.region [o_ (.bin .add (.loc 10) (i_ 1)),s_ 10 (.mov (.reg 0))]))))
def t32 : TFunc := ⟨3,13,[.loc 3],
(.seq (.region [s_ 3 (.mov (.cst (.bool false)))])
(.seq (.seq (.region [o_ (.mov (.loc 0)),o_ (.len .sl (.reg 0)),o_ (.mov (.loc 1)),o_ (.len .sl (.reg 2)),s_ 7 (.bin .neq (.reg 1) (.reg 3))])
(.cond (.loc 7)
(.seq (.region [s_ 3 (.mov (.cst (.bool false)))])
.ret)
.skip))
(.seq (.seq (.region [s_ 8 (.mov (.loc 0)),s_ 9 (.len .sl (.reg 0)),s_ 10 (.mov (i_ 0))])
(.block 0
(.loop t32L0)))
(.seq (.region [s_ 3 (.mov (.cst (.bool true)))])
.ret))))⟩
theorem c32 : compFunc Tryz.prog opts a32 Tryz.f32 = some t32 := by kernel_rfl
def a33 : Ann := { slots := [0,1,4,5,7,8,9,16],lb := [],mu := [],trunc := [],draws := [] }
def t33L0 : TCode := (.seq (.region [s_ 6 (.bin .lss (.loc 5) (.loc 4))])
(.seq (.cond (.loc 6)
.skip
(.exit 0))
(.seq (.block 1
(.seq (.region [o_ (.mov (.loc 5)),s_ 3 (.mov (.reg 0))])
(.seq (.region [o_ (.mov (.loc 1)),o_ (.mov (.loc 0)),o_ (.mov (.loc 3)),o_ (.indexAddrS 5 (.reg 1) (.reg 2)),o_ (.loadN 5 (.reg 3)),s_ 7 (.callv (.reg 0) [(.reg 4)])])
(.cond (.loc 7)
(.seq (.region [o_ (.mov (.loc 3)),s_ 2 (.mov (.reg 0))])
.ret)
.skip))))
(.region [o_ (.bin .add (.loc 5) (i_ 1)),s_ 5 (.mov (.reg 0))]))))
def t33 : TFunc := ⟨2,8,[.loc 2],
(.seq (.region [s_ 2 (.mov (i_ 0))])
(.seq (.seq (.region [o_ (.mov (.loc 0)),s_ 4 (.len .sl (.reg 0)),s_ 5 (.mov (i_ 0))])
(.block 0
(.loop t33L0)))
(.seq (.region [s_ 2 (.mov (i_ (-1)))])
.ret)))⟩
theorem c33 : compFunc Tryz.prog opts a33 Tryz.f33 = some t33 := by kernel_rfl
def a34 : Ann := { slots := [0,1,2],lb := [1],mu := [],trunc := [],draws := [] }
def t34 : TFunc := ⟨1,3,[.loc 2],
(.seq (.region [o_ (.boxL 1 (.loc 0)),s_ 2 (.mov (.cst (.bool false)))])
(.seq (.region [o_ (.loadN 5 (.loc 1)),o_ (.call true false 22 [(.reg 0)]),o_ (.un .not (.reg 1)),s_ 2 (.mov (.reg 2))])
.ret))⟩
theorem c34 : compFunc Tryz.prog opts a34 Tryz.f34 = some t34 := by kernel_rfl
def a35 : Ann := { slots := [0,1,2,4,6,7,12,22,27,32],lb := [1],mu := [],trunc := [],draws := [] }
def t35 : TFunc := ⟨1,10,[.loc 2],
(.seq (.region [o_ (.boxL 1 (.loc 0)),s_ 2 (.mov (.cst (.bool false)))])
(.seq (.seq (.region [o_ (.fieldAddr 0 (.loc 1)),s_ 4 (.load1 (.reg 0))])
(.block 0
(.seq (.seq (.region [o_ (.bin .eql (.loc 4) (i_ 0)),s_ 5 (.mov (.reg 0))])
(.cond (.loc 5)
.skip
(.seq (.region [o_ (.bin .eql (.loc 4) (i_ 8)),s_ 5 (.mov (.reg 0))])
(.cond (.loc 5)
.skip
(.seq (.region [o_ (.bin .eql (.loc 4) (i_ 9)),s_ 5 (.mov (.reg 0))])
(.cond (.loc 5)
.skip
(.region [o_ (.bin .eql (.loc 4) (i_ 10)),s_ 5 (.mov (.reg 0))])))))))
(.cond (.loc 5)
(.seq (.region [s_ 2 (.mov (.cst (.bool true)))])
.ret)
(.seq (.region [o_ (.bin .eql (.loc 4) (i_ 1)),s_ 6 (.mov (.reg 0))])
(.cond (.loc 6)
(.seq (.region [o_ (.fieldAddr 1 (.loc 1)),o_ (.load1 (.reg 0)),o_ (.bin .eql (.reg 1) (i_ 0)),o_ (.mov (.reg 2)),⟨.fieldAddr 1 (.loc 1),none,(some (3,false))⟩,⟨.load1 (.reg 4),none,(some (3,false))⟩,⟨.bin .eql (.reg 5) (i_ 1),none,(some (3,false))⟩,o_ (.pick (.reg 3) (.cst (.bool true)) (.reg 6)),s_ 2 (.mov (.reg 7))])
.ret)
(.seq (.region [o_ (.bin .eql (.loc 4) (i_ 2)),s_ 7 (.mov (.reg 0))])
(.cond (.loc 7)
(.seq (.region [o_ (.fieldAddr 2 (.loc 1)),o_ (.load1 (.reg 0)),o_ (.call true false 50 [(.reg 1)]),s_ 2 (.mov (.reg 2))])
.ret)
(.seq (.region [o_ (.bin .eql (.loc 4) (i_ 3)),s_ 8 (.mov (.reg 0))])
(.cond (.loc 8)
(.seq (.region [o_ (.fieldAddr 1 (.loc 1)),o_ (.load1 (.reg 0)),o_ (.call true false 51 [(.reg 1)]),s_ 2 (.mov (.reg 2))])
.ret)
(.seq (.seq (.region [o_ (.bin .eql (.loc 4) (i_ 4)),s_ 9 (.mov (.reg 0))])
(.cond (.loc 9)
.skip
(.region [o_ (.bin .eql (.loc 4) (i_ 5)),s_ 9 (.mov (.reg 0))])))
(.cond (.loc 9)
(.seq (.region [o_ (.fieldAddr 2 (.loc 1)),o_ (.load1 (.reg 0)),o_ (.call true false 52 [(.reg 1)]),o_ (.mov (.reg 2)),o_ (.extract 0 (.reg 3)),o_ (.extract 1 (.reg 3)),o_ (.mov (.reg 4)),s_ 3 (.mov (.reg 5))])
(.seq (.region [o_ (.mov (.loc 3)),o_ (.bin .eql (.reg 0) (i_ 0)),o_ (.mov (.reg 1)),⟨.fieldAddr 0 (.loc 1),none,(some (2,true))⟩,⟨.load1 (.reg 3),none,(some (2,true))⟩,⟨.bin .eql (.reg 4) (i_ 4),none,(some (2,true))⟩,⟨.mov (.reg 5),none,(some (2,true))⟩,⟨.fieldAddr 2 (.loc 1),none,(some (6,false))⟩,⟨.load1 (.reg 7),none,(some (6,false))⟩,⟨.bin .neq (.reg 8) (.cst (.str [])),none,(some (6,false))⟩,⟨.pick (.reg 6) (.cst (.bool true)) (.reg 9),none,(some (2,true))⟩,o_ (.pick (.reg 2) (.reg 10) (.cst (.bool false))),s_ 2 (.mov (.reg 11))])
.ret))
.skip))))))))))))
(.seq (.region [s_ 2 (.mov (.cst (.bool false)))])
.ret)))⟩
theorem c35 : compFunc Tryz.prog opts a35 Tryz.f35 = some t35 := by kernel_rfl
def a36 : Ann := { slots := [0,1,2],lb := [1],mu := [],trunc := [],draws := [] }
def t36 : TFunc := ⟨1,3,[.loc 2],
(.seq (.region [o_ (.boxL 1 (.loc 0)),s_ 2 (.mov (.cst (.bool false)))])
(.seq (.region [o_ (.loadN 5 (.loc 1)),o_ (.call false false 23 [(.reg 0)]),o_ (.un .not (.reg 1)),s_ 2 (.mov (.reg 2))])
.ret))⟩
theorem c36 : compFunc Tryz.prog opts a36 Tryz.f36 = some t36 := by kernel_rfl
def a37 : Ann := { slots := [0,1,2,3,4,5,7,9,10,11,12,13,15,17,18,23,34,39,45,51,55,56,57,58,71,79,93,94,95,102,104],lb := [11,5,3],mu := [],trunc := [],draws := [(22,⟨[0,0,0,4,14,31,63],[0,1,2,3],[(4,[0],[]),(5,[],[6])]⟩)] }
def t37L0 : TCode := (.seq (.region [s_ 23 (.bin .lss (.loc 22) (.loc 21))])
(.seq (.cond (.loc 23)
.skip
(.exit 1))
(.seq (.block 2
(.seq (.region [o_ (.indexAddrS 1 (.loc 20) (.loc 22)),o_ (.load1 (.reg 0)),s_ 7 (.mov (.reg 1))])
(.region [o_ (.mov (.loc 6)),o_ (.mov (.loc 7)),o_ (.conv (.toInt .i64) (.reg 1)),o_ (.call true false 59 [(.reg 2)]),o_ (.lit false [(.int .u32 0)] 1 [(0,(.reg 3))]),o_ (.append false 1 4 26 (.reg 0) (.reg 4)),s_ 6 (.mov (.reg 5))])))
(.region [o_ (.bin .add (.loc 22) (i_ 1)),s_ 22 (.mov (.reg 0))]))))
def t37 : TFunc := ⟨2,31,[.loc 4],
(.seq (.region [s_ 2 (.boxH 50 (.loc 0)),o_ (.boxL 3 (.loc 1)),s_ 4 (.mov (.cst (.int .u32 0)))])
(.seq (.seq (.region [o_ (.fieldAddr 0 (.loc 3)),s_ 13 (.load1 (.reg 0))])
(.block 0
(.seq (.region [o_ (.bin .eql (.loc 13) (i_ 1)),s_ 14 (.mov (.reg 0))])
(.cond (.loc 14)
(.seq (.region [o_ (.fieldAddr 1 (.loc 3)),o_ (.load1 (.reg 0)),o_ (.call true false 53 [(.reg 1)]),s_ 4 (.mov (.reg 2))])
.ret)
(.seq (.region [o_ (.bin .eql (.loc 13) (i_ 2)),s_ 15 (.mov (.reg 0))])
(.cond (.loc 15)
(.seq (.region [o_ (.fieldAddr 2 (.loc 3)),o_ (.load1 (.reg 0)),o_ (.call true false 54 [(.reg 1)]),o_ (.mov (.reg 2)),o_ (.extract 0 (.reg 3)),o_ (.extract 1 (.reg 3)),o_ (.allocL 5 [(.bool false),(.sl .nil [])]),o_ (.store 2 (.reg 6) (.reg 4)),o_ (.mov (.reg 5))])
(.seq (.region [o_ (.load1 (.loc 2)),o_ (.loadN 2 (.loc 5)),o_ (.call false false 55 [(.reg 0),(.reg 1)]),s_ 4 (.mov (.reg 2))])
.ret))
(.seq (.region [o_ (.bin .eql (.loc 13) (i_ 3)),s_ 16 (.mov (.reg 0))])
(.cond (.loc 16)
(.seq (.region [o_ (.fieldAddr 1 (.loc 3)),o_ (.load1 (.reg 0)),o_ (.call true false 56 [(.reg 1)]),s_ 4 (.mov (.reg 2))])
.ret)
(.seq (.region [o_ (.bin .eql (.loc 13) (i_ 4)),s_ 17 (.mov (.reg 0))])
(.cond (.loc 17)
(.seq (.region [o_ (.load1 (.loc 2)),o_ (.fieldAddr 2 (.loc 3)),o_ (.load1 (.reg 1)),o_ (.call false false 57 [(.reg 0),(.reg 2)]),s_ 4 (.mov (.reg 3))])
.ret)
(.seq (.region [o_ (.bin .eql (.loc 13) (i_ 5)),s_ 18 (.mov (.reg 0))])
(.cond (.loc 18)
(.seq (.region [o_ (.load1 (.loc 2)),o_ (.fieldAddr 2 (.loc 3)),o_ (.load1 (.reg 1)),o_ (.call false false 58 [(.reg 0),(.reg 2)]),s_ 4 (.mov (.reg 3))])
.ret)
(.seq (.region [o_ (.bin .eql (.loc 13) (i_ 8)),s_ 19 (.mov (.reg 0))])
(.cond (.loc 19)
(.seq (.region [s_ 6 (.mov (.cst (.sl .nil [])))])
(.seq (.seq (.region [o_ (.fieldAddr 2 (.loc 3)),o_ (.load1 (.reg 0)),s_ 20 (.conv .strBytes (.reg 1)),s_ 21 (.len .sl (.reg 2)),s_ 22 (.mov (i_ 0))])
(.block 1
(.loop t37L0)))
(.seq (.region [o_ (.load1 (.loc 2)),o_ (.mov (.loc 6)),o_ (.call false false 25 [(.reg 0),(i_ 6),(.reg 1)]),s_ 4 (.mov (.reg 2))])
.ret)))
(.seq (.region [o_ (.bin .eql (.loc 13) (i_ 7)),s_ 24 (.mov (.reg 0))])
(.cond (.loc 24)
(.seq (.draw [0,1,2,3] [(4,[0],[]),(5,[],[6])] [o_ (.load1 (.loc 2)),o_ (.load1 (.loc 2)),o_ (.fieldAddr 3 (.loc 3)),o_ (.load1 (.reg 2)),o_ (.call false false 24 [(.reg 1),(.reg 3)]),o_ (.call false false 25 [(.reg 0),(i_ 1),(.reg 4)]),s_ 4 (.mov (.reg 5))])
.ret)
(.seq (.region [o_ (.bin .eql (.loc 13) (i_ 6)),s_ 25 (.mov (.reg 0))])
(.cond (.loc 25)
(.seq (.region [o_ (.loadN 5 (.loc 3)),o_ (.call true false 12 [(.reg 0)]),o_ (.mov (.reg 1)),o_ (.extract 0 (.reg 2)),o_ (.extract 1 (.reg 2)),o_ (.allocL 9 [(.int .i64 0),(.int .i64 0),(.str []),(.sl .nil []),(.int .i64 0)]),s_ 8 (.mov (.reg 3)),o_ (.store 5 (.reg 5) (.reg 4))])
(.seq (.region [o_ (.load1 (.loc 2)),o_ (.mov (.loc 8)),o_ (.call false false 24 [(.reg 0),(.reg 1)]),s_ 10 (.mov (.reg 2))])
(.seq (.region [o_ (.load1 (.loc 2)),o_ (.loadN 5 (.loc 9)),o_ (.call false false 37 [(.reg 0),(.reg 1)]),s_ 11 (.allocH 27 [(.int .u32 0)]),o_ (.store 1 (.reg 3) (.reg 2))])
(.seq (.seq (.region [o_ (.mov (.loc 10)),s_ 26 (.call false false 60 [(.reg 0)])])
(.block 3
(.rangeFunc (.loc 26) [27,28]
(.region [s_ 12 (.mov (.loc 28))])
(.block 4
(.region [o_ (.load1 (.loc 2)),o_ (.mov (.loc 12)),o_ (.load1 (.loc 11)),o_ (.lit false [(.int .u32 0)] 2 [(0,(.reg 1)),(1,(.reg 2))]),o_ (.call false false 25 [(.reg 0),(i_ 0),(.reg 3)]),o_ (.store 1 (.loc 11) (.reg 4))])))))
(.seq (.region [o_ (.load1 (.loc 11)),s_ 4 (.mov (.reg 0))])
.ret)))))
(.seq (.region [o_ (.bin .eql (.loc 13) (i_ 9)),s_ 29 (.mov (.reg 0))])
(.cond (.loc 29)
(.seq (.region [s_ 4 (.mov (.cst (.int .u32 54)))])
.ret)
(.seq (.region [o_ (.bin .eql (.loc 13) (i_ 10)),s_ 30 (.mov (.reg 0))])
(.cond (.loc 30)
(.seq (.region [s_ 4 (.mov (.cst (.int .u32 70)))])
.ret)
.skip))))))))))))))))))))))
(.seq (.region [s_ 4 (.mov (.cst (.int .u32 38)))])
.ret)))⟩
theorem c37 : compFunc Tryz.prog opts a37 Tryz.f37 = some t37 := by kernel_rfl
def a42 : Ann := { slots := [0,1,4,20],lb := [],mu := [],trunc := [],draws := [] }
def t42 : TFunc := ⟨2,4,[.loc 2],
(.seq (.region [s_ 2 (.mov (.cst (.bool false)))])
(.seq (.region [o_ (.mov (.loc 0)),o_ (.nilCheck (.reg 0)),o_ (.fieldAddr 2 (.reg 1)),o_ (.load1 (.reg 2)),o_ (.bin .add (.reg 3) (i_ 1)),o_ (.nilCheck (.reg 0)),o_ (.fieldAddr 2 (.reg 5)),o_ (.store 1 (.reg 6) (.reg 4))])
(.seq (.seq (.region [o_ (.mov (.loc 0)),o_ (.nilCheck (.reg 0)),o_ (.fieldAddr 2 (.reg 1)),o_ (.load1 (.reg 2)),o_ (.bin .gtr (.reg 3) (i_ 1048576)),o_ (.mov (.reg 4)),⟨.mov (.loc 1),none,(some (5,false))⟩,⟨.bin .gtr (.reg 6) (i_ 1000),none,(some (5,false))⟩,s_ 3 (.pick (.reg 5) (.cst (.bool true)) (.reg 7))])
(.cond (.loc 3)
(.region [o_ (.mov (.loc 0)),o_ (.call false false 49 [(.reg 0),(i_ 3)])])
.skip))
(.seq (.region [o_ (.mov (.loc 0)),o_ (.nilCheck (.reg 0)),o_ (.fieldAddr 3 (.reg 1)),o_ (.load1 (.reg 2)),o_ (.bin .eql (.reg 3) (i_ 0)),s_ 2 (.mov (.reg 4))])
.ret))))⟩
theorem c42 : compFunc Tryz.prog opts a42 Tryz.f42 = some t42 := by kernel_rfl
def a43 : Ann := { slots := [0,1,4,5,16,20,24,28,32,36],lb := [4],mu := [],trunc := [],draws := [] }
def t43 : TFunc := ⟨2,10,[.cell 2 5 true],
(.seq (.region [o_ (.allocL 2 [(.int .i64 0),(.int .i64 0),(.str []),(.sl .nil []),(.int .i64 0)])])
(.seq (.block 0
(.seq (.region [o_ (.mov (.loc 1)),o_ (.bin .and (.reg 0) (.cst (.int .u32 3))),o_ (.bin .eql (.reg 1) (.cst (.int .u32 0))),s_ 3 (.mov (.reg 2))])
(.cond (.loc 3)
(.seq (.region [o_ (.mov (.loc 1)),o_ (.conv (.toInt .i32) (.reg 0)),o_ (.conv (.toInt .i64) (.reg 1)),o_ (.bin .shr (.reg 2) (.cst (.int .u64 2))),o_ (.call true false 68 [(.reg 3)]),o_ (.call true false 67 [(.reg 4)]),o_ (.build [(.int .i64 0),(.int .i64 0),(.str []),(.sl .nil []),(.int .i64 0)] [(0,1,(i_ 2)),(2,1,(.reg 5))]),o_ (.store 5 (.loc 2) (.reg 6))])
.ret)
(.seq (.region [o_ (.mov (.loc 1)),o_ (.bin .eql (.reg 0) (.cst (.int .u32 6))),s_ 4 (.mov (.reg 1))])
(.cond (.loc 4)
(.seq (.region [o_ (.build [(.int .i64 0),(.int .i64 0),(.str []),(.sl .nil []),(.int .i64 0)] [(0,1,(i_ 1))]),o_ (.store 5 (.loc 2) (.reg 0))])
.ret)
(.seq (.region [o_ (.mov (.loc 1)),o_ (.bin .eql (.reg 0) (.cst (.int .u32 22))),s_ 5 (.mov (.reg 1))])
(.cond (.loc 5)
(.seq (.region [o_ (.build [(.int .i64 0),(.int .i64 0),(.str []),(.sl .nil []),(.int .i64 0)] [(0,1,(i_ 1)),(1,1,(i_ 1))]),o_ (.store 5 (.loc 2) (.reg 0))])
.ret)
(.seq (.region [o_ (.mov (.loc 1)),o_ (.bin .eql (.reg 0) (.cst (.int .u32 38))),s_ 6 (.mov (.reg 1))])
(.cond (.loc 6)
(.seq (.region [o_ (.build [(.int .i64 0),(.int .i64 0),(.str []),(.sl .nil []),(.int .i64 0)] [(0,1,(i_ 0))]),o_ (.store 5 (.loc 2) (.reg 0))])
.ret)
(.seq (.region [o_ (.mov (.loc 1)),o_ (.bin .eql (.reg 0) (.cst (.int .u32 54))),s_ 7 (.mov (.reg 1))])
(.cond (.loc 7)
(.seq (.region [o_ (.build [(.int .i64 0),(.int .i64 0),(.str []),(.sl .nil []),(.int .i64 0)] [(0,1,(i_ 9))]),o_ (.store 5 (.loc 2) (.reg 0))])
.ret)
(.seq (.region [o_ (.mov (.loc 1)),o_ (.bin .eql (.reg 0) (.cst (.int .u32 70))),s_ 8 (.mov (.reg 1))])
(.cond (.loc 8)
(.seq (.region [o_ (.build [(.int .i64 0),(.int .i64 0),(.str []),(.sl .nil []),(.int .i64 0)] [(0,1,(i_ 10))]),o_ (.store 5 (.loc 2) (.reg 0))])
.ret)
(.seq (.region [o_ (.mov (.loc 1)),o_ (.call true false 69 [(.reg 0)]),o_ (.bin .geq (.reg 1) (i_ 0)),s_ 9 (.mov (.reg 2))])
(.cond (.loc 9)
(.seq (.region [o_ (.mov (.loc 1)),o_ (.call true false 69 [(.reg 0)]),o_ (.build [(.int .i64 0),(.int .i64 0),(.str []),(.sl .nil []),(.int .i64 0)] [(0,1,(i_ 3)),(1,1,(.reg 1))]),o_ (.store 5 (.loc 2) (.reg 2))])
.ret)
.skip)))))))))))))))
(.seq (.region [o_ (.mov (.loc 0)),o_ (.call false false 49 [(.reg 0),(i_ 4)]),o_ (.store 5 (.loc 2) (.reg 1))])
.ret)))⟩
theorem c43 : compFunc Tryz.prog opts a43 Tryz.f43 = some t43 := by kernel_rfl
def a44 : Ann := { slots := [0,1,4,5,6,7,42,63],lb := [],mu := [],trunc := [],draws := [(9,⟨[0,1,3,7,0,31,63,127,255,511,0,1024,3072,7168,0,16384,0,65536,0,458752,1047552,1023,4194303],[0,1,2,3,4,5,6,7,8,9,10,11,12,13,14,15,16,17,18,19,20,21,22],[]⟩)] }
def t44 : TFunc := ⟨2,8,[.loc 2,.loc 3],
(.seq (.region [s_ 2 (.mov (i_ 0)),s_ 3 (.mov (.cst (.sl .nil [])))])
(.seq (.region [o_ (.mov (.loc 1)),o_ (.bin .shr (.reg 0) (.cst (.int .u64 2))),o_ (.conv (.toInt .i64) (.reg 1)),o_ (.mov (.loc 0)),o_ (.nilCheck (.reg 3)),o_ (.fieldAddr 0 (.reg 4)),o_ (.load1 (.reg 5)),o_ (.bin .sub (.reg 2) (.reg 6)),s_ 4 (.mov (.reg 7))])
(.seq (.seq (.region [o_ (.mov (.loc 1)),o_ (.bin .and (.reg 0) (.cst (.int .u32 3))),o_ (.bin .neq (.reg 1) (.cst (.int .u32 1))),o_ (.mov (.reg 2)),⟨.mov (.loc 4),none,(some (3,false))⟩,⟨.bin .lss (.reg 4) (i_ 0),none,(some (3,false))⟩,o_ (.pick (.reg 3) (.cst (.bool true)) (.reg 5)),o_ (.mov (.reg 6)),⟨.mov (.loc 4),none,(some (7,false))⟩,⟨.mov (.loc 0),none,(some (7,false))⟩,⟨.nilCheck (.reg 9),none,(some (7,false))⟩,⟨.fieldAddr 1 (.reg 10),none,(some (7,false))⟩,⟨.load1 (.reg 11),none,(some (7,false))⟩,⟨.len .sl (.reg 12),none,(some (7,false))⟩,⟨.bin .geq (.reg 8) (.reg 13),none,(some (7,false))⟩,o_ (.pick (.reg 7) (.cst (.bool true)) (.reg 14)),o_ (.mov (.reg 15)),⟨.mov (.loc 0),none,(some (16,false))⟩,⟨.nilCheck (.reg 17),none,(some (16,false))⟩,⟨.fieldAddr 1 (.reg 18),none,(some (16,false))⟩,⟨.load1 (.reg 19),none,(some (16,false))⟩,⟨.mov (.loc 4),none,(some (16,false))⟩,⟨.indexAddrS 1 (.reg 20) (.reg 21),none,(some (16,false))⟩,⟨.load1 (.reg 22),none,(some (16,false))⟩,⟨.bin .and (.reg 23) (.cst (.int .u32 3)),none,(some (16,false))⟩,⟨.bin .neq (.reg 24) (.cst (.int .u32 3)),none,(some (16,false))⟩,s_ 6 (.pick (.reg 16) (.cst (.bool true)) (.reg 25))])
(.cond (.loc 6)
(.seq (.region [o_ (.mov (.loc 0)),o_ (.call false false 49 [(.reg 0),(i_ 4)])])
(.seq (.region [s_ 2 (.mov (i_ (-1))),s_ 3 (.mov (.cst (.sl .nil [])))])
.ret))
.skip))
(.seq (.region [o_ (.mov (.loc 0)),o_ (.nilCheck (.reg 0)),o_ (.fieldAddr 1 (.reg 1)),o_ (.load1 (.reg 2)),o_ (.mov (.loc 4)),o_ (.indexAddrS 1 (.reg 3) (.reg 4)),o_ (.load1 (.reg 5)),o_ (.bin .shr (.reg 6) (.cst (.int .u64 5))),o_ (.conv (.toInt .i64) (.reg 7)),s_ 5 (.mov (.reg 8))])
(.seq (.seq (.region [o_ (.mov (.loc 5)),o_ (.mov (.loc 0)),o_ (.nilCheck (.reg 1)),o_ (.fieldAddr 1 (.reg 2)),o_ (.load1 (.reg 3)),o_ (.len .sl (.reg 4)),o_ (.mov (.loc 4)),o_ (.bin .sub (.reg 5) (.reg 6)),o_ (.bin .sub (.reg 7) (i_ 1)),s_ 7 (.bin .gtr (.reg 0) (.reg 8))])
(.cond (.loc 7)
(.seq (.region [o_ (.mov (.loc 0)),o_ (.call false false 49 [(.reg 0),(i_ 4)])])
(.seq (.region [s_ 2 (.mov (i_ (-1))),s_ 3 (.mov (.cst (.sl .nil [])))])
.ret))
.skip))
(.seq (.draw [0,1,2,3,4,5,6,7,8,9,10,11,12,13,14,15,16,17,18,19,20,21,22] [] [o_ (.mov (.loc 0)),o_ (.nilCheck (.reg 0)),o_ (.fieldAddr 1 (.reg 1)),o_ (.load1 (.reg 2)),o_ (.mov (.loc 4)),o_ (.indexAddrS 1 (.reg 3) (.reg 4)),o_ (.load1 (.reg 5)),o_ (.bin .shr (.reg 6) (.cst (.int .u64 2))),o_ (.bin .and (.reg 7) (.cst (.int .u32 7))),o_ (.conv (.toInt .i64) (.reg 8)),o_ (.mov (.loc 0)),o_ (.nilCheck (.reg 10)),o_ (.fieldAddr 1 (.reg 11)),o_ (.load1 (.reg 12)),o_ (.mov (.loc 4)),o_ (.bin .add (.reg 14) (i_ 1)),o_ (.mov (.loc 4)),o_ (.bin .add (.reg 16) (i_ 1)),o_ (.mov (.loc 5)),o_ (.bin .add (.reg 17) (.reg 18)),o_ (.slice (.sl 1) (.reg 13) (some (.reg 15)) (some (.reg 19)) none),s_ 2 (.mov (.reg 9)),s_ 3 (.mov (.reg 20))])
.ret))))))⟩
theorem c44 : compFunc Tryz.prog opts a44 Tryz.f44 = some t44 := by kernel_rfl
def a45 : Ann := { slots := [0,1,2,6,7,8,9,12,19,26,35,41],lb := [6],mu := [],trunc := [],draws := [] }
def t45L0 : TCode := (.block 1
(.seq (.region [s_ 5 (.mov (i_ (-1))),s_ 6 (.mov (.cst (.sl .nil [])))])
(.seq (.seq (.region [o_ (.mov (.loc 1)),o_ (.bin .and (.reg 0) (.cst (.int .u32 3))),s_ 7 (.bin .eql (.reg 1) (.cst (.int .u32 1)))])
(.cond (.loc 7)
(.region [o_ (.mov (.loc 0)),o_ (.mov (.loc 1)),o_ (.call false false 44 [(.reg 0),(.reg 1)]),o_ (.mov (.reg 2)),o_ (.extract 0 (.reg 3)),o_ (.extract 1 (.reg 3)),s_ 5 (.mov (.reg 4)),s_ 6 (.mov (.reg 5))])
.skip))
(.seq (.block 2
(.seq (.region [o_ (.mov (.loc 0)),o_ (.nilCheck (.reg 0)),o_ (.fieldAddr 3 (.reg 1)),o_ (.load1 (.reg 2)),o_ (.bin .neq (.reg 3) (i_ 0)),s_ 8 (.mov (.reg 4))])
(.cond (.loc 8)
(.seq (.region [o_ (.build [(.int .i64 0),(.int .i64 0),(.str []),(.sl .nil []),(.int .i64 0)] []),o_ (.store 5 (.loc 3) (.reg 0))])
.ret)
(.seq (.region [o_ (.mov (.loc 5)),o_ (.bin .neq (.reg 0) (i_ 0)),s_ 9 (.mov (.reg 1))])
(.cond (.loc 9)
(.seq (.region [o_ (.mov (.loc 4)),o_ (.mov (.loc 0)),o_ (.mov (.loc 1)),o_ (.mov (.loc 2)),o_ (.call false false 30 [(.reg 1),(.reg 2),(.reg 3)]),o_ (.call true false 70 [(.reg 0),(.reg 4)]),o_ (.store 5 (.loc 3) (.reg 5))])
.ret)
(.seq (.region [o_ (.mov (.loc 6)),o_ (.len .sl (.reg 0)),o_ (.bin .neq (.reg 1) (i_ 2)),s_ 10 (.mov (.reg 2))])
(.cond (.loc 10)
(.seq (.region [o_ (.mov (.loc 0)),o_ (.call false false 49 [(.reg 0),(i_ 4)]),o_ (.store 5 (.loc 3) (.reg 1))])
.ret)
(.seq (.region [o_ (.mov (.loc 0)),o_ (.mov (.loc 2)),o_ (.call false false 42 [(.reg 0),(.reg 1)]),o_ (.un .not (.reg 2)),s_ 11 (.mov (.reg 3))])
(.cond (.loc 11)
(.seq (.region [o_ (.build [(.int .i64 0),(.int .i64 0),(.str []),(.sl .nil []),(.int .i64 0)] []),o_ (.store 5 (.loc 3) (.reg 0))])
.ret)
.skip)))))))))
(.seq (.region [o_ (.mov (.loc 4)),o_ (.mov (.loc 0)),o_ (.mov (.loc 6)),o_ (.indexAddrS 1 (.reg 2) (i_ 0)),o_ (.load1 (.reg 3)),o_ (.mov (.loc 2)),o_ (.bin .add (.reg 5) (i_ 1)),o_ (.call false false 30 [(.reg 1),(.reg 4),(.reg 6)]),o_ (.lit false [(.int .i64 0),(.int .i64 0),(.str []),(.sl .nil []),(.int .i64 0)] 1 [(0,(.reg 7))]),o_ (.append false 5 64 37 (.reg 0) (.reg 8)),s_ 4 (.mov (.reg 9))])
(.region [o_ (.mov (.loc 6)),o_ (.indexAddrS 1 (.reg 0) (i_ 1)),o_ (.load1 (.reg 1)),s_ 1 (.mov (.reg 2))]))))))
def t45 : TFunc := ⟨3,12,[.cell 3 5 true],
(.seq (.region [o_ (.allocL 3 [(.int .i64 0),(.int .i64 0),(.str []),(.sl .nil []),(.int .i64 0)])])
(.seq (.region [s_ 4 (.mov (.cst (.sl .nil [])))])
(.block 0
(.loop t45L0))))⟩
theorem c45 : compFunc Tryz.prog opts a45 Tryz.f45 = some t45 := by kernel_rfl
def a46 : Ann := { slots := [0,1,4,5,7,8,9,10,11,12,18],lb := [],mu := [],trunc := [],draws := [] }
def t46L0 : TCode := (.seq (.region [s_ 9 (.bin .lss (.loc 8) (.loc 7))])
(.seq (.cond (.loc 9)
.skip
(.exit 0))
(.seq (.block 1
(.seq (.region [o_ (.indexAddrS 1 (.loc 6) (.loc 8)),o_ (.load1 (.reg 0)),s_ 4 (.mov (.reg 1))])
(.seq (.region [o_ (.mov (.loc 4)),o_ (.call true false 69 [(.reg 0)]),s_ 5 (.mov (.reg 1))])
(.seq (.seq (.region [o_ (.mov (.loc 5)),s_ 10 (.bin .lss (.reg 0) (i_ 0))])
(.cond (.loc 10)
(.seq (.region [o_ (.mov (.loc 0)),o_ (.call false false 49 [(.reg 0),(i_ 4)])])
(.seq (.region [s_ 2 (.mov (.cst (.str [])))])
.ret))
.skip))
(.region [o_ (.mov (.loc 5)),o_ (.conv (.toInt .i32) (.reg 0)),o_ (.call false false 71 [(.loc 3),(.reg 1)])])))))
(.region [o_ (.bin .add (.loc 8) (i_ 1)),s_ 8 (.mov (.reg 0))]))))
def t46 : TFunc := ⟨2,11,[.loc 2],
(.seq (.region [s_ 2 (.mov (.cst (.str [])))])
(.seq (.region [s_ 3 (.allocH 115 [.nilp,(.sl .nil [])])])
(.seq (.seq (.region [s_ 6 (.mov (.loc 1)),s_ 7 (.len .sl (.reg 0)),s_ 8 (.mov (i_ 0))])
(.block 0
(.loop t46L0)))
(.seq (.region [o_ (.prim 72 [(.loc 3)]),s_ 2 (.mov (.reg 0))])
.ret))))⟩
theorem c46 : compFunc Tryz.prog opts a46 Tryz.f46 = some t46 := by kernel_rfl
def a47 : Ann := { slots := [0,1,4,5,7,8,9,10,11,16],lb := [4],mu := [],trunc := [],draws := [] }
def t47L0 : TCode := (.seq (.region [s_ 8 (.bin .lss (.loc 7) (.loc 6))])
(.seq (.cond (.loc 8)
.skip
(.exit 0))
(.seq (.block 1
(.seq (.region [o_ (.indexAddrS 1 (.loc 5) (.loc 7)),o_ (.load1 (.reg 0)),s_ 4 (.mov (.reg 1))])
(.seq (.seq (.region [o_ (.mov (.loc 4)),o_ (.call true false 73 [(.reg 0),(i_ 255)]),s_ 9 (.bin .lss (.reg 1) (i_ 0))])
(.cond (.loc 9)
(.seq (.region [o_ (.mov (.loc 0)),o_ (.call false false 49 [(.reg 0),(i_ 4)]),o_ (.store 5 (.loc 2) (.reg 1))])
.ret)
.skip))
(.region [o_ (.mov (.loc 3)),o_ (.mov (.loc 4)),o_ (.bin .shr (.reg 1) (.cst (.int .u64 2))),o_ (.conv (.toInt .u8) (.reg 2)),o_ (.lit false [(.int .u8 0)] 1 [(0,(.reg 3))]),o_ (.append false 1 1 5 (.reg 0) (.reg 4)),s_ 3 (.mov (.reg 5))]))))
(.region [o_ (.bin .add (.loc 7) (i_ 1)),s_ 7 (.mov (.reg 0))]))))
def t47 : TFunc := ⟨2,10,[.cell 2 5 true],
(.seq (.region [o_ (.allocL 2 [(.int .i64 0),(.int .i64 0),(.str []),(.sl .nil []),(.int .i64 0)])])
(.seq (.region [s_ 3 (.mov (.cst (.sl .nil [])))])
(.seq (.seq (.region [s_ 5 (.mov (.loc 1)),s_ 6 (.len .sl (.reg 0)),s_ 7 (.mov (i_ 0))])
(.block 0
(.loop t47L0)))
(.seq (.region [o_ (.mov (.loc 3)),o_ (.conv .bytesStr (.reg 0)),o_ (.build [(.int .i64 0),(.int .i64 0),(.str []),(.sl .nil []),(.int .i64 0)] [(0,1,(i_ 8)),(2,1,(.reg 1))]),o_ (.store 5 (.loc 2) (.reg 2))])
.ret))))⟩
theorem c47 : compFunc Tryz.prog opts a47 Tryz.f47 = some t47 := by kernel_rfl
def a48 : Ann := { slots := [0,1,4,5,7,8,10,20,29,30,31,32,38,65],lb := [5,4],mu := [],trunc := [],draws := [] }
def t48L0 : TCode := (.seq (.region [s_ 11 (.bin .lss (.loc 10) (.loc 9))])
(.seq (.cond (.loc 11)
.skip
(.exit 0))
(.seq (.block 1
(.seq (.region [o_ (.indexAddrS 1 (.loc 8) (.loc 10)),o_ (.load1 (.reg 0)),s_ 4 (.mov (.reg 1))])
(.seq (.region [o_ (.mov (.loc 4)),o_ (.call true false 73 [(.reg 0),(i_ 65535)]),s_ 5 (.mov (.reg 1))])
(.seq (.seq (.region [o_ (.mov (.loc 5)),s_ 12 (.bin .lss (.reg 0) (i_ 0))])
(.cond (.loc 12)
(.seq (.region [o_ (.mov (.loc 0)),o_ (.call false false 49 [(.reg 0),(i_ 4)]),o_ (.store 5 (.loc 2) (.reg 1))])
.ret)
.skip))
(.region [o_ (.fieldAddr 1 (.loc 3)),o_ (.load1 (.reg 0)),o_ (.mov (.loc 5)),o_ (.conv (.toInt .u16) (.reg 2)),o_ (.lit false [(.int .u16 0)] 1 [(0,(.reg 3))]),o_ (.append false 1 2 84 (.reg 1) (.reg 4)),o_ (.fieldAddr 1 (.loc 3)),o_ (.store 1 (.reg 6) (.reg 5))])))))
(.region [o_ (.bin .add (.loc 10) (i_ 1)),s_ 10 (.mov (.reg 0))]))))
def t48 : TFunc := ⟨2,14,[.cell 2 5 true],
(.seq (.region [o_ (.allocL 2 [(.int .i64 0),(.int .i64 0),(.str []),(.sl .nil []),(.int .i64 0)])])
(.seq (.seq (.region [o_ (.mov (.loc 1)),o_ (.len .sl (.reg 0)),o_ (.bin .eql (.reg 1) (i_ 0)),o_ (.mov (.reg 2)),⟨.mov (.loc 1),none,(some (3,false))⟩,⟨.indexAddrS 1 (.reg 4) (i_ 0),none,(some (3,false))⟩,⟨.load1 (.reg 5),none,(some (3,false))⟩,⟨.call true false 73 [(.reg 6),(i_ 1)],none,(some (3,false))⟩,⟨.bin .lss (.reg 7) (i_ 0),none,(some (3,false))⟩,s_ 7 (.pick (.reg 3) (.cst (.bool true)) (.reg 8))])
(.cond (.loc 7)
(.seq (.region [o_ (.mov (.loc 0)),o_ (.call false false 49 [(.reg 0),(i_ 4)]),o_ (.store 5 (.loc 2) (.reg 1))])
.ret)
.skip))
(.seq (.region [o_ (.mov (.loc 1)),o_ (.indexAddrS 1 (.reg 0) (i_ 0)),o_ (.load1 (.reg 1)),o_ (.bin .neq (.reg 2) (.cst (.int .u32 0))),o_ (.build [(.bool false),(.sl .nil [])] [(0,1,(.reg 3))]),o_ (.allocL 3 [(.bool false),(.sl .nil [])]),o_ (.store 2 (.reg 5) (.reg 4))])
(.seq (.seq (.region [o_ (.mov (.loc 1)),s_ 8 (.slice (.sl 1) (.reg 0) (some (i_ 1)) none none),s_ 9 (.len .sl (.reg 1)),s_ 10 (.mov (i_ 0))])
(.block 0
(.loop t48L0)))
(.seq (.seq (.region [o_ (.loadN 2 (.loc 3)),o_ (.call true false 74 [(.reg 0)]),o_ (.mov (.reg 1)),o_ (.extract 0 (.reg 2)),o_ (.extract 1 (.reg 2)),o_ (.mov (.reg 3)),s_ 6 (.mov (.reg 4))])
(.seq (.region [o_ (.mov (.loc 6)),o_ (.mov (.reg 0)),⟨.fieldAddr 1 (.loc 3),none,(some (1,false))⟩,⟨.load1 (.reg 2),none,(some (1,false))⟩,⟨.fieldAddr 1 (.loc 3),none,(some (1,false))⟩,⟨.load1 (.reg 4),none,(some (1,false))⟩,⟨.len .sl (.reg 5),none,(some (1,false))⟩,⟨.bin .sub (.reg 6) (i_ 1),none,(some (1,false))⟩,⟨.indexAddrS 1 (.reg 3) (.reg 7),none,(some (1,false))⟩,⟨.load1 (.reg 8),none,(some (1,false))⟩,⟨.bin .eql (.reg 9) (.cst (.int .u16 0)),none,(some (1,false))⟩,s_ 13 (.pick (.reg 1) (.cst (.bool true)) (.reg 10))])
(.cond (.loc 13)
(.seq (.region [o_ (.mov (.loc 0)),o_ (.call false false 49 [(.reg 0),(i_ 4)]),o_ (.store 5 (.loc 2) (.reg 1))])
.ret)
.skip)))
(.seq (.region [o_ (.loadN 2 (.loc 3)),o_ (.call true false 67 [(.reg 0)]),o_ (.build [(.int .i64 0),(.int .i64 0),(.str []),(.sl .nil []),(.int .i64 0)] [(0,1,(i_ 2)),(2,1,(.reg 1))]),o_ (.store 5 (.loc 2) (.reg 2))])
.ret))))))⟩
theorem c48 : compFunc Tryz.prog opts a48 Tryz.f48 = some t48 := by kernel_rfl
def a49 : Ann := { slots := [0,1,4,9],lb := [4],mu := [],trunc := [],draws := [] }
def t49 : TFunc := ⟨2,4,[.cell 2 5 true],
(.seq (.region [o_ (.allocL 2 [(.int .i64 0),(.int .i64 0),(.str []),(.sl .nil []),(.int .i64 0)])])
(.seq (.seq (.region [o_ (.mov (.loc 0)),o_ (.nilCheck (.reg 0)),o_ (.fieldAddr 3 (.reg 1)),o_ (.load1 (.reg 2)),s_ 3 (.bin .eql (.reg 3) (i_ 0))])
(.cond (.loc 3)
(.region [o_ (.mov (.loc 0)),o_ (.mov (.loc 1)),o_ (.nilCheck (.reg 0)),o_ (.fieldAddr 3 (.reg 2)),o_ (.store 1 (.reg 3) (.reg 1))])
.skip))
(.seq (.region [o_ (.build [(.int .i64 0),(.int .i64 0),(.str []),(.sl .nil []),(.int .i64 0)] []),o_ (.store 5 (.loc 2) (.reg 0))])
.ret)))⟩
theorem c49 : compFunc Tryz.prog opts a49 Tryz.f49 = some t49 := by kernel_rfl
def a50 : Ann := { slots := [0,2,3,16],lb := [],mu := [],trunc := [],draws := [] }
def t50 : TFunc := ⟨1,4,[.loc 1],
(.seq (.region [s_ 1 (.mov (.cst (.bool false)))])
(.seq (.region [o_ (.mov (.loc 0)),o_ (.call true false 75 [(.reg 0),(.cst (.str [45]))]),s_ 2 (.mov (.reg 1))])
(.seq (.seq (.region [o_ (.mov (.loc 2)),o_ (.bin .eql (.reg 0) (.cst (.str []))),o_ (.mov (.reg 1)),⟨.mov (.loc 2),none,(some (2,false))⟩,⟨.indexS (.reg 3) (i_ 0),none,(some (2,false))⟩,⟨.bin .eql (.reg 4) (.cst (.int .u8 48)),none,(some (2,false))⟩,⟨.mov (.reg 5),none,(some (2,false))⟩,⟨.mov (.loc 0),none,(some (6,true))⟩,⟨.bin .neq (.reg 7) (.cst (.str [48])),none,(some (6,true))⟩,⟨.pick (.reg 6) (.reg 8) (.cst (.bool false)),none,(some (2,false))⟩,s_ 3 (.pick (.reg 2) (.cst (.bool true)) (.reg 9))])
(.cond (.loc 3)
(.seq (.region [s_ 1 (.mov (.cst (.bool false)))])
.ret)
.skip))
(.seq (.region [o_ (.mov (.loc 2)),o_ (.call false false 76 [(.reg 0),(.fn 77)]),o_ (.un .not (.reg 1)),s_ 1 (.mov (.reg 2))])
.ret))))⟩
theorem c50 : compFunc Tryz.prog opts a50 Tryz.f50 = some t50 := by kernel_rfl
def a51 : Ann := { slots := [0,2],lb := [],mu := [],trunc := [],draws := [] }
def t51 : TFunc := ⟨1,2,[.loc 1],
(.seq (.region [s_ 1 (.mov (.cst (.bool false)))])
(.seq (.region [o_ (.mov (.loc 0)),o_ (.bin .geq (.reg 0) (i_ 0)),o_ (.mov (.reg 1)),⟨.mov (.loc 0),none,(some (2,true))⟩,⟨.bin .leq (.reg 3) (i_ 1114111),none,(some (2,true))⟩,o_ (.pick (.reg 2) (.reg 4) (.cst (.bool false))),o_ (.mov (.reg 5)),⟨.mov (.loc 0),none,(some (6,true))⟩,⟨.conv (.toInt .i32) (.reg 7),none,(some (6,true))⟩,⟨.call true false 78 [(.reg 8)],none,(some (6,true))⟩,o_ (.pick (.reg 6) (.reg 9) (.cst (.bool false))),s_ 1 (.mov (.reg 10))])
.ret))⟩
theorem c51 : compFunc Tryz.prog opts a51 Tryz.f51 = some t51 := by kernel_rfl
def a52 : Ann := { slots := [0,2,3,4,5,6,8,17,20,21,22,23],lb := [8,5],mu := [],trunc := [],draws := [(3,⟨[0,1,0,7],[0,1,2,3],[]⟩)] }
def t52L0 : TCode := (.seq (.region [s_ 11 (.bin .lss (.loc 10) (.loc 9))])
(.seq (.cond (.loc 11)
.skip
(.exit 0))
(.seq (.block 1
(.seq (.region [o_ (.indexAddrS 2 (.loc 8) (.loc 10)),o_ (.loadN 2 (.reg 0)),o_ (.allocL 6 [(.int .i64 0),(.int .i64 0)]),o_ (.store 2 (.reg 2) (.reg 1))])
(.region [o_ (.mov (.loc 5)),o_ (.fieldAddr 0 (.loc 6)),o_ (.load1 (.reg 1)),o_ (.lit false [(.int .i64 0)] 1 [(0,(.reg 2))]),o_ (.append false 1 8 3 (.reg 0) (.reg 3)),s_ 5 (.mov (.reg 4))])))
(.region [o_ (.bin .add (.loc 10) (i_ 1)),s_ 10 (.mov (.reg 0))]))))
def t52 : TFunc := ⟨1,12,[.loc 1,.loc 2],
(.seq (.region [s_ 1 (.mov (.cst (.sl .nil []))),s_ 2 (.mov (i_ 0))])
(.seq (.region [o_ (.mov (.loc 0)),o_ (.conv .strBytes (.reg 0)),o_ (.call true false 79 [(.reg 1)]),o_ (.mov (.reg 2)),o_ (.extract 0 (.reg 3)),o_ (.extract 1 (.reg 3)),o_ (.allocL 4 [(.int .i64 0),(.int .i64 0)]),s_ 3 (.mov (.reg 4)),o_ (.store 2 (.reg 6) (.reg 5))])
(.seq (.seq (.region [o_ (.fieldAddr 0 (.loc 4)),o_ (.load1 (.reg 0)),s_ 7 (.bin .neq (.reg 1) (i_ 0))])
(.cond (.loc 7)
(.seq (.draw [0,1,2,3] [] [o_ (.fieldAddr 0 (.loc 4)),o_ (.load1 (.reg 0)),s_ 1 (.mov (.cst (.sl .nil []))),s_ 2 (.mov (.reg 1))])
.ret)
.skip))
(.seq (.region [s_ 5 (.mov (.cst (.sl .nil [])))])
(.seq (.seq (.region [s_ 8 (.mov (.loc 3)),s_ 9 (.len .sl (.reg 0)),s_ 10 (.mov (i_ 0))])
(.block 0
(.loop t52L0)))
(.seq (.region [o_ (.mov (.loc 5)),s_ 1 (.mov (.reg 0)),s_ 2 (.mov (i_ 0))])
.ret))))))⟩
theorem c52 : compFunc Tryz.prog opts a52 Tryz.f52 = some t52 := by kernel_rfl
def a53 : Ann := { slots := [0,2,4],lb := [],mu := [],trunc := [],draws := [] }
def t53 : TFunc := ⟨1,3,[.loc 1],
(.seq (.region [s_ 1 (.mov (.cst (.int .u32 0)))])
(.seq (.seq (.region [o_ (.mov (.loc 0)),s_ 2 (.bin .neq (.reg 0) (i_ 0))])
(.cond (.loc 2)
(.seq (.region [s_ 1 (.mov (.cst (.int .u32 22)))])
.ret)
.skip))
(.seq (.region [s_ 1 (.mov (.cst (.int .u32 6)))])
.ret)))⟩
theorem c53 : compFunc Tryz.prog opts a53 Tryz.f53 = some t53 := by kernel_rfl
def a54 : Ann := { slots := [0,2,3,4,5,7,19,22,23,24,25,33],lb := [2],mu := [],trunc := [],draws := [] }
def t54L0 : TCode := (.seq (.region [s_ 10 (.bin .lss (.loc 9) (.loc 8))])
(.seq (.cond (.loc 10)
.skip
(.exit 0))
(.seq (.block 1
(.seq (.region [o_ (.indexAddrS 1 (.loc 7) (.loc 9)),o_ (.load1 (.reg 0)),s_ 5 (.mov (.reg 1))])
(.seq (.seq (.region [o_ (.mov (.loc 5)),o_ (.bin .lss (.reg 0) (.cst (.int .u8 48))),o_ (.mov (.reg 1)),⟨.mov (.loc 5),none,(some (2,false))⟩,⟨.bin .gtr (.reg 3) (.cst (.int .u8 57)),none,(some (2,false))⟩,s_ 11 (.pick (.reg 2) (.cst (.bool true)) (.reg 4))])
(.cond (.loc 11)
(.seq (.region [o_ (.build [(.bool false),(.sl .nil [])] []),o_ (.store 2 (.loc 1) (.reg 0)),s_ 2 (.mov (i_ 4))])
.ret)
.skip))
(.region [o_ (.mov (.loc 4)),o_ (.mov (.loc 5)),o_ (.bin .sub (.reg 1) (.cst (.int .u8 48))),o_ (.conv (.toInt .u32) (.reg 2)),o_ (.call true false 82 [(.reg 0),(.cst (.int .u32 10)),(.reg 3)]),o_ (.call true false 81 [(.reg 4)]),s_ 4 (.mov (.reg 5))]))))
(.region [o_ (.bin .add (.loc 9) (i_ 1)),s_ 9 (.mov (.reg 0))]))))
def t54 : TFunc := ⟨1,12,[.cell 1 2 true,.loc 2],
(.seq (.region [o_ (.allocL 1 [(.bool false),(.sl .nil [])]),s_ 2 (.mov (i_ 0))])
(.seq (.region [o_ (.mov (.loc 0)),o_ (.call true false 80 [(.reg 0),(.cst (.str [43,45]))]),s_ 3 (.mov (.reg 1))])
(.seq (.seq (.region [o_ (.mov (.loc 0)),o_ (.len .str (.reg 0)),o_ (.mov (.loc 3)),o_ (.len .str (.reg 2)),o_ (.bin .sub (.reg 1) (.reg 3)),o_ (.bin .gtr (.reg 4) (i_ 1)),o_ (.mov (.reg 5)),⟨.mov (.loc 3),none,(some (6,false))⟩,⟨.bin .eql (.reg 7) (.cst (.str [])),none,(some (6,false))⟩,s_ 6 (.pick (.reg 6) (.cst (.bool true)) (.reg 8))])
(.cond (.loc 6)
(.seq (.region [o_ (.build [(.bool false),(.sl .nil [])] []),o_ (.store 2 (.loc 1) (.reg 0)),s_ 2 (.mov (i_ 4))])
.ret)
.skip))
(.seq (.region [s_ 4 (.mov (.cst (.sl .nil [])))])
(.seq (.seq (.region [o_ (.mov (.loc 3)),s_ 7 (.conv .strBytes (.reg 0)),s_ 8 (.len .sl (.reg 1)),s_ 9 (.mov (i_ 0))])
(.block 0
(.loop t54L0)))
(.seq (.region [o_ (.mov (.loc 0)),o_ (.indexS (.reg 0) (i_ 0)),o_ (.bin .eql (.reg 1) (.cst (.int .u8 45))),o_ (.mov (.loc 4)),o_ (.call true false 83 [(.reg 2),(.reg 3)]),o_ (.store 2 (.loc 1) (.reg 4)),s_ 2 (.mov (i_ 0))])
.ret))))))⟩
theorem c54 : compFunc Tryz.prog opts a54 Tryz.f54 = some t54 := by kernel_rfl
def a55 : Ann := { slots := [0,1,3,4,5,6,7,9,15,21,26,27,28,29],lb := [3],mu := [],trunc := [],draws := [] }
def t55L0 : TCode := (.seq (.region [s_ 13 (.bin .lss (.loc 12) (.loc 11))])
(.seq (.cond (.loc 13)
.skip
(.exit 0))
(.seq (.block 1
(.seq (.region [o_ (.indexAddrS 1 (.loc 10) (.loc 12)),o_ (.load1 (.reg 0)),s_ 7 (.mov (.reg 1))])
(.region [o_ (.mov (.loc 6)),o_ (.mov (.loc 7)),o_ (.conv (.toInt .i64) (.reg 1)),o_ (.call true false 59 [(.reg 2)]),o_ (.lit false [(.int .u32 0)] 1 [(0,(.reg 3))]),o_ (.append false 1 4 26 (.reg 0) (.reg 4)),s_ 6 (.mov (.reg 5))])))
(.region [o_ (.bin .add (.loc 12) (i_ 1)),s_ 12 (.mov (.reg 0))]))))
def t55 : TFunc := ⟨2,14,[.loc 3],
(.seq (.region [o_ (.boxL 2 (.loc 1)),s_ 3 (.mov (.cst (.int .u32 0)))])
(.seq (.seq (.region [o_ (.loadN 2 (.loc 2)),o_ (.call true false 74 [(.reg 0)]),o_ (.mov (.reg 1)),o_ (.extract 0 (.reg 2)),o_ (.extract 1 (.reg 2)),s_ 4 (.mov (.reg 3)),s_ 5 (.mov (.reg 4))])
(.seq (.region [s_ 8 (.mov (.loc 5))])
(.cond (.loc 8)
(.seq (.region [o_ (.mov (.loc 4)),o_ (.call true false 59 [(.reg 0)]),s_ 3 (.mov (.reg 1))])
.ret)
.skip)))
(.seq (.region [o_ (.call true false 59 [(i_ 0)]),o_ (.lit false [(.int .u32 0)] 1 [(0,(.reg 0))]),s_ 6 (.mov (.reg 1))])
(.seq (.seq (.region [o_ (.fieldAddr 0 (.loc 2)),s_ 9 (.load1 (.reg 0))])
(.cond (.loc 9)
(.region [o_ (.mov (.loc 6)),o_ (.call true false 59 [(i_ 1)]),o_ (.indexAddrS 1 (.reg 0) (i_ 0)),o_ (.store 1 (.reg 2) (.reg 1))])
.skip))
(.seq (.seq (.region [o_ (.fieldAddr 1 (.loc 2)),s_ 10 (.load1 (.reg 0)),s_ 11 (.len .sl (.reg 1)),s_ 12 (.mov (i_ 0))])
(.block 0
(.loop t55L0)))
(.seq (.region [o_ (.mov (.loc 0)),o_ (.mov (.loc 6)),o_ (.call false false 25 [(.reg 0),(i_ 7),(.reg 1)]),s_ 3 (.mov (.reg 2))])
.ret))))))⟩
theorem c55 : compFunc Tryz.prog opts a55 Tryz.f55 = some t55 := by kernel_rfl
def a56 : Ann := { slots := [0,2],lb := [],mu := [],trunc := [],draws := [] }
def t56 : TFunc := ⟨1,2,[.loc 1],
(.seq (.region [s_ 1 (.mov (.cst (.int .u32 0)))])
(.seq (.region [o_ (.mov (.loc 0)),o_ (.conv (.toInt .u32) (.reg 0)),o_ (.bin .shl (.reg 1) (.cst (.int .u64 4))),o_ (.bin .or (.reg 2) (.cst (.int .u32 2))),s_ 1 (.mov (.reg 3))])
.ret))⟩
theorem c56 : compFunc Tryz.prog opts a56 Tryz.f56 = some t56 := by kernel_rfl
def a57 : Ann := { slots := [0,1,4,5,7,9,15,16,17,18],lb := [],mu := [],trunc := [],draws := [] }
def t57L0 : TCode := (.seq (.region [s_ 9 (.bin .lss (.loc 8) (.loc 7))])
(.seq (.cond (.loc 9)
.skip
(.exit 0))
(.seq (.block 1
(.seq (.region [o_ (.indexAddrS 1 (.loc 6) (.loc 8)),o_ (.load1 (.reg 0)),s_ 5 (.mov (.reg 1))])
(.region [o_ (.mov (.loc 4)),o_ (.mov (.loc 5)),o_ (.call true false 56 [(.reg 1)]),o_ (.lit false [(.int .u32 0)] 1 [(0,(.reg 2))]),o_ (.append false 1 4 26 (.reg 0) (.reg 3)),s_ 4 (.mov (.reg 4))])))
(.region [o_ (.bin .add (.loc 8) (i_ 1)),s_ 8 (.mov (.reg 0))]))))
def t57 : TFunc := ⟨2,10,[.loc 2],
(.seq (.region [s_ 2 (.mov (.cst (.int .u32 0)))])
(.seq (.region [o_ (.mov (.loc 1)),o_ (.call true false 52 [(.reg 0)]),o_ (.mov (.reg 1)),o_ (.extract 0 (.reg 2)),o_ (.extract 1 (.reg 2)),s_ 3 (.mov (.reg 3)),o_ (.mov (.reg 4))])
(.seq (.region [s_ 4 (.mov (.cst (.sl .nil [])))])
(.seq (.seq (.region [s_ 6 (.mov (.loc 3)),s_ 7 (.len .sl (.reg 0)),s_ 8 (.mov (i_ 0))])
(.block 0
(.loop t57L0)))
(.seq (.region [o_ (.mov (.loc 0)),o_ (.mov (.loc 4)),o_ (.call false false 25 [(.reg 0),(i_ 4),(.reg 1)]),s_ 2 (.mov (.reg 2))])
.ret)))))⟩
theorem c57 : compFunc Tryz.prog opts a57 Tryz.f57 = some t57 := by kernel_rfl
def a58 : Ann := { slots := [0,1,4,5,6,7,17],lb := [5],mu := [],trunc := [],draws := [] }
def t58 : TFunc := ⟨2,7,[.loc 2],
(.seq (.region [s_ 2 (.mov (.cst (.int .u32 0)))])
(.seq (.seq (.region [o_ (.mov (.loc 0)),o_ (.nilCheck (.reg 0)),o_ (.fieldAddr 2 (.reg 1)),o_ (.load1 (.reg 2)),o_ (.mov (.loc 1)),o_ (.lookup (.leaf .str) (.agg [(.int .u32 0)]) true (.reg 3) (.reg 4)),o_ (.mov (.reg 5)),o_ (.extract 0 (.reg 6)),o_ (.extract 1 (.reg 6)),o_ (.allocL 3 [(.int .u32 0)]),o_ (.store 1 (.reg 9) (.reg 7)),s_ 4 (.mov (.reg 8))])
(.seq (.region [s_ 6 (.mov (.loc 4))])
(.cond (.loc 6)
(.seq (.region [o_ (.fieldAddr 0 (.loc 3)),o_ (.load1 (.reg 0)),s_ 2 (.mov (.reg 1))])
.ret)
.skip)))
(.seq (.region [o_ (.mov (.loc 0)),o_ (.mov (.loc 0)),o_ (.mov (.loc 1)),o_ (.call false false 57 [(.reg 1),(.reg 2)]),o_ (.lit false [(.int .u32 0)] 1 [(0,(.reg 3))]),o_ (.call false false 25 [(.reg 0),(i_ 5),(.reg 4)]),s_ 5 (.mov (.reg 5))])
(.seq (.region [o_ (.mov (.loc 0)),o_ (.nilCheck (.reg 0)),o_ (.fieldAddr 2 (.reg 1)),o_ (.load1 (.reg 2)),o_ (.mov (.loc 1)),o_ (.mov (.loc 5)),o_ (.build [(.int .u32 0)] [(0,1,(.reg 5))]),o_ (.update (.leaf .str) (.reg 3) (.reg 4) (.reg 6))])
(.seq (.region [o_ (.mov (.loc 0)),o_ (.mov (.loc 0)),o_ (.nilCheck (.reg 1)),o_ (.fieldAddr 3 (.reg 2)),o_ (.load1 (.reg 3)),o_ (.mov (.loc 5)),o_ (.lit false [(.int .u32 0)] 1 [(0,(.reg 5))]),o_ (.append false 1 4 26 (.reg 4) (.reg 6)),o_ (.nilCheck (.reg 0)),o_ (.fieldAddr 3 (.reg 8)),o_ (.store 1 (.reg 9) (.reg 7))])
(.seq (.region [o_ (.mov (.loc 5)),s_ 2 (.mov (.reg 0))])
.ret))))))⟩
theorem c58 : compFunc Tryz.prog opts a58 Tryz.f58 = some t58 := by kernel_rfl
def a59 : Ann := { slots := [0,2],lb := [],mu := [],trunc := [],draws := [] }
def t59 : TFunc := ⟨1,2,[.loc 1],
(.seq (.region [s_ 1 (.mov (.cst (.int .u32 0)))])
(.seq (.region [o_ (.mov (.loc 0)),o_ (.conv (.toInt .u32) (.reg 0)),o_ (.bin .shl (.reg 1) (.cst (.int .u64 2))),s_ 1 (.mov (.reg 2))])
.ret))⟩
theorem c59 : compFunc Tryz.prog opts a59 Tryz.f59 = some t59 := by kernel_rfl
def a60 : Ann := { slots := [0,1,2],lb := [],mu := [],trunc := [],draws := [] }
def t60 : TFunc := ⟨1,3,[.loc 2],
(.seq (.region [s_ 1 (.boxH 26 (.loc 0)),s_ 2 (.mov (.cst .nilf))])
(.seq (.region [o_ (.mkFn 84 [] [(.loc 1)]),s_ 2 (.mov (.reg 0))])
.ret))⟩
theorem c60 : compFunc Tryz.prog opts a60 Tryz.f60 = some t60 := by kernel_rfl
def a67 : Ann := { slots := [0,1,2,3,4,5,6,12,15,26,38],lb := [1],mu := [(11,3)],trunc := [],draws := [] }
def t67L0 : TCode := (.seq (.seq (.region [o_ (.mov (.loc 3)),o_ (.len .sl (.reg 0)),s_ 8 (.bin .gtr (.reg 1) (i_ 0))])
(.cond (.loc 8)
.skip
(.exit 0)))
(.block 1
(.seq (.region [s_ 5 (.mov (.cst (.int .u32 0)))])
(.seq (.region [o_ (.mov (.loc 3)),o_ (.call true false 92 [(.reg 0),(.cst (.int .u32 10000))]),o_ (.mov (.reg 1)),o_ (.extract 0 (.reg 2)),o_ (.extract 1 (.reg 2)),s_ 3 (.mov (.reg 3)),s_ 5 (.mov (.reg 4))])
(.seq (.region [o_ (.mov (.loc 5)),o_ (.conv (.toInt .i64) (.reg 0)),o_ (.call true false 93 [(.reg 1)]),s_ 6 (.mov (.reg 2))])
(.seq (.seq (.region [o_ (.mov (.loc 3)),o_ (.len .sl (.reg 0)),s_ 9 (.bin .gtr (.reg 1) (i_ 0))])
(.cond (.loc 9)
(.region [o_ (.mov (.loc 6)),o_ (.len .str (.reg 0)),o_ (.bin .sub (i_ 4) (.reg 1)),o_ (.call true false 94 [(.cst (.str [48])),(.reg 2)]),o_ (.mov (.loc 6)),o_ (.bin .add (.reg 3) (.reg 4)),s_ 6 (.mov (.reg 5))])
.skip))
(.region [o_ (.mov (.loc 4)),o_ (.mov (.loc 6)),o_ (.lit false [(.str [])] 1 [(0,(.reg 1))]),o_ (.append true 1 16 9 (.reg 0) (.reg 2)),s_ 4 (.mov (.reg 3))])))))))
def t67 : TFunc := ⟨1,11,[.loc 2],
(.seq (.region [o_ (.boxL 1 (.loc 0)),s_ 2 (.mov (.cst (.str [])))])
(.seq (.region [o_ (.fieldAddr 1 (.loc 1)),o_ (.load1 (.reg 0)),o_ (.call true false 81 [(.reg 1)]),s_ 3 (.mov (.reg 2))])
(.seq (.seq (.region [o_ (.mov (.loc 3)),o_ (.len .sl (.reg 0)),s_ 7 (.bin .eql (.reg 1) (i_ 0))])
(.cond (.loc 7)
(.seq (.region [s_ 2 (.mov (.cst (.str [48])))])
.ret)
.skip))
(.seq (.region [s_ 4 (.mov (.cst (.sl .nil [])))])
(.seq (.block 0
(.loop t67L0))
(.seq (.seq (.region [o_ (.fieldAddr 0 (.loc 1)),s_ 10 (.load1 (.reg 0))])
(.cond (.loc 10)
(.region [o_ (.mov (.loc 4)),o_ (.lit false [(.str [])] 1 [(0,(.cst (.str [45])))]),o_ (.append false 1 16 9 (.reg 0) (.reg 1)),s_ 4 (.mov (.reg 2))])
.skip))
(.seq (.region [o_ (.mov (.loc 4)),o_ (.call false false 95 [(.reg 0)])])
(.seq (.region [o_ (.mov (.loc 4)),o_ (.call true false 96 [(.reg 0),(.cst (.str []))]),s_ 2 (.mov (.reg 1))])
.ret))))))))⟩
theorem c67 : compFunc Tryz.prog opts a67 Tryz.f67 = some t67 := by kernel_rfl
def a68 : Ann := { slots := [0,2,3,4,8,12],lb := [2],mu := [],trunc := [],draws := [] }
def t68L0 : TCode := (.seq (.seq (.region [o_ (.mov (.loc 2)),s_ 5 (.bin .neq (.reg 0) (.cst (.int .u64 0)))])
(.cond (.loc 5)
.skip
(.exit 0)))
(.seq (.block 1
(.region [o_ (.mov (.loc 3)),o_ (.mov (.loc 2)),o_ (.conv (.toInt .u16) (.reg 1)),o_ (.lit false [(.int .u16 0)] 1 [(0,(.reg 2))]),o_ (.append false 1 2 84 (.reg 0) (.reg 3)),s_ 3 (.mov (.reg 4))]))
(.region [o_ (.mov (.loc 2)),o_ (.bin .shr (.reg 0) (.cst (.int .u64 16))),s_ 2 (.mov (.reg 1))])))
def t68 : TFunc := ⟨1,6,[.cell 1 2 true],
(.seq (.region [o_ (.allocL 1 [(.bool false),(.sl .nil [])])])
(.seq (.region [o_ (.mov (.loc 0)),o_ (.conv (.toInt .u64) (.reg 0)),s_ 2 (.mov (.reg 1))])
(.seq (.seq (.region [o_ (.mov (.loc 0)),s_ 4 (.bin .lss (.reg 0) (i_ 0))])
(.cond (.loc 4)
(.region [o_ (.mov (.loc 2)),o_ (.un .neg (.reg 0)),s_ 2 (.mov (.reg 1))])
.skip))
(.seq (.region [s_ 3 (.mov (.cst (.sl .nil [])))])
(.seq (.block 0
(.loop t68L0))
(.seq (.region [o_ (.mov (.loc 0)),o_ (.bin .lss (.reg 0) (i_ 0)),o_ (.mov (.loc 3)),o_ (.call true false 83 [(.reg 1),(.reg 2)]),o_ (.store 2 (.loc 1) (.reg 3))])
.ret))))))⟩
theorem c68 : compFunc Tryz.prog opts a68 Tryz.f68 = some t68 := by kernel_rfl
def a69 : Ann := { slots := [0,2,12],lb := [],mu := [],trunc := [],draws := [] }
def t69 : TFunc := ⟨1,3,[.loc 1],
(.seq (.region [s_ 1 (.mov (i_ 0))])
(.seq (.seq (.region [o_ (.mov (.loc 0)),o_ (.bin .and (.reg 0) (.cst (.int .u32 15))),o_ (.bin .neq (.reg 1) (.cst (.int .u32 2))),o_ (.mov (.reg 2)),⟨.mov (.loc 0),none,(some (3,false))⟩,⟨.bin .shr (.reg 4) (.cst (.int .u64 4)),none,(some (3,false))⟩,⟨.conv (.toInt .i64) (.reg 5),none,(some (3,false))⟩,⟨.call true false 51 [(.reg 6)],none,(some (3,false))⟩,⟨.un .not (.reg 7),none,(some (3,false))⟩,s_ 2 (.pick (.reg 3) (.cst (.bool true)) (.reg 8))])
(.cond (.loc 2)
(.seq (.region [s_ 1 (.mov (i_ (-1)))])
.ret)
.skip))
(.seq (.region [o_ (.mov (.loc 0)),o_ (.bin .shr (.reg 0) (.cst (.int .u64 4))),o_ (.conv (.toInt .i64) (.reg 1)),s_ 1 (.mov (.reg 2))])
.ret)))⟩
theorem c69 : compFunc Tryz.prog opts a69 Tryz.f69 = some t69 := by kernel_rfl
def a70 : Ann := { slots := [0,1,3,4,6,8,9,10],lb := [4],mu := [],trunc := [],draws := [] }
def t70 : TFunc := ⟨2,8,[.cell 3 5 true],
(.seq (.region [s_ 2 (.boxH 38 (.loc 1)),o_ (.allocL 3 [(.int .i64 0),(.int .i64 0),(.str []),(.sl .nil []),(.int .i64 0)])])
(.seq (.seq (.region [o_ (.mov (.loc 0)),s_ 5 (.call false false 97 [(.reg 0)])])
(.block 0
(.rangeFunc (.loc 5) [6,7]
(.region [s_ 4 (.allocH 38 [(.int .i64 0),(.int .i64 0),(.str []),(.sl .nil []),(.int .i64 0)]),o_ (.store 5 (.reg 0) (.loc 7))])
(.block 1
(.region [o_ (.loadN 5 (.loc 4)),o_ (.loadN 5 (.loc 2)),o_ (.lit false [(.int .i64 0),(.int .i64 0),(.str []),(.sl .nil []),(.int .i64 0)] 2 [(0,(.reg 0)),(1,(.reg 1))]),o_ (.fieldAddr 4 (.loc 4)),o_ (.load1 (.reg 3)),o_ (.build [(.int .i64 0),(.int .i64 0),(.str []),(.sl .nil []),(.int .i64 0)] [(0,1,(i_ 6)),(3,1,(.reg 2)),(4,1,(.reg 4))]),o_ (.store 5 (.loc 2) (.reg 5))])))))
(.seq (.region [o_ (.loadN 5 (.loc 2)),o_ (.store 5 (.loc 3) (.reg 0))])
.ret)))⟩
theorem c70 : compFunc Tryz.prog opts a70 Tryz.f70 = some t70 := by kernel_rfl
def a71 : Ann := { slots := [0,1,4,5,6],lb := [],mu := [],trunc := [],draws := [] }
def t71 : TFunc := ⟨2,5,[.loc 2,.loc 3],
(.seq (.region [s_ 2 (.mov (i_ 0)),s_ 3 (.mov (.cst .nili))])
(.seq (.region [o_ (.mov (.loc 0)),o_ (.prim 98 [(.reg 0)])])
(.seq (.region [o_ (.mov (.loc 0)),o_ (.nilCheck (.reg 0)),o_ (.fieldAddr 1 (.reg 1)),o_ (.load1 (.reg 2)),o_ (.len .sl (.reg 3)),s_ 4 (.mov (.reg 4))])
(.seq (.region [o_ (.mov (.loc 0)),o_ (.mov (.loc 0)),o_ (.nilCheck (.reg 1)),o_ (.fieldAddr 1 (.reg 2)),o_ (.load1 (.reg 3)),o_ (.mov (.loc 1)),o_ (.call false false 99 [(.reg 4),(.reg 5)]),o_ (.nilCheck (.reg 0)),o_ (.fieldAddr 1 (.reg 7)),o_ (.store 1 (.reg 8) (.reg 6))])
(.seq (.region [o_ (.mov (.loc 0)),o_ (.nilCheck (.reg 0)),o_ (.fieldAddr 1 (.reg 1)),o_ (.load1 (.reg 2)),o_ (.len .sl (.reg 3)),o_ (.mov (.loc 4)),o_ (.bin .sub (.reg 4) (.reg 5)),s_ 2 (.mov (.reg 6)),s_ 3 (.mov (.cst .nili))])
.ret)))))⟩
theorem c71 : compFunc Tryz.prog opts a71 Tryz.f71 = some t71 := by kernel_rfl
def a73 : Ann := { slots := [0,1,4,19],lb := [],mu := [],trunc := [],draws := [] }
def t73 : TFunc := ⟨2,4,[.loc 2],
(.seq (.region [s_ 2 (.mov (i_ 0))])
(.seq (.seq (.region [o_ (.mov (.loc 0)),o_ (.bin .and (.reg 0) (.cst (.int .u32 3))),o_ (.bin .neq (.reg 1) (.cst (.int .u32 0))),o_ (.mov (.reg 2)),⟨.mov (.loc 0),none,(some (3,false))⟩,⟨.conv (.toInt .i32) (.reg 4),none,(some (3,false))⟩,⟨.bin .lss (.reg 5) (.cst (.int .i32 0)),none,(some (3,false))⟩,o_ (.pick (.reg 3) (.cst (.bool true)) (.reg 6)),o_ (.mov (.reg 7)),⟨.mov (.loc 0),none,(some (8,false))⟩,⟨.bin .shr (.reg 9) (.cst (.int .u64 2)),none,(some (8,false))⟩,⟨.conv (.toInt .i64) (.reg 10),none,(some (8,false))⟩,⟨.mov (.loc 1),none,(some (8,false))⟩,⟨.bin .gtr (.reg 11) (.reg 12),none,(some (8,false))⟩,s_ 3 (.pick (.reg 8) (.cst (.bool true)) (.reg 13))])
(.cond (.loc 3)
(.seq (.region [s_ 2 (.mov (i_ (-1)))])
.ret)
.skip))
(.seq (.region [o_ (.mov (.loc 0)),o_ (.bin .shr (.reg 0) (.cst (.int .u64 2))),o_ (.conv (.toInt .i64) (.reg 1)),s_ 2 (.mov (.reg 2))])
.ret)))⟩
theorem c73 : compFunc Tryz.prog opts a73 Tryz.f73 = some t73 := by kernel_rfl
def a74 : Ann := { slots := [0,1,2,3,4,5,20],lb := [1],mu := [],trunc := [],draws := [] }
def t74 : TFunc := ⟨1,7,[.loc 2,.loc 3],
(.seq (.region [o_ (.boxL 1 (.loc 0)),s_ 2 (.mov (i_ 0)),s_ 3 (.mov (.cst (.bool false)))])
(.seq (.region [o_ (.loadN 2 (.loc 1)),o_ (.call true false 100 [(.reg 0)]),o_ (.mov (.reg 1)),o_ (.extract 0 (.reg 2)),o_ (.extract 1 (.reg 2)),s_ 4 (.mov (.reg 3)),s_ 5 (.mov (.reg 4))])
(.seq (.seq (.region [o_ (.mov (.loc 5)),o_ (.un .not (.reg 0)),o_ (.mov (.reg 1)),⟨.mov (.loc 4),none,(some (2,false))⟩,⟨.bin .lss (.reg 3) (i_ (-536870912)),none,(some (2,false))⟩,o_ (.pick (.reg 2) (.cst (.bool true)) (.reg 4)),o_ (.mov (.reg 5)),⟨.mov (.loc 4),none,(some (6,false))⟩,⟨.bin .gtr (.reg 7) (i_ 536870911),none,(some (6,false))⟩,s_ 6 (.pick (.reg 6) (.cst (.bool true)) (.reg 8))])
(.cond (.loc 6)
(.seq (.region [s_ 2 (.mov (i_ 0)),s_ 3 (.mov (.cst (.bool false)))])
.ret)
.skip))
(.seq (.region [o_ (.mov (.loc 4)),s_ 2 (.mov (.reg 0)),s_ 3 (.mov (.cst (.bool true)))])
.ret))))⟩
theorem c74 : compFunc Tryz.prog opts a74 Tryz.f74 = some t74 := by kernel_rfl
def a75 : Ann := { slots := [0,1,4],lb := [],mu := [],trunc := [],draws := [] }
def t75 : TFunc := ⟨2,3,[.loc 2],
(.seq (.region [s_ 2 (.mov (.cst (.str [])))])
(.seq (.region [o_ (.mov (.loc 0)),o_ (.mov (.loc 1)),o_ (.call true false 101 [(.reg 0),(.reg 1)]),s_ 2 (.mov (.reg 2))])
.ret))⟩
theorem c75 : compFunc Tryz.prog opts a75 Tryz.f75 = some t75 := by kernel_rfl
def a76 : Ann := { slots := [0,1,4],lb := [],mu := [],trunc := [],draws := [] }
def t76 : TFunc := ⟨2,3,[.loc 2],
(.seq (.region [s_ 2 (.mov (.cst (.bool false)))])
(.seq (.region [o_ (.mov (.loc 0)),o_ (.mov (.loc 1)),o_ (.call false false 102 [(.reg 0),(.reg 1)]),o_ (.bin .geq (.reg 2) (i_ 0)),s_ 2 (.mov (.reg 3))])
.ret))⟩
theorem c76 : compFunc Tryz.prog opts a76 Tryz.f76 = some t76 := by kernel_rfl
def a77 : Ann := { slots := [0,2],lb := [],mu := [],trunc := [],draws := [] }
def t77 : TFunc := ⟨1,2,[.loc 1],
(.seq (.region [s_ 1 (.mov (.cst (.bool false)))])
(.seq (.region [o_ (.mov (.loc 0)),o_ (.bin .lss (.reg 0) (.cst (.int .i32 48))),o_ (.mov (.reg 1)),⟨.mov (.loc 0),none,(some (2,false))⟩,⟨.bin .gtr (.reg 3) (.cst (.int .i32 57)),none,(some (2,false))⟩,o_ (.pick (.reg 2) (.cst (.bool true)) (.reg 4)),s_ 1 (.mov (.reg 5))])
.ret))⟩
theorem c77 : compFunc Tryz.prog opts a77 Tryz.f77 = some t77 := by kernel_rfl
def a78 : Ann := { slots := [0,2,3,10],lb := [],mu := [],trunc := [],draws := [] }
def t78 : TFunc := ⟨1,4,[.loc 1],
(.seq (.region [s_ 1 (.mov (.cst (.bool false)))])
(.seq (.block 0
(.seq (.region [o_ (.mov (.loc 0)),o_ (.bin .leq (.cst (.int .i32 0)) (.reg 0)),o_ (.mov (.reg 1)),⟨.mov (.loc 0),none,(some (2,true))⟩,⟨.bin .lss (.reg 3) (.cst (.int .i32 55296)),none,(some (2,true))⟩,o_ (.pick (.reg 2) (.reg 4) (.cst (.bool false))),s_ 2 (.mov (.reg 5))])
(.cond (.loc 2)
(.seq (.region [s_ 1 (.mov (.cst (.bool true)))])
.ret)
(.seq (.region [o_ (.mov (.loc 0)),o_ (.bin .lss (.cst (.int .i32 57343)) (.reg 0)),o_ (.mov (.reg 1)),⟨.mov (.loc 0),none,(some (2,true))⟩,⟨.bin .leq (.reg 3) (.cst (.int .i32 1114111)),none,(some (2,true))⟩,o_ (.pick (.reg 2) (.reg 4) (.cst (.bool false))),s_ 3 (.mov (.reg 5))])
(.cond (.loc 3)
(.seq (.region [s_ 1 (.mov (.cst (.bool true)))])
.ret)
.skip)))))
(.seq (.region [s_ 1 (.mov (.cst (.bool false)))])
.ret)))⟩
theorem c78 : compFunc Tryz.prog opts a78 Tryz.f78 = some t78 := by kernel_rfl
def a79 : Ann := { slots := [0,2,3,4,5,6,8,11,12,13,17,27],lb := [3],mu := [],trunc := [],draws := [] }
def t79L0 : TCode := (.seq (.region [s_ 8 (.nextS (.loc 7)),s_ 9 (.extract 0 (.reg 0))])
(.seq (.cond (.loc 9)
.skip
(.exit 0))
(.block 1
(.seq (.region [o_ (.extract 1 (.loc 8)),o_ (.extract 2 (.loc 8)),s_ 4 (.mov (.reg 0)),s_ 5 (.mov (.reg 1))])
(.seq (.seq (.region [o_ (.mov (.loc 5)),s_ 10 (.bin .eql (.reg 0) (.cst (.int .i32 65533)))])
(.cond (.loc 10)
(.seq (.region [o_ (.mov (.loc 0)),o_ (.mov (.loc 4)),o_ (.slice (.sl 1) (.reg 0) (some (.reg 1)) none none),o_ (.call true false 103 [(.reg 2)]),o_ (.mov (.reg 3)),o_ (.extract 0 (.reg 4)),o_ (.extract 1 (.reg 4)),o_ (.mov (.reg 5)),s_ 6 (.mov (.reg 6))])
(.seq (.region [o_ (.mov (.loc 5)),o_ (.mov (.loc 6)),s_ 11 (.call true false 104 [(.reg 0),(.reg 1)])])
(.cond (.loc 11)
(.seq (.region [o_ (.mov (.loc 4)),o_ (.build [(.int .i64 0),(.int .i64 0)] [(0,1,(i_ 4)),(1,1,(.reg 0))]),s_ 1 (.mov (.cst (.sl .nil []))),o_ (.store 2 (.loc 2) (.reg 1))])
.ret)
.skip)))
.skip))
(.region [o_ (.mov (.loc 3)),o_ (.mov (.loc 5)),o_ (.conv (.toInt .i64) (.reg 1)),o_ (.mov (.loc 4)),o_ (.build [(.int .i64 0),(.int .i64 0)] [(0,1,(.reg 2)),(1,1,(.reg 3))]),o_ (.lit false [(.int .i64 0),(.int .i64 0)] 1 [(0,(.reg 4))]),o_ (.append false 2 16 132 (.reg 0) (.reg 5)),s_ 3 (.mov (.reg 6))]))))))
def t79 : TFunc := ⟨1,12,[.loc 1,.cell 2 2 true],
(.seq (.region [s_ 1 (.mov (.cst (.sl .nil []))),o_ (.allocL 2 [(.int .i64 0),(.int .i64 0)])])
(.seq (.region [s_ 3 (.mov (.cst (.sl .nil [])))])
(.seq (.seq (.region [o_ (.mov (.loc 0)),o_ (.conv .bytesStr (.reg 0)),s_ 7 (.range true (.reg 1))])
(.block 0
(.loop t79L0)))
(.seq (.region [o_ (.mov (.loc 3)),o_ (.build [(.int .i64 0),(.int .i64 0)] []),s_ 1 (.mov (.reg 0)),o_ (.store 2 (.loc 2) (.reg 1))])
.ret))))⟩
theorem c79 : compFunc Tryz.prog opts a79 Tryz.f79 = some t79 := by kernel_rfl
def a80 : Ann := { slots := [0,1,4,5,6,12,21,31],lb := [],mu := [],trunc := [],draws := [] }
def t80 : TFunc := ⟨2,8,[.loc 2],
(.seq (.region [s_ 2 (.mov (.cst (.str [])))])
(.seq (.seq (.region [o_ (.mov (.loc 0)),o_ (.bin .eql (.reg 0) (.cst (.str []))),o_ (.mov (.reg 1)),⟨.mov (.loc 1),none,(some (2,false))⟩,⟨.bin .eql (.reg 3) (.cst (.str [])),none,(some (2,false))⟩,s_ 5 (.pick (.reg 2) (.cst (.bool true)) (.reg 4))])
(.cond (.loc 5)
(.seq (.region [o_ (.mov (.loc 0)),s_ 2 (.mov (.reg 0))])
.ret)
.skip))
(.seq (.seq (.region [o_ (.mov (.loc 1)),o_ (.len .str (.reg 0)),o_ (.bin .eql (.reg 1) (i_ 1)),o_ (.mov (.reg 2)),⟨.mov (.loc 1),none,(some (3,true))⟩,⟨.indexS (.reg 4) (i_ 0),none,(some (3,true))⟩,⟨.bin .lss (.reg 5) (.cst (.int .u8 128)),none,(some (3,true))⟩,s_ 6 (.pick (.reg 3) (.reg 6) (.cst (.bool false)))])
(.cond (.loc 6)
(.seq (.region [o_ (.mov (.loc 0)),o_ (.mov (.loc 1)),o_ (.indexS (.reg 1) (i_ 0)),o_ (.call true false 105 [(.reg 0),(.reg 2)]),s_ 2 (.mov (.reg 3))])
.ret)
.skip))
(.seq (.seq (.region [o_ (.mov (.loc 1)),o_ (.call true false 106 [(.reg 0)]),o_ (.mov (.reg 1)),o_ (.extract 0 (.reg 2)),o_ (.extract 1 (.reg 2)),s_ 3 (.allocH 173 [(.bool false),(.bool false),(.bool false),(.bool false),(.bool false),(.bool false),(.bool false),(.bool false),(.bool false),(.bool false),(.bool false),(.bool false),(.bool false),(.bool false),(.bool false),(.bool false),(.bool false),(.bool false),(.bool false),(.bool false),(.bool false),(.bool false),(.bool false),(.bool false),(.bool false),(.bool false),(.bool false),(.bool false),(.bool false),(.bool false),(.bool false),(.bool false),(.bool false),(.bool false),(.bool false),(.bool false),(.bool false),(.bool false),(.bool false),(.bool false),(.bool false),(.bool false),(.bool false),(.bool false),(.bool false),(.bool false),(.bool false),(.bool false),(.bool false),(.bool false),(.bool false),(.bool false),(.bool false),(.bool false),(.bool false),(.bool false),(.bool false),(.bool false),(.bool false),(.bool false),(.bool false),(.bool false),(.bool false),(.bool false),(.bool false),(.bool false),(.bool false),(.bool false),(.bool false),(.bool false),(.bool false),(.bool false),(.bool false),(.bool false),(.bool false),(.bool false),(.bool false),(.bool false),(.bool false),(.bool false),(.bool false),(.bool false),(.bool false),(.bool false),(.bool false),(.bool false),(.bool false),(.bool false),(.bool false),(.bool false),(.bool false),(.bool false),(.bool false),(.bool false),(.bool false),(.bool false),(.bool false),(.bool false),(.bool false),(.bool false),(.bool false),(.bool false),(.bool false),(.bool false),(.bool false),(.bool false),(.bool false),(.bool false),(.bool false),(.bool false),(.bool false),(.bool false),(.bool false),(.bool false),(.bool false),(.bool false),(.bool false),(.bool false),(.bool false),(.bool false),(.bool false),(.bool false),(.bool false),(.bool false),(.bool false),(.bool false),(.bool false),(.bool false),(.bool false),(.bool false),(.bool false),(.bool false),(.bool false),(.bool false),(.bool false),(.bool false),(.bool false),(.bool false),(.bool false),(.bool false),(.bool false),(.bool false),(.bool false),(.bool false),(.bool false),(.bool false),(.bool false),(.bool false),(.bool false),(.bool false),(.bool false),(.bool false),(.bool false),(.bool false),(.bool false),(.bool false),(.bool false),(.bool false),(.bool false),(.bool false),(.bool false),(.bool false),(.bool false),(.bool false),(.bool false),(.bool false),(.bool false),(.bool false),(.bool false),(.bool false),(.bool false),(.bool false),(.bool false),(.bool false),(.bool false),(.bool false),(.bool false),(.bool false),(.bool false),(.bool false),(.bool false),(.bool false),(.bool false),(.bool false),(.bool false),(.bool false),(.bool false),(.bool false),(.bool false),(.bool false),(.bool false),(.bool false),(.bool false),(.bool false),(.bool false),(.bool false),(.bool false),(.bool false),(.bool false),(.bool false),(.bool false),(.bool false),(.bool false),(.bool false),(.bool false),(.bool false),(.bool false),(.bool false),(.bool false),(.bool false),(.bool false),(.bool false),(.bool false),(.bool false),(.bool false),(.bool false),(.bool false),(.bool false),(.bool false),(.bool false),(.bool false),(.bool false),(.bool false),(.bool false),(.bool false),(.bool false),(.bool false),(.bool false),(.bool false),(.bool false),(.bool false),(.bool false),(.bool false),(.bool false),(.bool false),(.bool false),(.bool false),(.bool false),(.bool false),(.bool false),(.bool false),(.bool false),(.bool false),(.bool false),(.bool false),(.bool false),(.bool false),(.bool false),(.bool false),(.bool false),(.bool false),(.bool false),(.bool false),(.bool false),(.bool false),(.bool false)]),o_ (.store 256 (.reg 5) (.reg 3)),s_ 4 (.mov (.reg 4))])
(.seq (.region [s_ 7 (.mov (.loc 4))])
(.cond (.loc 7)
(.seq (.region [o_ (.mov (.loc 0)),o_ (.call false false 107 [(.reg 0),(.loc 3)]),s_ 2 (.mov (.reg 1))])
.ret)
.skip)))
(.seq (.region [o_ (.mov (.loc 0)),o_ (.mov (.loc 1)),o_ (.call true false 108 [(.reg 0),(.reg 1)]),s_ 2 (.mov (.reg 2))])
.ret)))))⟩
theorem c80 : compFunc Tryz.prog opts a80 Tryz.f80 = some t80 := by kernel_rfl
def a81 : Ann := { slots := [0,2,14],lb := [],mu := [],trunc := [],draws := [] }
def t81L0 : TCode := (.seq (.seq (.region [o_ (.mov (.loc 0)),o_ (.len .sl (.reg 0)),o_ (.bin .gtr (.reg 1) (i_ 0)),o_ (.mov (.reg 2)),⟨.mov (.loc 0),none,(some (3,true))⟩,⟨.mov (.loc 0),none,(some (3,true))⟩,⟨.len .sl (.reg 5),none,(some (3,true))⟩,⟨.bin .sub (.reg 6) (i_ 1),none,(some (3,true))⟩,⟨.indexAddrS 1 (.reg 4) (.reg 7),none,(some (3,true))⟩,⟨.load1 (.reg 8),none,(some (3,true))⟩,⟨.bin .eql (.reg 9) (.cst (.int .u16 0)),none,(some (3,true))⟩,s_ 2 (.pick (.reg 3) (.reg 10) (.cst (.bool false)))])
(.cond (.loc 2)
.skip
(.exit 0)))
(.block 1
(.region [o_ (.mov (.loc 0)),o_ (.mov (.loc 0)),o_ (.len .sl (.reg 1)),o_ (.bin .sub (.reg 2) (i_ 1)),o_ (.slice (.sl 1) (.reg 0) none (some (.reg 3)) none),s_ 0 (.mov (.reg 4))])))
def t81 : TFunc := ⟨1,3,[.loc 1],
(.seq (.region [s_ 1 (.mov (.cst (.sl .nil [])))])
(.seq (.block 0
(.loop t81L0))
(.seq (.region [o_ (.mov (.loc 0)),s_ 1 (.mov (.reg 0))])
.ret)))⟩
theorem c81 : compFunc Tryz.prog opts a81 Tryz.f81 = some t81 := by kernel_rfl
def a82 : Ann := { slots := [0,1,2,6,7,9,10,11,12,13],lb := [],mu := [],trunc := [],draws := [] }
def t82L0 : TCode := (.seq (.region [s_ 9 (.bin .lss (.loc 8) (.loc 7))])
(.seq (.cond (.loc 9)
.skip
(.exit 0))
(.seq (.block 1
(.seq (.region [o_ (.indexAddrS 1 (.loc 6) (.loc 8)),o_ (.load1 (.reg 0)),s_ 5 (.mov (.reg 1))])
(.seq (.region [o_ (.mov (.loc 2)),o_ (.mov (.loc 5)),o_ (.conv (.toInt .u32) (.reg 1)),o_ (.mov (.loc 1)),o_ (.bin .mul (.reg 2) (.reg 3)),o_ (.bin .add (.reg 0) (.reg 4)),s_ 2 (.mov (.reg 5))])
(.seq (.region [o_ (.mov (.loc 4)),o_ (.mov (.loc 2)),o_ (.conv (.toInt .u16) (.reg 1)),o_ (.lit false [(.int .u16 0)] 1 [(0,(.reg 2))]),o_ (.append false 1 2 84 (.reg 0) (.reg 3)),s_ 4 (.mov (.reg 4))])
(.region [o_ (.mov (.loc 2)),o_ (.bin .shr (.reg 0) (.cst (.int .u64 16))),s_ 2 (.mov (.reg 1))])))))
(.region [o_ (.bin .add (.loc 8) (i_ 1)),s_ 8 (.mov (.reg 0))]))))
def t82 : TFunc := ⟨3,10,[.loc 3],
(.seq (.region [s_ 3 (.mov (.cst (.sl .nil [])))])
(.seq (.region [s_ 4 (.mov (.cst (.sl .nil [])))])
(.seq (.seq (.region [s_ 6 (.mov (.loc 0)),s_ 7 (.len .sl (.reg 0)),s_ 8 (.mov (i_ 0))])
(.block 0
(.loop t82L0)))
(.seq (.region [o_ (.mov (.loc 4)),o_ (.mov (.loc 2)),o_ (.conv (.toInt .u16) (.reg 1)),o_ (.lit false [(.int .u16 0)] 1 [(0,(.reg 2))]),o_ (.append false 1 2 84 (.reg 0) (.reg 3)),s_ 3 (.mov (.reg 4))])
.ret))))⟩
theorem c82 : compFunc Tryz.prog opts a82 Tryz.f82 = some t82 := by kernel_rfl
def a83 : Ann := { slots := [0,1,4],lb := [4],mu := [],trunc := [],draws := [] }
def t83 : TFunc := ⟨2,3,[.cell 2 2 true],
(.seq (.region [o_ (.allocL 2 [(.bool false),(.sl .nil [])])])
(.seq (.region [o_ (.mov (.loc 1)),o_ (.call true false 81 [(.reg 0)]),s_ 1 (.mov (.reg 1))])
(.seq (.region [o_ (.mov (.loc 0)),o_ (.mov (.reg 0)),⟨.mov (.loc 1),none,(some (1,true))⟩,⟨.len .sl (.reg 2),none,(some (1,true))⟩,⟨.bin .gtr (.reg 3) (i_ 0),none,(some (1,true))⟩,o_ (.pick (.reg 1) (.reg 4) (.cst (.bool false))),o_ (.mov (.loc 1)),o_ (.build [(.bool false),(.sl .nil [])] [(0,1,(.reg 5)),(1,1,(.reg 6))]),o_ (.store 2 (.loc 2) (.reg 7))])
.ret)))⟩
theorem c83 : compFunc Tryz.prog opts a83 Tryz.f83 = some t83 := by kernel_rfl
def a84 : Ann := { slots := [0,1,3,8,18],lb := [],mu := [],trunc := [],draws := [] }
def t84L0 : TCode := (.seq (.seq (.region [o_ (.mov (.loc 2)),s_ 3 (.bin .geq (.reg 0) (i_ 0))])
(.cond (.loc 3)
.skip
(.exit 0)))
(.seq (.block 1
(.seq (.region [o_ (.mov (.loc 0)),o_ (.mov (.loc 2)),o_ (.load1 (.loc 1)),o_ (.mov (.loc 2)),o_ (.indexAddrS 1 (.reg 2) (.reg 3)),o_ (.load1 (.reg 4)),o_ (.callv (.reg 0) [(.reg 1),(.reg 5)]),s_ 4 (.un .not (.reg 6))])
(.cond (.loc 4)
.ret
.skip)))
(.region [o_ (.mov (.loc 2)),o_ (.bin .sub (.reg 0) (i_ 1)),s_ 2 (.mov (.reg 1))])))
def t84 : TFunc := ⟨2,5,[],
(.seq (.region [o_ (.load1 (.loc 1)),o_ (.len .sl (.reg 0)),o_ (.bin .sub (.reg 1) (i_ 1)),s_ 2 (.mov (.reg 2))])
(.block 0
(.loop t84L0)))⟩
theorem c84 : compFunc Tryz.prog opts a84 Tryz.f84 = some t84 := by kernel_rfl
def a92 : Ann := { slots := [0,1,4,5,6,7,8,16],lb := [],mu := [],trunc := [],draws := [] }
def t92L0 : TCode := (.seq (.seq (.region [o_ (.mov (.loc 6)),s_ 7 (.bin .geq (.reg 0) (i_ 0))])
(.cond (.loc 7)
.skip
(.exit 0)))
(.seq (.block 1
(.seq (.region [o_ (.mov (.loc 5)),o_ (.bin .shl (.reg 0) (.cst (.int .u64 16))),o_ (.mov (.loc 0)),o_ (.mov (.loc 6)),o_ (.indexAddrS 1 (.reg 2) (.reg 3)),o_ (.load1 (.reg 4)),o_ (.conv (.toInt .u32) (.reg 5)),o_ (.bin .or (.reg 1) (.reg 6)),s_ 5 (.mov (.reg 7))])
(.seq (.region [o_ (.mov (.loc 4)),o_ (.mov (.loc 6)),o_ (.mov (.loc 5)),o_ (.mov (.loc 1)),o_ (.bin .quo (.reg 2) (.reg 3)),o_ (.conv (.toInt .u16) (.reg 4)),o_ (.indexAddrS 1 (.reg 0) (.reg 1)),o_ (.store 1 (.reg 6) (.reg 5))])
(.region [o_ (.mov (.loc 5)),o_ (.mov (.loc 1)),o_ (.bin .rem (.reg 0) (.reg 1)),s_ 5 (.mov (.reg 2))]))))
(.region [o_ (.mov (.loc 6)),o_ (.bin .sub (.reg 0) (i_ 1)),s_ 6 (.mov (.reg 1))])))
def t92 : TFunc := ⟨2,8,[.loc 2,.loc 3],
(.seq (.region [s_ 2 (.mov (.cst (.sl .nil []))),s_ 3 (.mov (.cst (.int .u32 0)))])
(.seq (.region [o_ (.mov (.loc 0)),o_ (.len .sl (.reg 0)),o_ (.mkSlice [(.int .u16 0)] 2 (.reg 1) (.reg 1)),s_ 4 (.mov (.reg 2)),s_ 5 (.mov (.cst (.int .u32 0)))])
(.seq (.seq (.region [o_ (.mov (.loc 0)),o_ (.len .sl (.reg 0)),o_ (.bin .sub (.reg 1) (i_ 1)),s_ 6 (.mov (.reg 2))])
(.block 0
(.loop t92L0)))
(.seq (.region [o_ (.mov (.loc 4)),o_ (.call true false 81 [(.reg 0)]),o_ (.mov (.loc 5)),s_ 2 (.mov (.reg 1)),s_ 3 (.mov (.reg 2))])
.ret))))⟩
theorem c92 : compFunc Tryz.prog opts a92 Tryz.f92 = some t92 := by kernel_rfl
def a93 : Ann := { slots := [0,2],lb := [],mu := [],trunc := [],draws := [] }
def t93 : TFunc := ⟨1,2,[.loc 1],
(.seq (.region [s_ 1 (.mov (.cst (.str [])))])
(.seq (.region [o_ (.mov (.loc 0)),o_ (.call true false 116 [(.reg 0)]),s_ 1 (.mov (.reg 1))])
.ret))⟩
theorem c93 : compFunc Tryz.prog opts a93 Tryz.f93 = some t93 := by kernel_rfl
def a94 : Ann := { slots := [0,1,4,5,6,7,8,9,10,11,12,14,18,34,40,42,43,49,58,67,76,85,96,104,113],lb := [],mu := [],trunc := [],draws := [] }
def t94L0 : TCode := (.seq (.seq (.region [o_ (.call false false 121 [(.loc 7)]),o_ (.mov (.loc 5)),s_ 24 (.bin .lss (.reg 0) (.reg 1))])
(.cond (.loc 24)
.skip
(.exit 3)))
(.block 4
(.seq (.region [o_ (.mov (.loc 5)),o_ (.call false false 121 [(.loc 7)]),o_ (.bin .sub (.reg 0) (.reg 1)),o_ (.call false false 121 [(.loc 7)]),o_ (.mov (.loc 6)),o_ (.minmax false [(.reg 2),(.reg 3),(.reg 4)]),s_ 8 (.mov (.reg 5))])
(.region [o_ (.prim 72 [(.loc 7)]),o_ (.mov (.loc 8)),o_ (.slice .str (.reg 0) none (some (.reg 1)) none),o_ (.call false false 120 [(.loc 7),(.reg 2)])]))))
def t94 : TFunc := ⟨2,25,[.loc 2],
(.seq (.region [s_ 2 (.mov (.cst (.str [])))])
(.seq (.seq (.region [s_ 9 (.mov (.loc 1))])
(.block 0
(.seq (.region [o_ (.bin .eql (.loc 9) (i_ 0)),s_ 10 (.mov (.reg 0))])
(.cond (.loc 10)
(.seq (.region [s_ 2 (.mov (.cst (.str [])))])
.ret)
(.seq (.region [o_ (.bin .eql (.loc 9) (i_ 1)),s_ 11 (.mov (.reg 0))])
(.cond (.loc 11)
(.seq (.region [o_ (.mov (.loc 0)),s_ 2 (.mov (.reg 0))])
.ret)
.skip))))))
(.seq (.seq (.region [o_ (.mov (.loc 1)),s_ 12 (.bin .lss (.reg 0) (i_ 0))])
(.cond (.loc 12)
(.region [o_ (.bad),o_ (.bad)])
.skip))
(.seq (.region [o_ (.mov (.loc 0)),o_ (.len .str (.reg 0)),o_ (.conv (.toInt .u64) (.reg 1)),o_ (.mov (.loc 1)),o_ (.conv (.toInt .u64) (.reg 3)),o_ (.call true false 117 [(.reg 2),(.reg 4)]),o_ (.mov (.reg 5)),o_ (.extract 0 (.reg 6)),o_ (.extract 1 (.reg 6)),s_ 3 (.mov (.reg 7)),s_ 4 (.mov (.reg 8))])
(.seq (.seq (.region [o_ (.mov (.loc 3)),o_ (.bin .gtr (.reg 0) (.cst (.int .u64 0))),o_ (.mov (.reg 1)),⟨.mov (.loc 4),none,(some (2,false))⟩,⟨.bin .gtr (.reg 3) (.cst (.int .u64 9223372036854775807)),none,(some (2,false))⟩,s_ 13 (.pick (.reg 2) (.cst (.bool true)) (.reg 4))])
(.cond (.loc 13)
(.region [o_ (.bad),o_ (.bad)])
.skip))
(.seq (.region [o_ (.mov (.loc 4)),o_ (.conv (.toInt .i64) (.reg 0)),s_ 5 (.mov (.reg 1))])
(.seq (.seq (.region [o_ (.mov (.loc 0)),o_ (.len .str (.reg 0)),s_ 14 (.bin .eql (.reg 1) (i_ 0))])
(.cond (.loc 14)
(.seq (.region [s_ 2 (.mov (.cst (.str [])))])
.ret)
.skip))
(.seq (.seq (.region [o_ (.mov (.loc 0)),s_ 15 (.indexS (.reg 0) (i_ 0))])
(.block 1
(.seq (.seq (.region [o_ (.bin .eql (.loc 15) (.cst (.int .u8 32))),s_ 16 (.mov (.reg 0))])
(.cond (.loc 16)
.skip
(.seq (.region [o_ (.bin .eql (.loc 15) (.cst (.int .u8 45))),s_ 16 (.mov (.reg 0))])
(.cond (.loc 16)
.skip
(.seq (.region [o_ (.bin .eql (.loc 15) (.cst (.int .u8 48))),s_ 16 (.mov (.reg 0))])
(.cond (.loc 16)
.skip
(.seq (.region [o_ (.bin .eql (.loc 15) (.cst (.int .u8 61))),s_ 16 (.mov (.reg 0))])
(.cond (.loc 16)
.skip
(.region [o_ (.bin .eql (.loc 15) (.cst (.int .u8 9))),s_ 16 (.mov (.reg 0))])))))))))
(.cond (.loc 16)
(.block 2
(.seq (.region [o_ (.mov (.loc 5)),o_ (.bin .leq (.reg 0) (i_ 128)),o_ (.mov (.reg 1)),⟨.mov (.loc 0),none,(some (2,true))⟩,⟨.call true false 118 [(.cst (.str [32,32,32,32,32,32,32,32,32,32,32,32,32,32,32,32,32,32,32,32,32,32,32,32,32,32,32,32,32,32,32,32,32,32,32,32,32,32,32,32,32,32,32,32,32,32,32,32,32,32,32,32,32,32,32,32,32,32,32,32,32,32,32,32,32,32,32,32,32,32,32,32,32,32,32,32,32,32,32,32,32,32,32,32,32,32,32,32,32,32,32,32,32,32,32,32,32,32,32,32,32,32,32,32,32,32,32,32,32,32,32,32,32,32,32,32,32,32,32,32,32,32,32,32,32,32,32,32])),(.reg 3)],none,(some (2,true))⟩,o_ (.pick (.reg 2) (.reg 4) (.cst (.bool false))),s_ 17 (.mov (.reg 5))])
(.cond (.loc 17)
(.seq (.region [o_ (.mov (.loc 5)),o_ (.slice .str (.cst (.str [32,32,32,32,32,32,32,32,32,32,32,32,32,32,32,32,32,32,32,32,32,32,32,32,32,32,32,32,32,32,32,32,32,32,32,32,32,32,32,32,32,32,32,32,32,32,32,32,32,32,32,32,32,32,32,32,32,32,32,32,32,32,32,32,32,32,32,32,32,32,32,32,32,32,32,32,32,32,32,32,32,32,32,32,32,32,32,32,32,32,32,32,32,32,32,32,32,32,32,32,32,32,32,32,32,32,32,32,32,32,32,32,32,32,32,32,32,32,32,32,32,32,32,32,32,32,32,32])) none (some (.reg 0)) none),s_ 2 (.mov (.reg 1))])
.ret)
(.seq (.region [o_ (.mov (.loc 5)),o_ (.bin .leq (.reg 0) (i_ 128)),o_ (.mov (.reg 1)),⟨.mov (.loc 0),none,(some (2,true))⟩,⟨.call true false 118 [(.cst (.str [45,45,45,45,45,45,45,45,45,45,45,45,45,45,45,45,45,45,45,45,45,45,45,45,45,45,45,45,45,45,45,45,45,45,45,45,45,45,45,45,45,45,45,45,45,45,45,45,45,45,45,45,45,45,45,45,45,45,45,45,45,45,45,45,45,45,45,45,45,45,45,45,45,45,45,45,45,45,45,45,45,45,45,45,45,45,45,45,45,45,45,45,45,45,45,45,45,45,45,45,45,45,45,45,45,45,45,45,45,45,45,45,45,45,45,45,45,45,45,45,45,45,45,45,45,45,45,45])),(.reg 3)],none,(some (2,true))⟩,o_ (.pick (.reg 2) (.reg 4) (.cst (.bool false))),s_ 18 (.mov (.reg 5))])
(.cond (.loc 18)
(.seq (.region [o_ (.mov (.loc 5)),o_ (.slice .str (.cst (.str [45,45,45,45,45,45,45,45,45,45,45,45,45,45,45,45,45,45,45,45,45,45,45,45,45,45,45,45,45,45,45,45,45,45,45,45,45,45,45,45,45,45,45,45,45,45,45,45,45,45,45,45,45,45,45,45,45,45,45,45,45,45,45,45,45,45,45,45,45,45,45,45,45,45,45,45,45,45,45,45,45,45,45,45,45,45,45,45,45,45,45,45,45,45,45,45,45,45,45,45,45,45,45,45,45,45,45,45,45,45,45,45,45,45,45,45,45,45,45,45,45,45,45,45,45,45,45,45])) none (some (.reg 0)) none),s_ 2 (.mov (.reg 1))])
.ret)
(.seq (.region [o_ (.mov (.loc 5)),o_ (.bin .leq (.reg 0) (i_ 64)),o_ (.mov (.reg 1)),⟨.mov (.loc 0),none,(some (2,true))⟩,⟨.call true false 118 [(.cst (.str [48,48,48,48,48,48,48,48,48,48,48,48,48,48,48,48,48,48,48,48,48,48,48,48,48,48,48,48,48,48,48,48,48,48,48,48,48,48,48,48,48,48,48,48,48,48,48,48,48,48,48,48,48,48,48,48,48,48,48,48,48,48,48,48])),(.reg 3)],none,(some (2,true))⟩,o_ (.pick (.reg 2) (.reg 4) (.cst (.bool false))),s_ 19 (.mov (.reg 5))])
(.cond (.loc 19)
(.seq (.region [o_ (.mov (.loc 5)),o_ (.slice .str (.cst (.str [48,48,48,48,48,48,48,48,48,48,48,48,48,48,48,48,48,48,48,48,48,48,48,48,48,48,48,48,48,48,48,48,48,48,48,48,48,48,48,48,48,48,48,48,48,48,48,48,48,48,48,48,48,48,48,48,48,48,48,48,48,48,48,48])) none (some (.reg 0)) none),s_ 2 (.mov (.reg 1))])
.ret)
(.seq (.region [o_ (.mov (.loc 5)),o_ (.bin .leq (.reg 0) (i_ 128)),o_ (.mov (.reg 1)),⟨.mov (.loc 0),none,(some (2,true))⟩,⟨.call true false 118 [(.cst (.str [61,61,61,61,61,61,61,61,61,61,61,61,61,61,61,61,61,61,61,61,61,61,61,61,61,61,61,61,61,61,61,61,61,61,61,61,61,61,61,61,61,61,61,61,61,61,61,61,61,61,61,61,61,61,61,61,61,61,61,61,61,61,61,61,61,61,61,61,61,61,61,61,61,61,61,61,61,61,61,61,61,61,61,61,61,61,61,61,61,61,61,61,61,61,61,61,61,61,61,61,61,61,61,61,61,61,61,61,61,61,61,61,61,61,61,61,61,61,61,61,61,61,61,61,61,61,61,61])),(.reg 3)],none,(some (2,true))⟩,o_ (.pick (.reg 2) (.reg 4) (.cst (.bool false))),s_ 20 (.mov (.reg 5))])
(.cond (.loc 20)
(.seq (.region [o_ (.mov (.loc 5)),o_ (.slice .str (.cst (.str [61,61,61,61,61,61,61,61,61,61,61,61,61,61,61,61,61,61,61,61,61,61,61,61,61,61,61,61,61,61,61,61,61,61,61,61,61,61,61,61,61,61,61,61,61,61,61,61,61,61,61,61,61,61,61,61,61,61,61,61,61,61,61,61,61,61,61,61,61,61,61,61,61,61,61,61,61,61,61,61,61,61,61,61,61,61,61,61,61,61,61,61,61,61,61,61,61,61,61,61,61,61,61,61,61,61,61,61,61,61,61,61,61,61,61,61,61,61,61,61,61,61,61,61,61,61,61,61])) none (some (.reg 0)) none),s_ 2 (.mov (.reg 1))])
.ret)
(.seq (.region [o_ (.mov (.loc 5)),o_ (.bin .leq (.reg 0) (i_ 64)),o_ (.mov (.reg 1)),⟨.mov (.loc 0),none,(some (2,true))⟩,⟨.call true false 118 [(.cst (.str [9,9,9,9,9,9,9,9,9,9,9,9,9,9,9,9,9,9,9,9,9,9,9,9,9,9,9,9,9,9,9,9,9,9,9,9,9,9,9,9,9,9,9,9,9,9,9,9,9,9,9,9,9,9,9,9,9,9,9,9,9,9,9,9])),(.reg 3)],none,(some (2,true))⟩,o_ (.pick (.reg 2) (.reg 4) (.cst (.bool false))),s_ 21 (.mov (.reg 5))])
(.cond (.loc 21)
(.seq (.region [o_ (.mov (.loc 5)),o_ (.slice .str (.cst (.str [9,9,9,9,9,9,9,9,9,9,9,9,9,9,9,9,9,9,9,9,9,9,9,9,9,9,9,9,9,9,9,9,9,9,9,9,9,9,9,9,9,9,9,9,9,9,9,9,9,9,9,9,9,9,9,9,9,9,9,9,9,9,9,9])) none (some (.reg 0)) none),s_ 2 (.mov (.reg 1))])
.ret)
.skip)))))))))))
.skip))))
(.seq (.region [o_ (.mov (.loc 5)),s_ 6 (.mov (.reg 0))])
(.seq (.seq (.region [o_ (.mov (.loc 5)),s_ 22 (.bin .gtr (.reg 0) (i_ 8192))])
(.cond (.loc 22)
(.seq (.region [o_ (.mov (.loc 0)),o_ (.len .str (.reg 0)),o_ (.bin .quo (i_ 8192) (.reg 1)),o_ (.mov (.loc 0)),o_ (.len .str (.reg 3)),o_ (.bin .mul (.reg 2) (.reg 4)),s_ 6 (.mov (.reg 5))])
(.seq (.region [o_ (.mov (.loc 6)),s_ 23 (.bin .eql (.reg 0) (i_ 0))])
(.cond (.loc 23)
(.region [o_ (.mov (.loc 0)),o_ (.len .str (.reg 0)),s_ 6 (.mov (.reg 1))])
.skip)))
.skip))
(.seq (.region [s_ 7 (.allocH 115 [.nilp,(.sl .nil [])])])
(.seq (.region [o_ (.mov (.loc 5)),o_ (.call false false 119 [(.loc 7),(.reg 0)])])
(.seq (.region [o_ (.mov (.loc 0)),o_ (.call false false 120 [(.loc 7),(.reg 0)])])
(.seq (.block 3
(.loop t94L0))
(.seq (.region [o_ (.prim 72 [(.loc 7)]),s_ 2 (.mov (.reg 0))])
.ret)))))))))))))))⟩
theorem c94 : compFunc Tryz.prog opts a94 Tryz.f94 = some t94 := by kernel_rfl
def a95 : Ann := { slots := [0,2,3,9],lb := [],mu := [],trunc := [],draws := [(3,⟨[0,0,0,0,0,0,48,112,0,0,768,1792,4083,8179,16383,32767],[0,1,2,3,4,5,6,7,8,9,10,11,12],[(13,[],[14]),(15,[],[])]⟩)] }
def t95L0 : TCode := (.seq (.seq (.region [o_ (.mov (.loc 1)),o_ (.mov (.loc 2)),s_ 3 (.bin .lss (.reg 0) (.reg 1))])
(.cond (.loc 3)
.skip
(.exit 0)))
(.seq (.block 1
(.draw [0,1,2,3,4,5,6,7,8,9,10,11,12] [(13,[],[14]),(15,[],[])] [o_ (.mov (.loc 0)),o_ (.mov (.loc 1)),o_ (.mov (.loc 0)),o_ (.mov (.loc 2)),o_ (.mov (.loc 0)),o_ (.mov (.loc 2)),o_ (.indexAddrS 1 (.reg 4) (.reg 5)),o_ (.load1 (.reg 6)),o_ (.mov (.loc 0)),o_ (.mov (.loc 1)),o_ (.indexAddrS 1 (.reg 8) (.reg 9)),o_ (.load1 (.reg 10)),o_ (.indexAddrS 1 (.reg 0) (.reg 1)),o_ (.store 1 (.reg 12) (.reg 7)),o_ (.indexAddrS 1 (.reg 2) (.reg 3)),o_ (.store 1 (.reg 14) (.reg 11))]))
(.region [o_ (.mov (.loc 1)),o_ (.bin .add (.reg 0) (i_ 1)),o_ (.mov (.loc 2)),o_ (.bin .sub (.reg 2) (i_ 1)),s_ 1 (.mov (.reg 1)),s_ 2 (.mov (.reg 3))])))
def t95 : TFunc := ⟨1,4,[],
(.seq (.region [o_ (.mov (.loc 0)),o_ (.len .sl (.reg 0)),o_ (.bin .sub (.reg 1) (i_ 1)),s_ 1 (.mov (i_ 0)),s_ 2 (.mov (.reg 2))])
(.block 0
(.loop t95L0)))⟩
theorem c95 : compFunc Tryz.prog opts a95 Tryz.f95 = some t95 := by kernel_rfl
def a96 : Ann := { slots := [0,1,4,5,7,8,10,12,13,15,22,29,39,40,41,42,49,63,64,65,66],lb := [],mu := [],trunc := [],draws := [] }
def t96L0 : TCode := (.seq (.region [s_ 20 (.bin .lss (.loc 19) (.loc 18))])
(.seq (.cond (.loc 20)
.skip
(.exit 3))
(.seq (.block 4
(.seq (.region [o_ (.indexAddrS 1 (.loc 17) (.loc 19)),o_ (.load1 (.reg 0)),s_ 6 (.mov (.reg 1))])
(.seq (.region [o_ (.mov (.loc 1)),o_ (.call false false 120 [(.loc 5),(.reg 0)])])
(.region [o_ (.mov (.loc 6)),o_ (.call false false 120 [(.loc 5),(.reg 0)])]))))
(.region [o_ (.bin .add (.loc 19) (i_ 1)),s_ 19 (.mov (.reg 0))]))))
def t96L1 : TCode := (.seq (.region [s_ 15 (.bin .lss (.loc 14) (.loc 13))])
(.seq (.cond (.loc 15)
.skip
(.exit 1))
(.seq (.block 2
(.seq (.region [o_ (.indexAddrS 1 (.loc 12) (.loc 14)),o_ (.load1 (.reg 0)),s_ 4 (.mov (.reg 1))])
(.seq (.seq (.region [o_ (.mov (.loc 4)),o_ (.len .str (.reg 0)),o_ (.mov (.loc 3)),o_ (.bin .sub (i_ 9223372036854775807) (.reg 2)),s_ 16 (.bin .gtr (.reg 1) (.reg 3))])
(.cond (.loc 16)
(.region [o_ (.bad),o_ (.bad)])
.skip))
(.region [o_ (.mov (.loc 3)),o_ (.mov (.loc 4)),o_ (.len .str (.reg 1)),o_ (.bin .add (.reg 0) (.reg 2)),s_ 3 (.mov (.reg 3))]))))
(.region [o_ (.bin .add (.loc 14) (i_ 1)),s_ 14 (.mov (.reg 0))]))))
def t96 : TFunc := ⟨2,21,[.loc 2],
(.seq (.region [s_ 2 (.mov (.cst (.str [])))])
(.seq (.seq (.region [o_ (.mov (.loc 0)),s_ 7 (.len .sl (.reg 0))])
(.block 0
(.seq (.region [o_ (.bin .eql (.loc 7) (i_ 0)),s_ 8 (.mov (.reg 0))])
(.cond (.loc 8)
(.seq (.region [s_ 2 (.mov (.cst (.str [])))])
.ret)
(.seq (.region [o_ (.bin .eql (.loc 7) (i_ 1)),s_ 9 (.mov (.reg 0))])
(.cond (.loc 9)
(.seq (.region [o_ (.mov (.loc 0)),o_ (.indexAddrS 1 (.reg 0) (i_ 0)),o_ (.load1 (.reg 1)),s_ 2 (.mov (.reg 2))])
.ret)
.skip))))))
(.seq (.region [s_ 3 (.mov (i_ 0))])
(.seq (.seq (.region [o_ (.mov (.loc 1)),o_ (.len .str (.reg 0)),s_ 10 (.bin .gtr (.reg 1) (i_ 0))])
(.cond (.loc 10)
(.seq (.seq (.region [o_ (.mov (.loc 1)),o_ (.len .str (.reg 0)),o_ (.mov (.loc 0)),o_ (.len .sl (.reg 2)),o_ (.bin .sub (.reg 3) (i_ 1)),o_ (.bin .quo (i_ 9223372036854775807) (.reg 4)),s_ 11 (.bin .geq (.reg 1) (.reg 5))])
(.cond (.loc 11)
(.region [o_ (.bad),o_ (.bad)])
.skip))
(.region [o_ (.mov (.loc 3)),o_ (.mov (.loc 1)),o_ (.len .str (.reg 1)),o_ (.mov (.loc 0)),o_ (.len .sl (.reg 3)),o_ (.bin .sub (.reg 4) (i_ 1)),o_ (.bin .mul (.reg 2) (.reg 5)),o_ (.bin .add (.reg 0) (.reg 6)),s_ 3 (.mov (.reg 7))]))
.skip))
(.seq (.seq (.region [s_ 12 (.mov (.loc 0)),s_ 13 (.len .sl (.reg 0)),s_ 14 (.mov (i_ 0))])
(.block 1
(.loop t96L1)))
(.seq (.region [s_ 5 (.allocH 115 [.nilp,(.sl .nil [])])])
(.seq (.region [o_ (.mov (.loc 3)),o_ (.call false false 119 [(.loc 5),(.reg 0)])])
(.seq (.region [o_ (.mov (.loc 0)),o_ (.indexAddrS 1 (.reg 0) (i_ 0)),o_ (.load1 (.reg 1)),o_ (.call false false 120 [(.loc 5),(.reg 2)])])
(.seq (.seq (.region [o_ (.mov (.loc 0)),s_ 17 (.slice (.sl 1) (.reg 0) (some (i_ 1)) none none),s_ 18 (.len .sl (.reg 1)),s_ 19 (.mov (i_ 0))])
(.block 3
(.loop t96L0)))
(.seq (.region [o_ (.prim 72 [(.loc 5)]),s_ 2 (.mov (.reg 0))])
.ret))))))))))⟩
theorem c96 : compFunc Tryz.prog opts a96 Tryz.f96 = some t96 := by kernel_rfl
def a97 : Ann := { slots := [0,1,2],lb := [],mu := [],trunc := [],draws := [] }
def t97 : TFunc := ⟨1,3,[.loc 2],
(.seq (.region [s_ 1 (.boxH 23 (.loc 0)),s_ 2 (.mov (.cst .nilf))])
(.seq (.region [o_ (.mkFn 122 [] [(.loc 1)]),s_ 2 (.mov (.reg 0))])
.ret))⟩
theorem c97 : compFunc Tryz.prog opts a97 Tryz.f97 = some t97 := by kernel_rfl
def a99 : Ann := { slots := [0,1,4,7],lb := [],mu := [],trunc := [],draws := [] }
def t99 : TFunc := ⟨2,4,[.loc 2],
(.seq (.region [s_ 2 (.mov (.cst (.sl .nil [])))])
(.seq (.seq (.region [o_ (.mov (.loc 1)),o_ (.conv (.toInt .u32) (.reg 0)),s_ 3 (.bin .leq (.reg 1) (.cst (.int .u32 127)))])
(.cond (.loc 3)
(.seq (.region [o_ (.mov (.loc 0)),o_ (.mov (.loc 1)),o_ (.conv (.toInt .u8) (.reg 1)),o_ (.lit false [(.int .u8 0)] 1 [(0,(.reg 2))]),o_ (.append false 1 1 5 (.reg 0) (.reg 3)),s_ 2 (.mov (.reg 4))])
.ret)
.skip))
(.seq (.region [o_ (.mov (.loc 0)),o_ (.mov (.loc 1)),o_ (.call false false 124 [(.reg 0),(.reg 1)]),s_ 2 (.mov (.reg 2))])
.ret)))⟩
theorem c99 : compFunc Tryz.prog opts a99 Tryz.f99 = some t99 := by kernel_rfl
def a100 : Ann := { slots := [0,1,2,3,4,5,7,13,15,16,17,23,33],lb := [1],mu := [],trunc := [],draws := [] }
def t100 : TFunc := ⟨1,13,[.loc 2,.loc 3],
(.seq (.region [o_ (.boxL 1 (.loc 0)),s_ 2 (.mov (i_ 0)),s_ 3 (.mov (.cst (.bool false)))])
(.seq (.region [o_ (.fieldAddr 1 (.loc 1)),o_ (.load1 (.reg 0)),o_ (.call true false 81 [(.reg 1)]),s_ 4 (.mov (.reg 2))])
(.seq (.seq (.region [o_ (.mov (.loc 4)),o_ (.len .sl (.reg 0)),s_ 7 (.bin .gtr (.reg 1) (i_ 4))])
(.cond (.loc 7)
(.seq (.region [s_ 2 (.mov (i_ 0)),s_ 3 (.mov (.cst (.bool false)))])
.ret)
.skip))
(.seq (.region [s_ 5 (.allocH 159 [(.int .u64 0)]),o_ (.store 1 (.reg 0) (.cst (.int .u64 0)))])
(.seq (.seq (.region [o_ (.mov (.loc 4)),s_ 8 (.call false false 125 [(.reg 0)])])
(.block 0
(.rangeFunc (.loc 8) [9,10]
(.region [s_ 6 (.mov (.loc 10))])
(.block 1
(.region [o_ (.load1 (.loc 5)),o_ (.bin .shl (.reg 0) (.cst (.int .u64 16))),o_ (.mov (.loc 6)),o_ (.conv (.toInt .u64) (.reg 2)),o_ (.bin .or (.reg 1) (.reg 3)),o_ (.store 1 (.loc 5) (.reg 4))])))))
(.seq (.block 2
(.seq (.region [o_ (.fieldAddr 0 (.loc 1)),o_ (.load1 (.reg 0)),o_ (.mov (.reg 1)),⟨.load1 (.loc 5),none,(some (2,true))⟩,⟨.bin .leq (.reg 3) (.cst (.int .u64 9223372036854775808)),none,(some (2,true))⟩,o_ (.pick (.reg 2) (.reg 4) (.cst (.bool false))),s_ 11 (.mov (.reg 5))])
(.cond (.loc 11)
(.seq (.region [o_ (.load1 (.loc 5)),o_ (.un .neg (.reg 0)),o_ (.conv (.toInt .i64) (.reg 1)),s_ 2 (.mov (.reg 2)),s_ 3 (.mov (.cst (.bool true)))])
.ret)
(.seq (.region [o_ (.fieldAddr 0 (.loc 1)),o_ (.load1 (.reg 0)),o_ (.un .not (.reg 1)),o_ (.mov (.reg 2)),⟨.load1 (.loc 5),none,(some (3,true))⟩,⟨.bin .leq (.reg 4) (.cst (.int .u64 9223372036854775807)),none,(some (3,true))⟩,o_ (.pick (.reg 3) (.reg 5) (.cst (.bool false))),s_ 12 (.mov (.reg 6))])
(.cond (.loc 12)
(.seq (.region [o_ (.load1 (.loc 5)),o_ (.conv (.toInt .i64) (.reg 0)),s_ 2 (.mov (.reg 1)),s_ 3 (.mov (.cst (.bool true)))])
.ret)
.skip)))))
(.seq (.region [s_ 2 (.mov (i_ 0)),s_ 3 (.mov (.cst (.bool false)))])
.ret)))))))⟩
theorem c100 : compFunc Tryz.prog opts a100 Tryz.f100 = some t100 := by kernel_rfl
def a101 : Ann := { slots := [0,1,4,7],lb := [],mu := [],trunc := [],draws := [] }
def t101 : TFunc := ⟨2,4,[.loc 2],
(.seq (.region [s_ 2 (.mov (.cst (.str [])))])
(.seq (.seq (.region [o_ (.mov (.loc 0)),o_ (.mov (.loc 1)),s_ 3 (.call true false 126 [(.reg 0),(.reg 1)])])
(.cond (.loc 3)
(.seq (.region [o_ (.mov (.loc 0)),o_ (.mov (.loc 1)),o_ (.len .str (.reg 1)),o_ (.slice .str (.reg 0) (some (.reg 2)) none none),s_ 2 (.mov (.reg 3))])
.ret)
.skip))
(.seq (.region [o_ (.mov (.loc 0)),s_ 2 (.mov (.reg 0))])
.ret)))⟩
theorem c101 : compFunc Tryz.prog opts a101 Tryz.f101 = some t101 := by kernel_rfl
def a102 : Ann := { slots := [0,1,4],lb := [],mu := [],trunc := [],draws := [] }
def t102 : TFunc := ⟨2,3,[.loc 2],
(.seq (.region [s_ 2 (.mov (i_ 0))])
(.seq (.region [o_ (.mov (.loc 0)),o_ (.mov (.loc 1)),o_ (.call false false 127 [(.reg 0),(.reg 1),(.cst (.bool true))]),s_ 2 (.mov (.reg 2))])
.ret))⟩
theorem c102 : compFunc Tryz.prog opts a102 Tryz.f102 = some t102 := by kernel_rfl
def a103 : Ann := { slots := [0,2,3,5,6,7,8,9,13],lb := [],mu := [],trunc := [],draws := [] }
def t103L0 : TCode := (.seq (.region [s_ 7 (.bin .lss (.loc 6) (.loc 5))])
(.seq (.cond (.loc 7)
.skip
(.exit 0))
(.seq (.block 1
(.seq (.region [o_ (.indexAddrS 1 (.loc 4) (.loc 6)),o_ (.load1 (.reg 0)),s_ 3 (.mov (.reg 1))])
(.seq (.seq (.region [o_ (.mov (.loc 3)),s_ 8 (.bin .lss (.reg 0) (.cst (.int .u8 128)))])
(.cond (.loc 8)
(.seq (.region [o_ (.mov (.loc 3)),o_ (.conv (.toInt .i32) (.reg 0)),s_ 1 (.mov (.reg 1)),s_ 2 (.mov (i_ 1))])
.ret)
.skip))
(.exit 0))))
(.region [o_ (.bin .add (.loc 6) (i_ 1)),s_ 6 (.mov (.reg 0))]))))
def t103 : TFunc := ⟨1,9,[.loc 1,.loc 2],
(.seq (.region [s_ 1 (.mov (.cst (.int .i32 0))),s_ 2 (.mov (i_ 0))])
(.seq (.seq (.region [s_ 4 (.mov (.loc 0)),s_ 5 (.len .sl (.reg 0)),s_ 6 (.mov (i_ 0))])
(.block 0
(.loop t103L0)))
(.seq (.region [o_ (.mov (.loc 0)),o_ (.call true false 128 [(.reg 0)]),o_ (.mov (.reg 1)),o_ (.extract 0 (.reg 2)),o_ (.extract 1 (.reg 2)),s_ 1 (.mov (.reg 3)),s_ 2 (.mov (.reg 4))])
.ret)))⟩
theorem c103 : compFunc Tryz.prog opts a103 Tryz.f103 = some t103 := by kernel_rfl
def a104 : Ann := { slots := [0,1,4],lb := [],mu := [],trunc := [],draws := [] }
def t104 : TFunc := ⟨2,3,[.loc 2],
(.seq (.region [s_ 2 (.mov (.cst (.bool false)))])
(.seq (.region [o_ (.mov (.loc 0)),o_ (.bin .eql (.reg 0) (.cst (.int .i32 65533))),o_ (.mov (.reg 1)),⟨.mov (.loc 1),none,(some (2,true))⟩,⟨.bin .leq (.reg 3) (i_ 1),none,(some (2,true))⟩,o_ (.pick (.reg 2) (.reg 4) (.cst (.bool false))),s_ 2 (.mov (.reg 5))])
.ret))⟩
theorem c104 : compFunc Tryz.prog opts a104 Tryz.f104 = some t104 := by kernel_rfl
def a105 : Ann := { slots := [0,1,4,13],lb := [],mu := [],trunc := [],draws := [] }
def t105L0 : TCode := (.seq (.seq (.region [o_ (.mov (.loc 0)),o_ (.len .str (.reg 0)),o_ (.bin .gtr (.reg 1) (i_ 0)),o_ (.mov (.reg 2)),⟨.mov (.loc 0),none,(some (3,true))⟩,⟨.indexS (.reg 4) (i_ 0),none,(some (3,true))⟩,⟨.mov (.loc 1),none,(some (3,true))⟩,⟨.bin .eql (.reg 5) (.reg 6),none,(some (3,true))⟩,s_ 3 (.pick (.reg 3) (.reg 7) (.cst (.bool false)))])
(.cond (.loc 3)
.skip
(.exit 0)))
(.block 1
(.region [o_ (.mov (.loc 0)),o_ (.slice .str (.reg 0) (some (i_ 1)) none none),s_ 0 (.mov (.reg 1))])))
def t105 : TFunc := ⟨2,4,[.loc 2],
(.seq (.region [s_ 2 (.mov (.cst (.str [])))])
(.seq (.block 0
(.loop t105L0))
(.seq (.region [o_ (.mov (.loc 0)),s_ 2 (.mov (.reg 0))])
.ret)))⟩
theorem c105 : compFunc Tryz.prog opts a105 Tryz.f105 = some t105 := by kernel_rfl
def a106 : Ann := { slots := [0,2,3,4,5,9,16],lb := [2],mu := [],trunc := [],draws := [] }
def t106L0 : TCode := (.seq (.seq (.region [o_ (.mov (.loc 3)),o_ (.mov (.loc 0)),o_ (.len .str (.reg 1)),s_ 5 (.bin .lss (.reg 0) (.reg 2))])
(.cond (.loc 5)
.skip
(.exit 0)))
(.seq (.block 1
(.seq (.region [o_ (.mov (.loc 0)),o_ (.mov (.loc 3)),o_ (.indexS (.reg 0) (.reg 1)),s_ 4 (.mov (.reg 2))])
(.seq (.seq (.region [o_ (.mov (.loc 4)),s_ 6 (.bin .geq (.reg 0) (.cst (.int .u8 128)))])
(.cond (.loc 6)
(.seq (.region [o_ (.loadN 256 (.loc 1)),o_ (.store 256 (.loc 1) (.reg 0)),s_ 2 (.mov (.cst (.bool false)))])
.ret)
.skip))
(.region [o_ (.mov (.loc 4)),o_ (.indexAddrA 256 1 (.loc 1) (.reg 0)),o_ (.store 1 (.reg 1) (.cst (.bool true)))]))))
(.region [o_ (.mov (.loc 3)),o_ (.bin .add (.reg 0) (i_ 1)),s_ 3 (.mov (.reg 1))])))
def t106 : TFunc := ⟨1,7,[.cell 1 256 true,.loc 2],
(.seq (.region [o_ (.allocL 1 [(.bool false),(.bool false),(.bool false),(.bool false),(.bool false),(.bool false),(.bool false),(.bool false),(.bool false),(.bool false),(.bool false),(.bool false),(.bool false),(.bool false),(.bool false),(.bool false),(.bool false),(.bool false),(.bool false),(.bool false),(.bool false),(.bool false),(.bool false),(.bool false),(.bool false),(.bool false),(.bool false),(.bool false),(.bool false),(.bool false),(.bool false),(.bool false),(.bool false),(.bool false),(.bool false),(.bool false),(.bool false),(.bool false),(.bool false),(.bool false),(.bool false),(.bool false),(.bool false),(.bool false),(.bool false),(.bool false),(.bool false),(.bool false),(.bool false),(.bool false),(.bool false),(.bool false),(.bool false),(.bool false),(.bool false),(.bool false),(.bool false),(.bool false),(.bool false),(.bool false),(.bool false),(.bool false),(.bool false),(.bool false),(.bool false),(.bool false),(.bool false),(.bool false),(.bool false),(.bool false),(.bool false),(.bool false),(.bool false),(.bool false),(.bool false),(.bool false),(.bool false),(.bool false),(.bool false),(.bool false),(.bool false),(.bool false),(.bool false),(.bool false),(.bool false),(.bool false),(.bool false),(.bool false),(.bool false),(.bool false),(.bool false),(.bool false),(.bool false),(.bool false),(.bool false),(.bool false),(.bool false),(.bool false),(.bool false),(.bool false),(.bool false),(.bool false),(.bool false),(.bool false),(.bool false),(.bool false),(.bool false),(.bool false),(.bool false),(.bool false),(.bool false),(.bool false),(.bool false),(.bool false),(.bool false),(.bool false),(.bool false),(.bool false),(.bool false),(.bool false),(.bool false),(.bool false),(.bool false),(.bool false),(.bool false),(.bool false),(.bool false),(.bool false),(.bool false),(.bool false),(.bool false),(.bool false),(.bool false),(.bool false),(.bool false),(.bool false),(.bool false),(.bool false),(.bool false),(.bool false),(.bool false),(.bool false),(.bool false),(.bool false),(.bool false),(.bool false),(.bool false),(.bool false),(.bool false),(.bool false),(.bool false),(.bool false),(.bool false),(.bool false),(.bool false),(.bool false),(.bool false),(.bool false),(.bool false),(.bool false),(.bool false),(.bool false),(.bool false),(.bool false),(.bool false),(.bool false),(.bool false),(.bool false),(.bool false),(.bool false),(.bool false),(.bool false),(.bool false),(.bool false),(.bool false),(.bool false),(.bool false),(.bool false),(.bool false),(.bool false),(.bool false),(.bool false),(.bool false),(.bool false),(.bool false),(.bool false),(.bool false),(.bool false),(.bool false),(.bool false),(.bool false),(.bool false),(.bool false),(.bool false),(.bool false),(.bool false),(.bool false),(.bool false),(.bool false),(.bool false),(.bool false),(.bool false),(.bool false),(.bool false),(.bool false),(.bool false),(.bool false),(.bool false),(.bool false),(.bool false),(.bool false),(.bool false),(.bool false),(.bool false),(.bool false),(.bool false),(.bool false),(.bool false),(.bool false),(.bool false),(.bool false),(.bool false),(.bool false),(.bool false),(.bool false),(.bool false),(.bool false),(.bool false),(.bool false),(.bool false),(.bool false),(.bool false),(.bool false),(.bool false),(.bool false),(.bool false),(.bool false),(.bool false),(.bool false),(.bool false),(.bool false),(.bool false),(.bool false),(.bool false),(.bool false),(.bool false),(.bool false),(.bool false),(.bool false),(.bool false),(.bool false),(.bool false),(.bool false),(.bool false),(.bool false),(.bool false)]),s_ 2 (.mov (.cst (.bool false)))])
(.seq (.seq (.region [s_ 3 (.mov (i_ 0))])
(.block 0
(.loop t106L0)))
(.seq (.region [o_ (.loadN 256 (.loc 1)),o_ (.store 256 (.loc 1) (.reg 0)),s_ 2 (.mov (.cst (.bool true)))])
.ret)))⟩
theorem c106 : compFunc Tryz.prog opts a106 Tryz.f106 = some t106 := by kernel_rfl
def a107 : Ann := { slots := [0,1,4,7,12],lb := [],mu := [],trunc := [],draws := [] }
def t107L0 : TCode := (.seq (.seq (.region [o_ (.mov (.loc 0)),o_ (.len .str (.reg 0)),s_ 3 (.bin .gtr (.reg 1) (i_ 0))])
(.cond (.loc 3)
.skip
(.exit 0)))
(.block 1
(.seq (.seq (.region [o_ (.mov (.loc 1)),o_ (.mov (.loc 0)),o_ (.indexS (.reg 1) (i_ 0)),o_ (.call false false 129 [(.reg 0),(.reg 2)]),s_ 4 (.un .not (.reg 3))])
(.cond (.loc 4)
(.exit 0)
.skip))
(.region [o_ (.mov (.loc 0)),o_ (.slice .str (.reg 0) (some (i_ 1)) none none),s_ 0 (.mov (.reg 1))]))))
def t107 : TFunc := ⟨2,5,[.loc 2],
(.seq (.region [s_ 2 (.mov (.cst (.str [])))])
(.seq (.block 0
(.loop t107L0))
(.seq (.region [o_ (.mov (.loc 0)),s_ 2 (.mov (.reg 0))])
.ret)))⟩
theorem c107 : compFunc Tryz.prog opts a107 Tryz.f107 = some t107 := by kernel_rfl
def a108 : Ann := { slots := [0,1,4,5,6,9,18],lb := [],mu := [],trunc := [],draws := [] }
def t108L0 : TCode := (.seq (.seq (.region [o_ (.mov (.loc 0)),o_ (.len .str (.reg 0)),s_ 5 (.bin .gtr (.reg 1) (i_ 0))])
(.cond (.loc 5)
.skip
(.exit 0)))
(.block 1
(.seq (.region [o_ (.mov (.loc 0)),o_ (.call true false 130 [(.reg 0)]),o_ (.mov (.reg 1)),o_ (.extract 0 (.reg 2)),o_ (.extract 1 (.reg 2)),s_ 3 (.mov (.reg 3)),s_ 4 (.mov (.reg 4))])
(.seq (.seq (.region [o_ (.mov (.loc 1)),o_ (.mov (.loc 3)),o_ (.call true false 131 [(.reg 0),(.reg 1)]),s_ 6 (.un .not (.reg 2))])
(.cond (.loc 6)
(.exit 0)
.skip))
(.region [o_ (.mov (.loc 0)),o_ (.mov (.loc 4)),o_ (.slice .str (.reg 0) (some (.reg 1)) none none),s_ 0 (.mov (.reg 2))])))))
def t108 : TFunc := ⟨2,7,[.loc 2],
(.seq (.region [s_ 2 (.mov (.cst (.str [])))])
(.seq (.block 0
(.loop t108L0))
(.seq (.region [o_ (.mov (.loc 0)),s_ 2 (.mov (.reg 0))])
.ret)))⟩
theorem c108 : compFunc Tryz.prog opts a108 Tryz.f108 = some t108 := by kernel_rfl
def a116 : Ann := { slots := [0,2],lb := [],mu := [],trunc := [],draws := [] }
def t116 : TFunc := ⟨1,2,[.loc 1],
(.seq (.region [s_ 1 (.mov (.cst (.str [])))])
(.seq (.region [o_ (.mov (.loc 0)),o_ (.call true false 135 [(.reg 0),(i_ 10)]),s_ 1 (.mov (.reg 1))])
.ret))⟩
theorem c116 : compFunc Tryz.prog opts a116 Tryz.f116 = some t116 := by kernel_rfl
def a117 : Ann := { slots := [0,1,4,5,6,7,8,9],lb := [],mu := [],trunc := [],draws := [] }
def t117 : TFunc := ⟨2,8,[.loc 2,.loc 3],
(.seq (.region [s_ 2 (.mov (.cst (.int .u64 0))),s_ 3 (.mov (.cst (.int .u64 0)))])
(.seq (.cond (.cst (.bool false))
(.seq (.region [o_ (.mov (.loc 0)),o_ (.conv (.toInt .u32) (.reg 0)),o_ (.mov (.loc 1)),o_ (.conv (.toInt .u32) (.reg 2)),o_ (.call true false 136 [(.reg 1),(.reg 3)]),o_ (.mov (.reg 4)),o_ (.extract 0 (.reg 5)),o_ (.extract 1 (.reg 5)),s_ 4 (.mov (.reg 6)),s_ 5 (.mov (.reg 7))])
(.seq (.region [o_ (.mov (.loc 4)),o_ (.conv (.toInt .u64) (.reg 0)),o_ (.mov (.loc 5)),o_ (.conv (.toInt .u64) (.reg 2)),s_ 2 (.mov (.reg 1)),s_ 3 (.mov (.reg 3))])
.ret))
.skip)
(.seq (.region [o_ (.mov (.loc 0)),o_ (.mov (.loc 1)),o_ (.call true false 137 [(.reg 0),(.reg 1)]),o_ (.mov (.reg 2)),o_ (.extract 0 (.reg 3)),o_ (.extract 1 (.reg 3)),s_ 6 (.mov (.reg 4)),s_ 7 (.mov (.reg 5))])
(.seq (.region [o_ (.mov (.loc 6)),o_ (.mov (.loc 7)),s_ 2 (.mov (.reg 0)),s_ 3 (.mov (.reg 1))])
.ret))))⟩
theorem c117 : compFunc Tryz.prog opts a117 Tryz.f117 = some t117 := by kernel_rfl
def a118 : Ann := { slots := [0,1,4],lb := [],mu := [],trunc := [],draws := [] }
def t118 : TFunc := ⟨2,3,[.loc 2],
(.seq (.region [s_ 2 (.mov (.cst (.bool false)))])
(.seq (.region [o_ (.mov (.loc 0)),o_ (.mov (.loc 1)),o_ (.call true false 126 [(.reg 0),(.reg 1)]),s_ 2 (.mov (.reg 2))])
.ret))⟩
theorem c118 : compFunc Tryz.prog opts a118 Tryz.f118 = some t118 := by kernel_rfl
def a119 : Ann := { slots := [0,1,7,21],lb := [],mu := [],trunc := [],draws := [(3,⟨[0,1,3,7,15,0,32,96,224,480,1023,0,4095],[0,1,2,3,4,5,6,7,8,9,10,11,12],[]⟩)] }
def t119 : TFunc := ⟨2,4,[],
(.seq (.region [o_ (.mov (.loc 0)),o_ (.prim 98 [(.reg 0)])])
(.seq (.seq (.region [o_ (.mov (.loc 1)),s_ 2 (.bin .lss (.reg 0) (i_ 0))])
(.cond (.loc 2)
(.region [o_ (.bad),o_ (.bad)])
.skip))
(.seq (.draw [0,1,2,3,4,5,6,7,8,9,10,11,12] [] [o_ (.mov (.loc 0)),o_ (.nilCheck (.reg 0)),o_ (.fieldAddr 1 (.reg 1)),o_ (.load1 (.reg 2)),o_ (.cap (.reg 3)),o_ (.mov (.loc 0)),o_ (.nilCheck (.reg 5)),o_ (.fieldAddr 1 (.reg 6)),o_ (.load1 (.reg 7)),o_ (.len .sl (.reg 8)),o_ (.bin .sub (.reg 4) (.reg 9)),o_ (.mov (.loc 1)),s_ 3 (.bin .lss (.reg 10) (.reg 11))])
(.cond (.loc 3)
(.region [o_ (.mov (.loc 0)),o_ (.mov (.loc 1)),o_ (.call false false 138 [(.reg 0),(.reg 1)])])
.skip))))⟩
theorem c119 : compFunc Tryz.prog opts a119 Tryz.f119 = some t119 := by kernel_rfl
def a120 : Ann := { slots := [0,1,4,5],lb := [],mu := [],trunc := [],draws := [] }
def t120 : TFunc := ⟨2,4,[.loc 2,.loc 3],
(.seq (.region [s_ 2 (.mov (i_ 0)),s_ 3 (.mov (.cst .nili))])
(.seq (.region [o_ (.mov (.loc 0)),o_ (.prim 98 [(.reg 0)])])
(.seq (.region [o_ (.mov (.loc 0)),o_ (.mov (.loc 0)),o_ (.nilCheck (.reg 1)),o_ (.fieldAddr 1 (.reg 2)),o_ (.load1 (.reg 3)),o_ (.mov (.loc 1)),o_ (.append false 1 1 5 (.reg 4) (.reg 5)),o_ (.nilCheck (.reg 0)),o_ (.fieldAddr 1 (.reg 7)),o_ (.store 1 (.reg 8) (.reg 6))])
(.seq (.region [o_ (.mov (.loc 1)),o_ (.len .str (.reg 0)),s_ 2 (.mov (.reg 1)),s_ 3 (.mov (.cst .nili))])
.ret))))⟩
theorem c120 : compFunc Tryz.prog opts a120 Tryz.f120 = some t120 := by kernel_rfl
def a121 : Ann := { slots := [0,2],lb := [],mu := [],trunc := [],draws := [] }
def t121 : TFunc := ⟨1,2,[.loc 1],
(.seq (.region [s_ 1 (.mov (i_ 0))])
(.seq (.region [o_ (.mov (.loc 0)),o_ (.nilCheck (.reg 0)),o_ (.fieldAddr 1 (.reg 1)),o_ (.load1 (.reg 2)),o_ (.len .sl (.reg 3)),s_ 1 (.mov (.reg 4))])
.ret))⟩
theorem c121 : compFunc Tryz.prog opts a121 Tryz.f121 = some t121 := by kernel_rfl
def a122 : Ann := { slots := [0,1,3,8,18],lb := [],mu := [],trunc := [],draws := [] }
def t122L0 : TCode := (.seq (.seq (.region [o_ (.mov (.loc 2)),s_ 3 (.bin .geq (.reg 0) (i_ 0))])
(.cond (.loc 3)
.skip
(.exit 0)))
(.seq (.block 1
(.seq (.region [o_ (.mov (.loc 0)),o_ (.mov (.loc 2)),o_ (.load1 (.loc 1)),o_ (.mov (.loc 2)),o_ (.indexAddrS 5 (.reg 2) (.reg 3)),o_ (.loadN 5 (.reg 4)),o_ (.callv (.reg 0) [(.reg 1),(.reg 5)]),s_ 4 (.un .not (.reg 6))])
(.cond (.loc 4)
.ret
.skip)))
(.region [o_ (.mov (.loc 2)),o_ (.bin .sub (.reg 0) (i_ 1)),s_ 2 (.mov (.reg 1))])))
def t122 : TFunc := ⟨2,5,[],
(.seq (.region [o_ (.load1 (.loc 1)),o_ (.len .sl (.reg 0)),o_ (.bin .sub (.reg 1) (i_ 1)),s_ 2 (.mov (.reg 2))])
(.block 0
(.loop t122L0)))⟩
theorem c122 : compFunc Tryz.prog opts a122 Tryz.f122 = some t122 := by kernel_rfl
def a124 : Ann := { slots := [0,1,4,5,11,25,50],lb := [],mu := [],trunc := [],draws := [] }
def t124 : TFunc := ⟨2,7,[.loc 2],
(.seq (.region [s_ 2 (.mov (.cst (.sl .nil [])))])
(.seq (.region [o_ (.mov (.loc 1)),o_ (.conv (.toInt .u32) (.reg 0)),s_ 3 (.mov (.reg 1))])
(.block 0
(.seq (.region [o_ (.mov (.loc 3)),o_ (.bin .leq (.reg 0) (.cst (.int .u32 2047))),s_ 4 (.mov (.reg 1))])
(.cond (.loc 4)
(.seq (.region [o_ (.mov (.loc 0)),o_ (.mov (.loc 1)),o_ (.bin .shr (.reg 1) (.cst (.int .u64 6))),o_ (.conv (.toInt .u8) (.reg 2)),o_ (.bin .or (.cst (.int .u8 192)) (.reg 3)),o_ (.mov (.loc 1)),o_ (.conv (.toInt .u8) (.reg 5)),o_ (.bin .and (.reg 6) (.cst (.int .u8 63))),o_ (.bin .or (.cst (.int .u8 128)) (.reg 7)),o_ (.lit false [(.int .u8 0)] 2 [(0,(.reg 4)),(1,(.reg 8))]),o_ (.append false 1 1 5 (.reg 0) (.reg 9)),s_ 2 (.mov (.reg 10))])
.ret)
(.seq (.seq (.region [o_ (.mov (.loc 3)),o_ (.bin .lss (.reg 0) (.cst (.int .u32 55296))),s_ 5 (.mov (.reg 1))])
(.cond (.loc 5)
.skip
(.region [o_ (.mov (.loc 3)),o_ (.bin .lss (.cst (.int .u32 57343)) (.reg 0)),o_ (.mov (.reg 1)),⟨.mov (.loc 3),none,(some (2,true))⟩,⟨.bin .leq (.reg 3) (.cst (.int .u32 65535)),none,(some (2,true))⟩,o_ (.pick (.reg 2) (.reg 4) (.cst (.bool false))),s_ 5 (.mov (.reg 5))])))
(.cond (.loc 5)
(.seq (.region [o_ (.mov (.loc 0)),o_ (.mov (.loc 1)),o_ (.bin .shr (.reg 1) (.cst (.int .u64 12))),o_ (.conv (.toInt .u8) (.reg 2)),o_ (.bin .or (.cst (.int .u8 224)) (.reg 3)),o_ (.mov (.loc 1)),o_ (.bin .shr (.reg 5) (.cst (.int .u64 6))),o_ (.conv (.toInt .u8) (.reg 6)),o_ (.bin .and (.reg 7) (.cst (.int .u8 63))),o_ (.bin .or (.cst (.int .u8 128)) (.reg 8)),o_ (.mov (.loc 1)),o_ (.conv (.toInt .u8) (.reg 10)),o_ (.bin .and (.reg 11) (.cst (.int .u8 63))),o_ (.bin .or (.cst (.int .u8 128)) (.reg 12)),o_ (.lit false [(.int .u8 0)] 3 [(0,(.reg 4)),(1,(.reg 9)),(2,(.reg 13))]),o_ (.append false 1 1 5 (.reg 0) (.reg 14)),s_ 2 (.mov (.reg 15))])
.ret)
(.seq (.region [o_ (.mov (.loc 3)),o_ (.bin .gtr (.reg 0) (.cst (.int .u32 65535))),o_ (.mov (.reg 1)),⟨.mov (.loc 3),none,(some (2,true))⟩,⟨.bin .leq (.reg 3) (.cst (.int .u32 1114111)),none,(some (2,true))⟩,o_ (.pick (.reg 2) (.reg 4) (.cst (.bool false))),s_ 6 (.mov (.reg 5))])
(.cond (.loc 6)
(.seq (.region [o_ (.mov (.loc 0)),o_ (.mov (.loc 1)),o_ (.bin .shr (.reg 1) (.cst (.int .u64 18))),o_ (.conv (.toInt .u8) (.reg 2)),o_ (.bin .or (.cst (.int .u8 240)) (.reg 3)),o_ (.mov (.loc 1)),o_ (.bin .shr (.reg 5) (.cst (.int .u64 12))),o_ (.conv (.toInt .u8) (.reg 6)),o_ (.bin .and (.reg 7) (.cst (.int .u8 63))),o_ (.bin .or (.cst (.int .u8 128)) (.reg 8)),o_ (.mov (.loc 1)),o_ (.bin .shr (.reg 10) (.cst (.int .u64 6))),o_ (.conv (.toInt .u8) (.reg 11)),o_ (.bin .and (.reg 12) (.cst (.int .u8 63))),o_ (.bin .or (.cst (.int .u8 128)) (.reg 13)),o_ (.mov (.loc 1)),o_ (.conv (.toInt .u8) (.reg 15)),o_ (.bin .and (.reg 16) (.cst (.int .u8 63))),o_ (.bin .or (.cst (.int .u8 128)) (.reg 17)),o_ (.lit false [(.int .u8 0)] 4 [(0,(.reg 4)),(1,(.reg 9)),(2,(.reg 14)),(3,(.reg 18))]),o_ (.append false 1 1 5 (.reg 0) (.reg 19)),s_ 2 (.mov (.reg 20))])
.ret)
(.seq (.region [o_ (.mov (.loc 0)),o_ (.lit false [(.int .u8 0)] 3 [(0,(.cst (.int .u8 239))),(1,(.cst (.int .u8 191))),(2,(.cst (.int .u8 189)))]),o_ (.append false 1 1 5 (.reg 0) (.reg 1)),s_ 2 (.mov (.reg 2))])
.ret))))))))))⟩
theorem c124 : compFunc Tryz.prog opts a124 Tryz.f124 = some t124 := by kernel_rfl
def a125 : Ann := { slots := [0,1,2],lb := [],mu := [],trunc := [],draws := [] }
def t125 : TFunc := ⟨1,3,[.loc 2],
(.seq (.region [s_ 1 (.boxH 69 (.loc 0)),s_ 2 (.mov (.cst .nilf))])
(.seq (.region [o_ (.mkFn 139 [] [(.loc 1)]),s_ 2 (.mov (.reg 0))])
.ret))⟩
theorem c125 : compFunc Tryz.prog opts a125 Tryz.f125 = some t125 := by kernel_rfl
def a126 : Ann := { slots := [0,1,4],lb := [],mu := [],trunc := [],draws := [] }
def t126 : TFunc := ⟨2,3,[.loc 2],
(.seq (.region [s_ 2 (.mov (.cst (.bool false)))])
(.seq (.region [o_ (.mov (.loc 0)),o_ (.len .str (.reg 0)),o_ (.mov (.loc 1)),o_ (.len .str (.reg 2)),o_ (.bin .geq (.reg 1) (.reg 3)),o_ (.mov (.reg 4)),⟨.mov (.loc 0),none,(some (5,true))⟩,⟨.mov (.loc 1),none,(some (5,true))⟩,⟨.len .str (.reg 7),none,(some (5,true))⟩,⟨.slice .str (.reg 6) none (some (.reg 8)) none,none,(some (5,true))⟩,⟨.mov (.loc 1),none,(some (5,true))⟩,⟨.bin .eql (.reg 9) (.reg 10),none,(some (5,true))⟩,o_ (.pick (.reg 5) (.reg 11) (.cst (.bool false))),s_ 2 (.mov (.reg 12))])
.ret))⟩
theorem c126 : compFunc Tryz.prog opts a126 Tryz.f126 = some t126 := by kernel_rfl
def a127 : Ann := { slots := [0,1,2,6,7,8,10,11,12,19],lb := [],mu := [],trunc := [],draws := [] }
def t127L0 : TCode := (.seq (.region [s_ 7 (.nextS (.loc 6)),s_ 8 (.extract 0 (.reg 0))])
(.seq (.cond (.loc 8)
.skip
(.exit 0))
(.block 1
(.seq (.region [o_ (.extract 1 (.loc 7)),o_ (.extract 2 (.loc 7)),s_ 4 (.mov (.reg 0)),s_ 5 (.mov (.reg 1))])
(.seq (.region [o_ (.mov (.loc 1)),o_ (.mov (.loc 5)),o_ (.callv (.reg 0) [(.reg 1)]),o_ (.mov (.loc 2)),s_ 9 (.eqB false .bool (.reg 2) (.reg 3))])
(.cond (.loc 9)
(.seq (.region [o_ (.mov (.loc 4)),s_ 3 (.mov (.reg 0))])
.ret)
.skip))))))
def t127 : TFunc := ⟨3,10,[.loc 3],
(.seq (.region [s_ 3 (.mov (i_ 0))])
(.seq (.seq (.region [o_ (.mov (.loc 0)),s_ 6 (.range true (.reg 0))])
(.block 0
(.loop t127L0)))
(.seq (.region [s_ 3 (.mov (i_ (-1)))])
.ret)))⟩
theorem c127 : compFunc Tryz.prog opts a127 Tryz.f127 = some t127 := by kernel_rfl
def a128 : Ann := { slots := [0,2,3,4,5,6,7,8,9,10,11,12,16,24,47,60,62,79,81,103],lb := [9],mu := [],trunc := [],draws := [] }
def t128 : TFunc := ⟨1,20,[.loc 1,.loc 2],
(.seq (.region [s_ 1 (.mov (.cst (.int .i32 0))),s_ 2 (.mov (i_ 0))])
(.seq (.region [o_ (.mov (.loc 0)),o_ (.len .sl (.reg 0)),s_ 3 (.mov (.reg 1))])
(.seq (.seq (.region [o_ (.mov (.loc 3)),s_ 12 (.bin .lss (.reg 0) (i_ 1))])
(.cond (.loc 12)
(.seq (.region [s_ 1 (.mov (.cst (.int .i32 65533))),s_ 2 (.mov (i_ 0))])
.ret)
.skip))
(.seq (.region [o_ (.mov (.loc 0)),o_ (.indexAddrS 1 (.reg 0) (i_ 0)),o_ (.load1 (.reg 1)),s_ 4 (.mov (.reg 2))])
(.seq (.region [o_ (.mov (.loc 4)),o_ (.indexAddrA 256 1 (.glob 0) (.reg 0)),o_ (.load1 (.reg 1)),s_ 5 (.mov (.reg 2))])
(.seq (.seq (.region [o_ (.mov (.loc 5)),s_ 13 (.bin .geq (.reg 0) (.cst (.int .u8 240)))])
(.cond (.loc 13)
(.seq (.region [o_ (.mov (.loc 5)),o_ (.conv (.toInt .i32) (.reg 0)),o_ (.bin .shl (.reg 1) (.cst (.int .u64 31))),o_ (.bin .shr (.reg 2) (.cst (.int .u64 31))),s_ 6 (.mov (.reg 3))])
(.seq (.region [o_ (.mov (.loc 0)),o_ (.indexAddrS 1 (.reg 0) (i_ 0)),o_ (.load1 (.reg 1)),o_ (.conv (.toInt .i32) (.reg 2)),o_ (.mov (.loc 6)),o_ (.bin .andNot (.reg 3) (.reg 4)),o_ (.mov (.loc 6)),o_ (.bin .and (.cst (.int .i32 65533)) (.reg 6)),o_ (.bin .or (.reg 5) (.reg 7)),s_ 1 (.mov (.reg 8)),s_ 2 (.mov (i_ 1))])
.ret))
.skip))
(.seq (.region [o_ (.mov (.loc 5)),o_ (.bin .and (.reg 0) (.cst (.int .u8 7))),o_ (.conv (.toInt .i64) (.reg 1)),s_ 7 (.mov (.reg 2))])
(.seq (.region [o_ (.mov (.loc 5)),o_ (.bin .shr (.reg 0) (.cst (.int .u64 4))),o_ (.indexAddrA 16 2 (.glob 1) (.reg 1)),o_ (.loadN 2 (.reg 2)),o_ (.allocL 8 [(.int .u8 0),(.int .u8 0)]),o_ (.store 2 (.reg 4) (.reg 3))])
(.seq (.seq (.region [o_ (.mov (.loc 3)),o_ (.mov (.loc 7)),s_ 14 (.bin .lss (.reg 0) (.reg 1))])
(.cond (.loc 14)
(.seq (.region [s_ 1 (.mov (.cst (.int .i32 65533))),s_ 2 (.mov (i_ 1))])
.ret)
.skip))
(.seq (.region [o_ (.mov (.loc 0)),o_ (.indexAddrS 1 (.reg 0) (i_ 1)),o_ (.load1 (.reg 1)),s_ 9 (.mov (.reg 2))])
(.seq (.seq (.region [o_ (.mov (.loc 9)),o_ (.fieldAddr 0 (.loc 8)),o_ (.load1 (.reg 1)),o_ (.bin .lss (.reg 0) (.reg 2)),o_ (.mov (.reg 3)),⟨.fieldAddr 1 (.loc 8),none,(some (4,false))⟩,⟨.load1 (.reg 5),none,(some (4,false))⟩,⟨.mov (.loc 9),none,(some (4,false))⟩,⟨.bin .lss (.reg 6) (.reg 7),none,(some (4,false))⟩,s_ 15 (.pick (.reg 4) (.cst (.bool true)) (.reg 8))])
(.cond (.loc 15)
(.seq (.region [s_ 1 (.mov (.cst (.int .i32 65533))),s_ 2 (.mov (i_ 1))])
.ret)
.skip))
(.seq (.seq (.region [o_ (.mov (.loc 7)),s_ 16 (.bin .leq (.reg 0) (i_ 2))])
(.cond (.loc 16)
(.seq (.region [o_ (.mov (.loc 4)),o_ (.bin .and (.reg 0) (.cst (.int .u8 31))),o_ (.conv (.toInt .i32) (.reg 1)),o_ (.bin .shl (.reg 2) (.cst (.int .u64 6))),o_ (.mov (.loc 9)),o_ (.bin .and (.reg 4) (.cst (.int .u8 63))),o_ (.conv (.toInt .i32) (.reg 5)),o_ (.bin .or (.reg 3) (.reg 6)),s_ 1 (.mov (.reg 7)),s_ 2 (.mov (i_ 2))])
.ret)
.skip))
(.seq (.region [o_ (.mov (.loc 0)),o_ (.indexAddrS 1 (.reg 0) (i_ 2)),o_ (.load1 (.reg 1)),s_ 10 (.mov (.reg 2))])
(.seq (.seq (.region [o_ (.mov (.loc 10)),o_ (.bin .lss (.reg 0) (.cst (.int .u8 128))),o_ (.mov (.reg 1)),⟨.mov (.loc 10),none,(some (2,false))⟩,⟨.bin .lss (.cst (.int .u8 191)) (.reg 3),none,(some (2,false))⟩,s_ 17 (.pick (.reg 2) (.cst (.bool true)) (.reg 4))])
(.cond (.loc 17)
(.seq (.region [s_ 1 (.mov (.cst (.int .i32 65533))),s_ 2 (.mov (i_ 1))])
.ret)
.skip))
(.seq (.seq (.region [o_ (.mov (.loc 7)),s_ 18 (.bin .leq (.reg 0) (i_ 3))])
(.cond (.loc 18)
(.seq (.region [o_ (.mov (.loc 4)),o_ (.bin .and (.reg 0) (.cst (.int .u8 15))),o_ (.conv (.toInt .i32) (.reg 1)),o_ (.bin .shl (.reg 2) (.cst (.int .u64 12))),o_ (.mov (.loc 9)),o_ (.bin .and (.reg 4) (.cst (.int .u8 63))),o_ (.conv (.toInt .i32) (.reg 5)),o_ (.bin .shl (.reg 6) (.cst (.int .u64 6))),o_ (.bin .or (.reg 3) (.reg 7)),o_ (.mov (.loc 10)),o_ (.bin .and (.reg 9) (.cst (.int .u8 63))),o_ (.conv (.toInt .i32) (.reg 10)),o_ (.bin .or (.reg 8) (.reg 11)),s_ 1 (.mov (.reg 12)),s_ 2 (.mov (i_ 3))])
.ret)
.skip))
(.seq (.region [o_ (.mov (.loc 0)),o_ (.indexAddrS 1 (.reg 0) (i_ 3)),o_ (.load1 (.reg 1)),s_ 11 (.mov (.reg 2))])
(.seq (.seq (.region [o_ (.mov (.loc 11)),o_ (.bin .lss (.reg 0) (.cst (.int .u8 128))),o_ (.mov (.reg 1)),⟨.mov (.loc 11),none,(some (2,false))⟩,⟨.bin .lss (.cst (.int .u8 191)) (.reg 3),none,(some (2,false))⟩,s_ 19 (.pick (.reg 2) (.cst (.bool true)) (.reg 4))])
(.cond (.loc 19)
(.seq (.region [s_ 1 (.mov (.cst (.int .i32 65533))),s_ 2 (.mov (i_ 1))])
.ret)
.skip))
(.seq (.region [o_ (.mov (.loc 4)),o_ (.bin .and (.reg 0) (.cst (.int .u8 7))),o_ (.conv (.toInt .i32) (.reg 1)),o_ (.bin .shl (.reg 2) (.cst (.int .u64 18))),o_ (.mov (.loc 9)),o_ (.bin .and (.reg 4) (.cst (.int .u8 63))),o_ (.conv (.toInt .i32) (.reg 5)),o_ (.bin .shl (.reg 6) (.cst (.int .u64 12))),o_ (.bin .or (.reg 3) (.reg 7)),o_ (.mov (.loc 10)),o_ (.bin .and (.reg 9) (.cst (.int .u8 63))),o_ (.conv (.toInt .i32) (.reg 10)),o_ (.bin .shl (.reg 11) (.cst (.int .u64 6))),o_ (.bin .or (.reg 8) (.reg 12)),o_ (.mov (.loc 11)),o_ (.bin .and (.reg 14) (.cst (.int .u8 63))),o_ (.conv (.toInt .i32) (.reg 15)),o_ (.bin .or (.reg 13) (.reg 16)),s_ 1 (.mov (.reg 17)),s_ 2 (.mov (i_ 4))])
.ret))))))))))))))))))⟩
theorem c128 : compFunc Tryz.prog opts a128 Tryz.f128 = some t128 := by kernel_rfl
def a129 : Ann := { slots := [0,1,4],lb := [],mu := [],trunc := [],draws := [] }
def t129 : TFunc := ⟨2,3,[.loc 2],
(.seq (.region [s_ 2 (.mov (.cst (.bool false)))])
(.seq (.region [o_ (.mov (.loc 0)),o_ (.mov (.loc 1)),o_ (.nilCheck (.reg 0)),o_ (.indexAddrA 256 1 (.reg 2) (.reg 1)),o_ (.load1 (.reg 3)),s_ 2 (.mov (.reg 4))])
.ret))⟩
theorem c129 : compFunc Tryz.prog opts a129 Tryz.f129 = some t129 := by kernel_rfl
def a130 : Ann := { slots := [0,2,3,10],lb := [],mu := [],trunc := [],draws := [] }
def t130 : TFunc := ⟨1,4,[.loc 1,.loc 2],
(.seq (.region [s_ 1 (.mov (.cst (.int .i32 0))),s_ 2 (.mov (i_ 0))])
(.seq (.seq (.region [o_ (.mov (.loc 0)),o_ (.bin .neq (.reg 0) (.cst (.str []))),o_ (.mov (.reg 1)),⟨.mov (.loc 0),none,(some (2,true))⟩,⟨.indexS (.reg 3) (i_ 0),none,(some (2,true))⟩,⟨.bin .lss (.reg 4) (.cst (.int .u8 128)),none,(some (2,true))⟩,s_ 3 (.pick (.reg 2) (.reg 5) (.cst (.bool false)))])
(.cond (.loc 3)
(.seq (.region [o_ (.mov (.loc 0)),o_ (.indexS (.reg 0) (i_ 0)),o_ (.conv (.toInt .i32) (.reg 1)),s_ 1 (.mov (.reg 2)),s_ 2 (.mov (i_ 1))])
.ret)
(.region [o_ (.mov (.loc 0)),o_ (.call true false 140 [(.reg 0)]),o_ (.mov (.reg 1)),o_ (.extract 0 (.reg 2)),o_ (.extract 1 (.reg 2)),s_ 1 (.mov (.reg 3)),s_ 2 (.mov (.reg 4))])))
.ret))⟩
theorem c130 : compFunc Tryz.prog opts a130 Tryz.f130 = some t130 := by kernel_rfl
def a131 : Ann := { slots := [0,1,4],lb := [],mu := [],trunc := [],draws := [] }
def t131 : TFunc := ⟨2,3,[.loc 2],
(.seq (.region [s_ 2 (.mov (.cst (.bool false)))])
(.seq (.region [o_ (.mov (.loc 0)),o_ (.mov (.loc 1)),o_ (.call true false 141 [(.reg 0),(.reg 1)]),o_ (.bin .geq (.reg 2) (i_ 0)),s_ 2 (.mov (.reg 3))])
.ret))⟩
theorem c131 : compFunc Tryz.prog opts a131 Tryz.f131 = some t131 := by kernel_rfl
def a135 : Ann := { slots := [0,1,4,5,6,7,9,11,17,23,34],lb := [],mu := [],trunc := [],draws := [] }
def t135 : TFunc := ⟨2,11,[.loc 2],
(.seq (.region [s_ 2 (.mov (.cst (.str [])))])
(.seq (.seq (.region [o_ (.mov (.loc 1)),s_ 7 (.bin .eql (.reg 0) (i_ 10))])
(.cond (.loc 7)
(.seq (.seq (.region [o_ (.mov (.loc 0)),o_ (.bin .leq (i_ 0) (.reg 0)),o_ (.mov (.reg 1)),⟨.mov (.loc 0),none,(some (2,true))⟩,⟨.bin .lss (.reg 3) (i_ 100),none,(some (2,true))⟩,s_ 8 (.pick (.reg 2) (.reg 4) (.cst (.bool false)))])
(.cond (.loc 8)
(.seq (.region [o_ (.mov (.loc 0)),o_ (.call true false 143 [(.reg 0)]),s_ 2 (.mov (.reg 1))])
.ret)
.skip))
(.seq (.region [s_ 3 (.allocH 217 [(.int .u8 0),(.int .u8 0),(.int .u8 0),(.int .u8 0),(.int .u8 0),(.int .u8 0),(.int .u8 0),(.int .u8 0),(.int .u8 0),(.int .u8 0),(.int .u8 0),(.int .u8 0),(.int .u8 0),(.int .u8 0),(.int .u8 0),(.int .u8 0),(.int .u8 0),(.int .u8 0),(.int .u8 0),(.int .u8 0),(.int .u8 0),(.int .u8 0),(.int .u8 0),(.int .u8 0)])])
(.seq (.region [o_ (.mov (.loc 0)),o_ (.conv (.toInt .u64) (.reg 0)),s_ 4 (.mov (.reg 1))])
(.seq (.seq (.region [o_ (.mov (.loc 0)),s_ 9 (.bin .lss (.reg 0) (i_ 0))])
(.cond (.loc 9)
(.region [o_ (.mov (.loc 4)),o_ (.un .neg (.reg 0)),s_ 4 (.mov (.reg 1))])
.skip))
(.seq (.region [o_ (.mov (.loc 4)),o_ (.call true false 144 [(.reg 0)]),s_ 5 (.mov (.reg 1))])
(.seq (.region [o_ (.mov (.loc 5)),o_ (.bin .add (i_ 1) (.reg 0)),o_ (.slice (.arr 24 1) (.loc 3) (some (i_ 1)) (some (.reg 1)) none),o_ (.mov (.loc 4)),o_ (.call false false 145 [(.reg 2),(.reg 3)])])
(.seq (.seq (.region [o_ (.mov (.loc 0)),s_ 10 (.bin .lss (.reg 0) (i_ 0))])
(.cond (.loc 10)
(.seq (.region [o_ (.indexAddrA 24 1 (.loc 3) (i_ 0)),o_ (.store 1 (.reg 0) (.cst (.int .u8 45)))])
(.seq (.region [o_ (.mov (.loc 5)),o_ (.bin .add (i_ 1) (.reg 0)),o_ (.slice (.arr 24 1) (.loc 3) none (some (.reg 1)) none),o_ (.conv .bytesStr (.reg 2)),s_ 2 (.mov (.reg 3))])
.ret))
.skip))
(.seq (.region [o_ (.mov (.loc 5)),o_ (.bin .add (i_ 1) (.reg 0)),o_ (.slice (.arr 24 1) (.loc 3) (some (i_ 1)) (some (.reg 1)) none),o_ (.conv .bytesStr (.reg 2)),s_ 2 (.mov (.reg 3))])
.ret))))))))
.skip))
(.seq (.region [o_ (.mov (.loc 0)),o_ (.conv (.toInt .u64) (.reg 0)),o_ (.mov (.loc 1)),o_ (.mov (.loc 0)),o_ (.bin .lss (.reg 3) (i_ 0)),o_ (.call true false 146 [(.cst (.sl .nil [])),(.reg 1),(.reg 2),(.reg 4),(.cst (.bool false))]),o_ (.mov (.reg 5)),o_ (.extract 0 (.reg 6)),o_ (.extract 1 (.reg 6)),o_ (.mov (.reg 7)),s_ 6 (.mov (.reg 8))])
(.seq (.region [o_ (.mov (.loc 6)),s_ 2 (.mov (.reg 0))])
.ret))))⟩
theorem c135 : compFunc Tryz.prog opts a135 Tryz.f135 = some t135 := by kernel_rfl
def a136 : Ann := { slots := [0,1,4,5,6],lb := [],mu := [],trunc := [],draws := [] }
def t136 : TFunc := ⟨2,5,[.loc 2,.loc 3],
(.seq (.region [s_ 2 (.mov (.cst (.int .u32 0))),s_ 3 (.mov (.cst (.int .u32 0)))])
(.seq (.region [o_ (.mov (.loc 0)),o_ (.conv (.toInt .u64) (.reg 0)),o_ (.mov (.loc 1)),o_ (.conv (.toInt .u64) (.reg 2)),o_ (.bin .mul (.reg 1) (.reg 3)),s_ 4 (.mov (.reg 4))])
(.seq (.region [o_ (.mov (.loc 4)),o_ (.bin .shr (.reg 0) (.cst (.int .u64 32))),o_ (.conv (.toInt .u32) (.reg 1)),o_ (.mov (.loc 4)),o_ (.conv (.toInt .u32) (.reg 3)),s_ 2 (.mov (.reg 2)),s_ 3 (.mov (.reg 4))])
.ret)))⟩
theorem c136 : compFunc Tryz.prog opts a136 Tryz.f136 = some t136 := by kernel_rfl
def a137 : Ann := { slots := [0,1,4,5,6,7,8,9,10,11,12,13],lb := [],mu := [],trunc := [],draws := [] }
def t137 : TFunc := ⟨2,12,[.loc 2,.loc 3],
(.seq (.region [s_ 2 (.mov (.cst (.int .u64 0))),s_ 3 (.mov (.cst (.int .u64 0)))])
(.seq (.region [o_ (.mov (.loc 0)),o_ (.bin .and (.reg 0) (.cst (.int .u64 4294967295))),s_ 4 (.mov (.reg 1))])
(.seq (.region [o_ (.mov (.loc 0)),o_ (.bin .shr (.reg 0) (.cst (.int .u64 32))),s_ 5 (.mov (.reg 1))])
(.seq (.region [o_ (.mov (.loc 1)),o_ (.bin .and (.reg 0) (.cst (.int .u64 4294967295))),s_ 6 (.mov (.reg 1))])
(.seq (.region [o_ (.mov (.loc 1)),o_ (.bin .shr (.reg 0) (.cst (.int .u64 32))),s_ 7 (.mov (.reg 1))])
(.seq (.region [o_ (.mov (.loc 4)),o_ (.mov (.loc 6)),o_ (.bin .mul (.reg 0) (.reg 1)),s_ 8 (.mov (.reg 2))])
(.seq (.region [o_ (.mov (.loc 5)),o_ (.mov (.loc 6)),o_ (.bin .mul (.reg 0) (.reg 1)),o_ (.mov (.loc 8)),o_ (.bin .shr (.reg 3) (.cst (.int .u64 32))),o_ (.bin .add (.reg 2) (.reg 4)),s_ 9 (.mov (.reg 5))])
(.seq (.region [o_ (.mov (.loc 9)),o_ (.bin .and (.reg 0) (.cst (.int .u64 4294967295))),s_ 10 (.mov (.reg 1))])
(.seq (.region [o_ (.mov (.loc 9)),o_ (.bin .shr (.reg 0) (.cst (.int .u64 32))),s_ 11 (.mov (.reg 1))])
(.seq (.region [o_ (.mov (.loc 10)),o_ (.mov (.loc 4)),o_ (.mov (.loc 7)),o_ (.bin .mul (.reg 1) (.reg 2)),o_ (.bin .add (.reg 0) (.reg 3)),s_ 10 (.mov (.reg 4))])
(.seq (.region [o_ (.mov (.loc 5)),o_ (.mov (.loc 7)),o_ (.bin .mul (.reg 0) (.reg 1)),o_ (.mov (.loc 11)),o_ (.bin .add (.reg 2) (.reg 3)),o_ (.mov (.loc 10)),o_ (.bin .shr (.reg 5) (.cst (.int .u64 32))),o_ (.bin .add (.reg 4) (.reg 6)),s_ 2 (.mov (.reg 7))])
(.seq (.region [o_ (.mov (.loc 0)),o_ (.mov (.loc 1)),o_ (.bin .mul (.reg 0) (.reg 1)),s_ 3 (.mov (.reg 2))])
.ret))))))))))))⟩
theorem c137 : compFunc Tryz.prog opts a137 Tryz.f137 = some t137 := by kernel_rfl
def a138 : Ann := { slots := [0,1,4],lb := [],mu := [],trunc := [],draws := [(0,⟨[0,1,3,7,15,31,0,127,255,0,512,1536,3584,7680,16383,32767],[0,1,2,3,4,5,6,7,9,10,11,12,13],[(8,[12,13],[14,15])]⟩)] }
def t138 : TFunc := ⟨2,3,[],
(.seq (.draw [0,1,2,3,4,5,6,7,9,10,11,12,13] [(8,[12,13],[14,15])] [o_ (.mov (.loc 0)),o_ (.nilCheck (.reg 0)),o_ (.fieldAddr 1 (.reg 1)),o_ (.load1 (.reg 2)),o_ (.cap (.reg 3)),o_ (.bin .mul (i_ 2) (.reg 4)),o_ (.mov (.loc 1)),o_ (.bin .add (.reg 5) (.reg 6)),o_ (.prim 147 [(.reg 7)]),o_ (.mov (.loc 0)),o_ (.nilCheck (.reg 9)),o_ (.fieldAddr 1 (.reg 10)),o_ (.load1 (.reg 11)),o_ (.len .sl (.reg 12)),o_ (.slice (.sl 1) (.reg 8) none (some (.reg 13)) none),s_ 2 (.mov (.reg 14))])
(.seq (.region [o_ (.mov (.loc 2)),o_ (.mov (.loc 0)),o_ (.nilCheck (.reg 1)),o_ (.fieldAddr 1 (.reg 2)),o_ (.load1 (.reg 3)),o_ (.copy 1 (.reg 0) (.reg 4))])
(.region [o_ (.mov (.loc 0)),o_ (.mov (.loc 2)),o_ (.nilCheck (.reg 0)),o_ (.fieldAddr 1 (.reg 2)),o_ (.store 1 (.reg 3) (.reg 1))])))⟩
theorem c138 : compFunc Tryz.prog opts a138 Tryz.f138 = some t138 := by kernel_rfl
def a139 : Ann := { slots := [0,1,3,8,18],lb := [],mu := [],trunc := [],draws := [] }
def t139L0 : TCode := (.seq (.seq (.region [o_ (.mov (.loc 2)),s_ 3 (.bin .geq (.reg 0) (i_ 0))])
(.cond (.loc 3)
.skip
(.exit 0)))
(.seq (.block 1
(.seq (.region [o_ (.mov (.loc 0)),o_ (.mov (.loc 2)),o_ (.load1 (.loc 1)),o_ (.mov (.loc 2)),o_ (.indexAddrS 1 (.reg 2) (.reg 3)),o_ (.load1 (.reg 4)),o_ (.callv (.reg 0) [(.reg 1),(.reg 5)]),s_ 4 (.un .not (.reg 6))])
(.cond (.loc 4)
.ret
.skip)))
(.region [o_ (.mov (.loc 2)),o_ (.bin .sub (.reg 0) (i_ 1)),s_ 2 (.mov (.reg 1))])))
def t139 : TFunc := ⟨2,5,[],
(.seq (.region [o_ (.load1 (.loc 1)),o_ (.len .sl (.reg 0)),o_ (.bin .sub (.reg 1) (i_ 1)),s_ 2 (.mov (.reg 2))])
(.block 0
(.loop t139L0)))⟩
theorem c139 : compFunc Tryz.prog opts a139 Tryz.f139 = some t139 := by kernel_rfl
def a140 : Ann := { slots := [0,2,3,4,5,6,7,8,9,10,11,12,16,23,45,57,59,75,77,98],lb := [9],mu := [],trunc := [],draws := [] }
def t140 : TFunc := ⟨1,20,[.loc 1,.loc 2],
(.seq (.region [s_ 1 (.mov (.cst (.int .i32 0))),s_ 2 (.mov (i_ 0))])
(.seq (.region [o_ (.mov (.loc 0)),o_ (.len .str (.reg 0)),s_ 3 (.mov (.reg 1))])
(.seq (.seq (.region [o_ (.mov (.loc 3)),s_ 12 (.bin .lss (.reg 0) (i_ 1))])
(.cond (.loc 12)
(.seq (.region [s_ 1 (.mov (.cst (.int .i32 65533))),s_ 2 (.mov (i_ 0))])
.ret)
.skip))
(.seq (.region [o_ (.mov (.loc 0)),o_ (.indexS (.reg 0) (i_ 0)),s_ 4 (.mov (.reg 1))])
(.seq (.region [o_ (.mov (.loc 4)),o_ (.indexAddrA 256 1 (.glob 0) (.reg 0)),o_ (.load1 (.reg 1)),s_ 5 (.mov (.reg 2))])
(.seq (.seq (.region [o_ (.mov (.loc 5)),s_ 13 (.bin .geq (.reg 0) (.cst (.int .u8 240)))])
(.cond (.loc 13)
(.seq (.region [o_ (.mov (.loc 5)),o_ (.conv (.toInt .i32) (.reg 0)),o_ (.bin .shl (.reg 1) (.cst (.int .u64 31))),o_ (.bin .shr (.reg 2) (.cst (.int .u64 31))),s_ 6 (.mov (.reg 3))])
(.seq (.region [o_ (.mov (.loc 0)),o_ (.indexS (.reg 0) (i_ 0)),o_ (.conv (.toInt .i32) (.reg 1)),o_ (.mov (.loc 6)),o_ (.bin .andNot (.reg 2) (.reg 3)),o_ (.mov (.loc 6)),o_ (.bin .and (.cst (.int .i32 65533)) (.reg 5)),o_ (.bin .or (.reg 4) (.reg 6)),s_ 1 (.mov (.reg 7)),s_ 2 (.mov (i_ 1))])
.ret))
.skip))
(.seq (.region [o_ (.mov (.loc 5)),o_ (.bin .and (.reg 0) (.cst (.int .u8 7))),o_ (.conv (.toInt .i64) (.reg 1)),s_ 7 (.mov (.reg 2))])
(.seq (.region [o_ (.mov (.loc 5)),o_ (.bin .shr (.reg 0) (.cst (.int .u64 4))),o_ (.indexAddrA 16 2 (.glob 1) (.reg 1)),o_ (.loadN 2 (.reg 2)),o_ (.allocL 8 [(.int .u8 0),(.int .u8 0)]),o_ (.store 2 (.reg 4) (.reg 3))])
(.seq (.seq (.region [o_ (.mov (.loc 3)),o_ (.mov (.loc 7)),s_ 14 (.bin .lss (.reg 0) (.reg 1))])
(.cond (.loc 14)
(.seq (.region [s_ 1 (.mov (.cst (.int .i32 65533))),s_ 2 (.mov (i_ 1))])
.ret)
.skip))
(.seq (.region [o_ (.mov (.loc 0)),o_ (.indexS (.reg 0) (i_ 1)),s_ 9 (.mov (.reg 1))])
(.seq (.seq (.region [o_ (.mov (.loc 9)),o_ (.fieldAddr 0 (.loc 8)),o_ (.load1 (.reg 1)),o_ (.bin .lss (.reg 0) (.reg 2)),o_ (.mov (.reg 3)),⟨.fieldAddr 1 (.loc 8),none,(some (4,false))⟩,⟨.load1 (.reg 5),none,(some (4,false))⟩,⟨.mov (.loc 9),none,(some (4,false))⟩,⟨.bin .lss (.reg 6) (.reg 7),none,(some (4,false))⟩,s_ 15 (.pick (.reg 4) (.cst (.bool true)) (.reg 8))])
(.cond (.loc 15)
(.seq (.region [s_ 1 (.mov (.cst (.int .i32 65533))),s_ 2 (.mov (i_ 1))])
.ret)
.skip))
(.seq (.seq (.region [o_ (.mov (.loc 7)),s_ 16 (.bin .leq (.reg 0) (i_ 2))])
(.cond (.loc 16)
(.seq (.region [o_ (.mov (.loc 4)),o_ (.bin .and (.reg 0) (.cst (.int .u8 31))),o_ (.conv (.toInt .i32) (.reg 1)),o_ (.bin .shl (.reg 2) (.cst (.int .u64 6))),o_ (.mov (.loc 9)),o_ (.bin .and (.reg 4) (.cst (.int .u8 63))),o_ (.conv (.toInt .i32) (.reg 5)),o_ (.bin .or (.reg 3) (.reg 6)),s_ 1 (.mov (.reg 7)),s_ 2 (.mov (i_ 2))])
.ret)
.skip))
(.seq (.region [o_ (.mov (.loc 0)),o_ (.indexS (.reg 0) (i_ 2)),s_ 10 (.mov (.reg 1))])
(.seq (.seq (.region [o_ (.mov (.loc 10)),o_ (.bin .lss (.reg 0) (.cst (.int .u8 128))),o_ (.mov (.reg 1)),⟨.mov (.loc 10),none,(some (2,false))⟩,⟨.bin .lss (.cst (.int .u8 191)) (.reg 3),none,(some (2,false))⟩,s_ 17 (.pick (.reg 2) (.cst (.bool true)) (.reg 4))])
(.cond (.loc 17)
(.seq (.region [s_ 1 (.mov (.cst (.int .i32 65533))),s_ 2 (.mov (i_ 1))])
.ret)
.skip))
(.seq (.seq (.region [o_ (.mov (.loc 7)),s_ 18 (.bin .leq (.reg 0) (i_ 3))])
(.cond (.loc 18)
(.seq (.region [o_ (.mov (.loc 4)),o_ (.bin .and (.reg 0) (.cst (.int .u8 15))),o_ (.conv (.toInt .i32) (.reg 1)),o_ (.bin .shl (.reg 2) (.cst (.int .u64 12))),o_ (.mov (.loc 9)),o_ (.bin .and (.reg 4) (.cst (.int .u8 63))),o_ (.conv (.toInt .i32) (.reg 5)),o_ (.bin .shl (.reg 6) (.cst (.int .u64 6))),o_ (.bin .or (.reg 3) (.reg 7)),o_ (.mov (.loc 10)),o_ (.bin .and (.reg 9) (.cst (.int .u8 63))),o_ (.conv (.toInt .i32) (.reg 10)),o_ (.bin .or (.reg 8) (.reg 11)),s_ 1 (.mov (.reg 12)),s_ 2 (.mov (i_ 3))])
.ret)
.skip))
(.seq (.region [o_ (.mov (.loc 0)),o_ (.indexS (.reg 0) (i_ 3)),s_ 11 (.mov (.reg 1))])
(.seq (.seq (.region [o_ (.mov (.loc 11)),o_ (.bin .lss (.reg 0) (.cst (.int .u8 128))),o_ (.mov (.reg 1)),⟨.mov (.loc 11),none,(some (2,false))⟩,⟨.bin .lss (.cst (.int .u8 191)) (.reg 3),none,(some (2,false))⟩,s_ 19 (.pick (.reg 2) (.cst (.bool true)) (.reg 4))])
(.cond (.loc 19)
(.seq (.region [s_ 1 (.mov (.cst (.int .i32 65533))),s_ 2 (.mov (i_ 1))])
.ret)
.skip))
(.seq (.region [o_ (.mov (.loc 4)),o_ (.bin .and (.reg 0) (.cst (.int .u8 7))),o_ (.conv (.toInt .i32) (.reg 1)),o_ (.bin .shl (.reg 2) (.cst (.int .u64 18))),o_ (.mov (.loc 9)),o_ (.bin .and (.reg 4) (.cst (.int .u8 63))),o_ (.conv (.toInt .i32) (.reg 5)),o_ (.bin .shl (.reg 6) (.cst (.int .u64 12))),o_ (.bin .or (.reg 3) (.reg 7)),o_ (.mov (.loc 10)),o_ (.bin .and (.reg 9) (.cst (.int .u8 63))),o_ (.conv (.toInt .i32) (.reg 10)),o_ (.bin .shl (.reg 11) (.cst (.int .u64 6))),o_ (.bin .or (.reg 8) (.reg 12)),o_ (.mov (.loc 11)),o_ (.bin .and (.reg 14) (.cst (.int .u8 63))),o_ (.conv (.toInt .i32) (.reg 15)),o_ (.bin .or (.reg 13) (.reg 16)),s_ 1 (.mov (.reg 17)),s_ 2 (.mov (i_ 4))])
.ret))))))))))))))))))⟩
theorem c140 : compFunc Tryz.prog opts a140 Tryz.f140 = some t140 := by kernel_rfl
def a141 : Ann := { slots := [0,1,4,5,6,7,8,9,10,11,12,13,14,15,16,26,33,43,51,64,98,108,124,139,143,156,160,171,175,176,177,181,183],lb := [],mu := [],trunc := [],draws := [(6,⟨[0,0,3,0,0,24,63],[0,1,2,3,4,5,6],[]⟩),(7,⟨[0,0,2,7,0,0,48,127,255],[0,1,2,3,4,5,6],[(7,[],[8])]⟩),(14,⟨[0,0,0,6,15,0,0,0,192,480,1023],[0,1,2,3,4,5,6,7,8,9,10],[]⟩),(31,⟨[0,0,0,6,15,0,0,0,192,480,1023],[0,1,2,3,4,5,6,7,8,9,10],[]⟩)] }
def t141L0 : TCode := (.seq (.region [s_ 29 (.nextS (.loc 28)), s_ 30 (.extract 0 (.reg 0))])
(.seq (.cond (.loc 30)
.skip
(.exit 9))
(.block 10
(.seq (.region [o_ (.extract 1 (.loc 29)),o_ (.extract 2 (.loc 29)),s_ 3 (.mov (.reg 0)),s_ 4 (.mov (.reg 1))])
(.seq (.region [o_ (.mov (.loc 4)),s_ 31 (.bin .eql (.reg 0) (.cst (.int .i32 65533)))])
(.cond (.loc 31)
(.seq (.region [o_ (.mov (.loc 3)),s_ 2 (.mov (.reg 0))])
.ret)
.skip))))))
def t141 : TFunc := ⟨2,33,[.loc 2],
(.seq (.region [s_ 2 (.mov (i_ 0))])
(.block 0
(.seq (.region [o_ (.mov (.loc 1)),o_ (.bin .leq (.cst (.int .i32 0)) (.reg 0)),o_ (.mov (.reg 1)),⟨.mov (.loc 1),none,(some (2,true))⟩,⟨.bin .lss (.reg 3) (.cst (.int .i32 128)),none,(some (2,true))⟩,o_ (.pick (.reg 2) (.reg 4) (.cst (.bool false))),s_ 26 (.mov (.reg 5))])
(.cond (.loc 26)
(.seq (.region [o_ (.mov (.loc 0)),o_ (.mov (.loc 1)),o_ (.conv (.toInt .u8) (.reg 1)),o_ (.call true false 148 [(.reg 0),(.reg 2)]),s_ 2 (.mov (.reg 3))])
.ret)
(.seq (.region [o_ (.mov (.loc 1)),o_ (.bin .eql (.reg 0) (.cst (.int .i32 65533))),s_ 27 (.mov (.reg 1))])
(.cond (.loc 27)
(.seq (.seq (.region [o_ (.mov (.loc 0)),s_ 28 (.range true (.reg 0))])
(.block 9
(.loop t141L0)))
(.seq (.region [s_ 2 (.mov (i_ (-1)))])
.ret))
(.seq (.region [o_ (.mov (.loc 1)),o_ (.call true false 78 [(.reg 0)]),o_ (.un .not (.reg 1)),s_ 32 (.mov (.reg 2))])
(.cond (.loc 32)
(.seq (.region [s_ 2 (.mov (i_ (-1)))])
.ret)
     .bad))))))))⟩
theorem c141 : compFunc Tryz.prog opts a141 Tryz.f141 = some t141 := by kernel_rfl
def a143 : Ann := { slots := [0,2,4],lb := [],mu := [],trunc := [],draws := [] }
def t143 : TFunc := ⟨1,3,[.loc 1],
(.seq (.region [s_ 1 (.mov (.cst (.str [])))])
(.seq (.seq (.region [o_ (.mov (.loc 0)),s_ 2 (.bin .lss (.reg 0) (i_ 10))])
(.cond (.loc 2)
(.seq (.region [o_ (.mov (.loc 0)),o_ (.mov (.loc 0)),o_ (.bin .add (.reg 1) (i_ 1)),o_ (.slice .str (.cst (.str [48,49,50,51,52,53,54,55,56,57,97,98,99,100,101,102,103,104,105,106,107,108,109,110,111,112,113,114,115,116,117,118,119,120,121,122])) (some (.reg 0)) (some (.reg 2)) none),s_ 1 (.mov (.reg 3))])
.ret)
.skip))
(.seq (.region [o_ (.mov (.loc 0)),o_ (.bin .mul (.reg 0) (i_ 2)),o_ (.mov (.loc 0)),o_ (.bin .mul (.reg 2) (i_ 2)),o_ (.bin .add (.reg 3) (i_ 2)),o_ (.slice .str (.cst (.str [48,48,48,49,48,50,48,51,48,52,48,53,48,54,48,55,48,56,48,57,49,48,49,49,49,50,49,51,49,52,49,53,49,54,49,55,49,56,49,57,50,48,50,49,50,50,50,51,50,52,50,53,50,54,50,55,50,56,50,57,51,48,51,49,51,50,51,51,51,52,51,53,51,54,51,55,51,56,51,57,52,48,52,49,52,50,52,51,52,52,52,53,52,54,52,55,52,56,52,57,53,48,53,49,53,50,53,51,53,52,53,53,53,54,53,55,53,56,53,57,54,48,54,49,54,50,54,51,54,52,54,53,54,54,54,55,54,56,54,57,55,48,55,49,55,50,55,51,55,52,55,53,55,54,55,55,55,56,55,57,56,48,56,49,56,50,56,51,56,52,56,53,56,54,56,55,56,56,56,57,57,48,57,49,57,50,57,51,57,52,57,53,57,54,57,55,57,56,57,57])) (some (.reg 1)) (some (.reg 4)) none),s_ 1 (.mov (.reg 5))])
.ret)))⟩
theorem c143 : compFunc Tryz.prog opts a143 Tryz.f143 = some t143 := by kernel_rfl
def a144 : Ann := { slots := [0,2,3],lb := [],mu := [],trunc := [],draws := [] }
def t144 : TFunc := ⟨1,3,[.loc 1],
(.seq (.region [s_ 1 (.mov (i_ 0))])
(.seq (.region [o_ (.mov (.loc 0)),o_ (.call true false 152 [(.reg 0)]),o_ (.call true false 151 [(.reg 1)]),s_ 2 (.mov (.reg 2))])
(.seq (.region [o_ (.mov (.loc 2)),o_ (.mov (.loc 0)),o_ (.mov (.loc 2)),o_ (.indexAddrA 20 1 (.glob 2) (.reg 2)),o_ (.load1 (.reg 3)),o_ (.bin .geq (.reg 1) (.reg 4)),o_ (.call true false 153 [(.reg 5)]),o_ (.bin .add (.reg 0) (.reg 6)),s_ 1 (.mov (.reg 7))])
.ret)))⟩
theorem c144 : compFunc Tryz.prog opts a144 Tryz.f144 = some t144 := by kernel_rfl
def a145 : Ann := { slots := [0,1,4,5,6,7,8,9,10,11,12,13,14,15,16,20,99,139,161],lb := [],mu := [],trunc := [],draws := [(7,⟨[0,0,2,0,0,16,0,64,192,0,512,455,2503,8191,16383],[0,1,2,3,4,5,6,7,8,9,10,11],[(12,[],[13]),(14,[],[])]⟩),(8,⟨[0,0,2,0,0,16,0,64,192,0,512,455,2503,8191,16383],[0,1,2,3,4,5,6,7,8,9,10,11],[(12,[],[13]),(14,[],[])]⟩),(9,⟨[0,0,2,0,0,16,0,64,192,0,512,455,2503,8191,16383],[0,1,2,3,4,5,6,7,8,9,10,11],[(12,[],[13]),(14,[],[])]⟩),(10,⟨[0,0,2,0,0,16,0,64,192,0,512,455,2503,8191,16383],[0,1,2,3,4,5,6,7,8,9,10,11],[(12,[],[13]),(14,[],[])]⟩),(17,⟨[0,0,2,0,0,16,0,64,192,0,512,455,2503,8191,16383],[0,1,2,3,4,5,6,7,8,9,10,11],[(12,[],[13]),(14,[],[])]⟩),(18,⟨[0,0,2,0,0,16,0,64,192,0,512,455,2503,8191,16383],[0,1,2,3,4,5,6,7,8,9,10,11],[(12,[],[13]),(14,[],[])]⟩),(23,⟨[0,0,2,0,0,16,0,64,192,0,512,455,2503,8191,16383],[0,1,2,3,4,5,6,7,8,9,10,11],[(12,[],[13]),(14,[],[])]⟩)] }
def t145L0 : TCode := (.seq (.seq (.region [o_ (.mov (.loc 2)),s_ 15 (.bin .geq (.reg 0) (i_ 8))])
(.cond (.loc 15)
.skip
(.exit 0)))
(.block 1
(.seq (.region [o_ (.mov (.loc 1)),o_ (.bin .rem (.reg 0) (.cst (.int .u64 100000000))),o_ (.conv (.toInt .u32) (.reg 1)),s_ 3 (.mov (.reg 2))])
(.seq (.region [o_ (.mov (.loc 1)),o_ (.bin .quo (.reg 0) (.cst (.int .u64 100000000))),s_ 1 (.mov (.reg 1))])
(.seq (.region [o_ (.mov (.loc 3)),o_ (.bin .quo (.reg 0) (.cst (.int .u32 10000))),o_ (.mov (.loc 3)),o_ (.bin .rem (.reg 2) (.cst (.int .u32 10000))),s_ 4 (.mov (.reg 1)),s_ 5 (.mov (.reg 3))])
(.seq (.region [o_ (.mov (.loc 5)),o_ (.bin .quo (.reg 0) (.cst (.int .u32 100))),o_ (.bin .mul (.reg 1) (.cst (.int .u32 2))),o_ (.mov (.loc 5)),o_ (.bin .rem (.reg 3) (.cst (.int .u32 100))),o_ (.bin .mul (.reg 4) (.cst (.int .u32 2))),s_ 6 (.mov (.reg 2)),s_ 7 (.mov (.reg 5))])
(.seq (.region [o_ (.mov (.loc 4)),o_ (.bin .quo (.reg 0) (.cst (.int .u32 100))),o_ (.bin .mul (.reg 1) (.cst (.int .u32 2))),o_ (.mov (.loc 4)),o_ (.bin .rem (.reg 3) (.cst (.int .u32 100))),o_ (.bin .mul (.reg 4) (.cst (.int .u32 2))),s_ 8 (.mov (.reg 2)),s_ 9 (.mov (.reg 5))])
(.seq (.draw [0,1,2,3,4,5,6,7,8,9,10,11] [(12,[],[13]),(14,[],[])] [o_ (.mov (.loc 0)),o_ (.mov (.loc 2)),o_ (.bin .sub (.reg 1) (i_ 1)),o_ (.mov (.loc 0)),o_ (.mov (.loc 2)),o_ (.bin .sub (.reg 4) (i_ 2)),o_ (.mov (.loc 7)),o_ (.bin .add (.reg 6) (.cst (.int .u32 1))),o_ (.indexS (.cst (.str [48,48,48,49,48,50,48,51,48,52,48,53,48,54,48,55,48,56,48,57,49,48,49,49,49,50,49,51,49,52,49,53,49,54,49,55,49,56,49,57,50,48,50,49,50,50,50,51,50,52,50,53,50,54,50,55,50,56,50,57,51,48,51,49,51,50,51,51,51,52,51,53,51,54,51,55,51,56,51,57,52,48,52,49,52,50,52,51,52,52,52,53,52,54,52,55,52,56,52,57,53,48,53,49,53,50,53,51,53,52,53,53,53,54,53,55,53,56,53,57,54,48,54,49,54,50,54,51,54,52,54,53,54,54,54,55,54,56,54,57,55,48,55,49,55,50,55,51,55,52,55,53,55,54,55,55,55,56,55,57,56,48,56,49,56,50,56,51,56,52,56,53,56,54,56,55,56,56,56,57,57,48,57,49,57,50,57,51,57,52,57,53,57,54,57,55,57,56,57,57])) (.reg 7)),o_ (.mov (.loc 7)),o_ (.indexS (.cst (.str [48,48,48,49,48,50,48,51,48,52,48,53,48,54,48,55,48,56,48,57,49,48,49,49,49,50,49,51,49,52,49,53,49,54,49,55,49,56,49,57,50,48,50,49,50,50,50,51,50,52,50,53,50,54,50,55,50,56,50,57,51,48,51,49,51,50,51,51,51,52,51,53,51,54,51,55,51,56,51,57,52,48,52,49,52,50,52,51,52,52,52,53,52,54,52,55,52,56,52,57,53,48,53,49,53,50,53,51,53,52,53,53,53,54,53,55,53,56,53,57,54,48,54,49,54,50,54,51,54,52,54,53,54,54,54,55,54,56,54,57,55,48,55,49,55,50,55,51,55,52,55,53,55,54,55,55,55,56,55,57,56,48,56,49,56,50,56,51,56,52,56,53,56,54,56,55,56,56,56,57,57,48,57,49,57,50,57,51,57,52,57,53,57,54,57,55,57,56,57,57])) (.reg 9)),o_ (.indexAddrS 1 (.reg 0) (.reg 2)),o_ (.store 1 (.reg 11) (.reg 8)),o_ (.indexAddrS 1 (.reg 3) (.reg 5)),o_ (.store 1 (.reg 13) (.reg 10))])
(.seq (.draw [0,1,2,3,4,5,6,7,8,9,10,11] [(12,[],[13]),(14,[],[])] [o_ (.mov (.loc 0)),o_ (.mov (.loc 2)),o_ (.bin .sub (.reg 1) (i_ 3)),o_ (.mov (.loc 0)),o_ (.mov (.loc 2)),o_ (.bin .sub (.reg 4) (i_ 4)),o_ (.mov (.loc 6)),o_ (.bin .add (.reg 6) (.cst (.int .u32 1))),o_ (.indexS (.cst (.str [48,48,48,49,48,50,48,51,48,52,48,53,48,54,48,55,48,56,48,57,49,48,49,49,49,50,49,51,49,52,49,53,49,54,49,55,49,56,49,57,50,48,50,49,50,50,50,51,50,52,50,53,50,54,50,55,50,56,50,57,51,48,51,49,51,50,51,51,51,52,51,53,51,54,51,55,51,56,51,57,52,48,52,49,52,50,52,51,52,52,52,53,52,54,52,55,52,56,52,57,53,48,53,49,53,50,53,51,53,52,53,53,53,54,53,55,53,56,53,57,54,48,54,49,54,50,54,51,54,52,54,53,54,54,54,55,54,56,54,57,55,48,55,49,55,50,55,51,55,52,55,53,55,54,55,55,55,56,55,57,56,48,56,49,56,50,56,51,56,52,56,53,56,54,56,55,56,56,56,57,57,48,57,49,57,50,57,51,57,52,57,53,57,54,57,55,57,56,57,57])) (.reg 7)),o_ (.mov (.loc 6)),o_ (.indexS (.cst (.str [48,48,48,49,48,50,48,51,48,52,48,53,48,54,48,55,48,56,48,57,49,48,49,49,49,50,49,51,49,52,49,53,49,54,49,55,49,56,49,57,50,48,50,49,50,50,50,51,50,52,50,53,50,54,50,55,50,56,50,57,51,48,51,49,51,50,51,51,51,52,51,53,51,54,51,55,51,56,51,57,52,48,52,49,52,50,52,51,52,52,52,53,52,54,52,55,52,56,52,57,53,48,53,49,53,50,53,51,53,52,53,53,53,54,53,55,53,56,53,57,54,48,54,49,54,50,54,51,54,52,54,53,54,54,54,55,54,56,54,57,55,48,55,49,55,50,55,51,55,52,55,53,55,54,55,55,55,56,55,57,56,48,56,49,56,50,56,51,56,52,56,53,56,54,56,55,56,56,56,57,57,48,57,49,57,50,57,51,57,52,57,53,57,54,57,55,57,56,57,57])) (.reg 9)),o_ (.indexAddrS 1 (.reg 0) (.reg 2)),o_ (.store 1 (.reg 11) (.reg 8)),o_ (.indexAddrS 1 (.reg 3) (.reg 5)),o_ (.store 1 (.reg 13) (.reg 10))])
(.seq (.draw [0,1,2,3,4,5,6,7,8,9,10,11] [(12,[],[13]),(14,[],[])] [o_ (.mov (.loc 0)),o_ (.mov (.loc 2)),o_ (.bin .sub (.reg 1) (i_ 5)),o_ (.mov (.loc 0)),o_ (.mov (.loc 2)),o_ (.bin .sub (.reg 4) (i_ 6)),o_ (.mov (.loc 9)),o_ (.bin .add (.reg 6) (.cst (.int .u32 1))),o_ (.indexS (.cst (.str [48,48,48,49,48,50,48,51,48,52,48,53,48,54,48,55,48,56,48,57,49,48,49,49,49,50,49,51,49,52,49,53,49,54,49,55,49,56,49,57,50,48,50,49,50,50,50,51,50,52,50,53,50,54,50,55,50,56,50,57,51,48,51,49,51,50,51,51,51,52,51,53,51,54,51,55,51,56,51,57,52,48,52,49,52,50,52,51,52,52,52,53,52,54,52,55,52,56,52,57,53,48,53,49,53,50,53,51,53,52,53,53,53,54,53,55,53,56,53,57,54,48,54,49,54,50,54,51,54,52,54,53,54,54,54,55,54,56,54,57,55,48,55,49,55,50,55,51,55,52,55,53,55,54,55,55,55,56,55,57,56,48,56,49,56,50,56,51,56,52,56,53,56,54,56,55,56,56,56,57,57,48,57,49,57,50,57,51,57,52,57,53,57,54,57,55,57,56,57,57])) (.reg 7)),o_ (.mov (.loc 9)),o_ (.indexS (.cst (.str [48,48,48,49,48,50,48,51,48,52,48,53,48,54,48,55,48,56,48,57,49,48,49,49,49,50,49,51,49,52,49,53,49,54,49,55,49,56,49,57,50,48,50,49,50,50,50,51,50,52,50,53,50,54,50,55,50,56,50,57,51,48,51,49,51,50,51,51,51,52,51,53,51,54,51,55,51,56,51,57,52,48,52,49,52,50,52,51,52,52,52,53,52,54,52,55,52,56,52,57,53,48,53,49,53,50,53,51,53,52,53,53,53,54,53,55,53,56,53,57,54,48,54,49,54,50,54,51,54,52,54,53,54,54,54,55,54,56,54,57,55,48,55,49,55,50,55,51,55,52,55,53,55,54,55,55,55,56,55,57,56,48,56,49,56,50,56,51,56,52,56,53,56,54,56,55,56,56,56,57,57,48,57,49,57,50,57,51,57,52,57,53,57,54,57,55,57,56,57,57])) (.reg 9)),o_ (.indexAddrS 1 (.reg 0) (.reg 2)),o_ (.store 1 (.reg 11) (.reg 8)),o_ (.indexAddrS 1 (.reg 3) (.reg 5)),o_ (.store 1 (.reg 13) (.reg 10))])
(.seq (.draw [0,1,2,3,4,5,6,7,8,9,10,11] [(12,[],[13]),(14,[],[])] [o_ (.mov (.loc 0)),o_ (.mov (.loc 2)),o_ (.bin .sub (.reg 1) (i_ 7)),o_ (.mov (.loc 0)),o_ (.mov (.loc 2)),o_ (.bin .sub (.reg 4) (i_ 8)),o_ (.mov (.loc 8)),o_ (.bin .add (.reg 6) (.cst (.int .u32 1))),o_ (.indexS (.cst (.str [48,48,48,49,48,50,48,51,48,52,48,53,48,54,48,55,48,56,48,57,49,48,49,49,49,50,49,51,49,52,49,53,49,54,49,55,49,56,49,57,50,48,50,49,50,50,50,51,50,52,50,53,50,54,50,55,50,56,50,57,51,48,51,49,51,50,51,51,51,52,51,53,51,54,51,55,51,56,51,57,52,48,52,49,52,50,52,51,52,52,52,53,52,54,52,55,52,56,52,57,53,48,53,49,53,50,53,51,53,52,53,53,53,54,53,55,53,56,53,57,54,48,54,49,54,50,54,51,54,52,54,53,54,54,54,55,54,56,54,57,55,48,55,49,55,50,55,51,55,52,55,53,55,54,55,55,55,56,55,57,56,48,56,49,56,50,56,51,56,52,56,53,56,54,56,55,56,56,56,57,57,48,57,49,57,50,57,51,57,52,57,53,57,54,57,55,57,56,57,57])) (.reg 7)),o_ (.mov (.loc 8)),o_ (.indexS (.cst (.str [48,48,48,49,48,50,48,51,48,52,48,53,48,54,48,55,48,56,48,57,49,48,49,49,49,50,49,51,49,52,49,53,49,54,49,55,49,56,49,57,50,48,50,49,50,50,50,51,50,52,50,53,50,54,50,55,50,56,50,57,51,48,51,49,51,50,51,51,51,52,51,53,51,54,51,55,51,56,51,57,52,48,52,49,52,50,52,51,52,52,52,53,52,54,52,55,52,56,52,57,53,48,53,49,53,50,53,51,53,52,53,53,53,54,53,55,53,56,53,57,54,48,54,49,54,50,54,51,54,52,54,53,54,54,54,55,54,56,54,57,55,48,55,49,55,50,55,51,55,52,55,53,55,54,55,55,55,56,55,57,56,48,56,49,56,50,56,51,56,52,56,53,56,54,56,55,56,56,56,57,57,48,57,49,57,50,57,51,57,52,57,53,57,54,57,55,57,56,57,57])) (.reg 9)),o_ (.indexAddrS 1 (.reg 0) (.reg 2)),o_ (.store 1 (.reg 11) (.reg 8)),o_ (.indexAddrS 1 (.reg 3) (.reg 5)),o_ (.store 1 (.reg 13) (.reg 10))])
(.region [o_ (.mov (.loc 2)),o_ (.bin .sub (.reg 0) (i_ 8)),s_ 2 (.mov (.reg 1))]))))))))))))
def t145 : TFunc := ⟨2,19,[],
(.seq (.region [o_ (.mov (.loc 0)),o_ (.len .sl (.reg 0)),s_ 2 (.mov (.reg 1))])
(.seq (.block 0
(.loop t145L0))
(.seq (.region [o_ (.mov (.loc 1)),o_ (.conv (.toInt .u32) (.reg 0)),s_ 10 (.mov (.reg 1))])
(.seq (.seq (.region [o_ (.mov (.loc 2)),s_ 16 (.bin .geq (.reg 0) (i_ 4))])
(.cond (.loc 16)
(.seq (.region [o_ (.mov (.loc 10)),o_ (.bin .rem (.reg 0) (.cst (.int .u32 10000))),s_ 11 (.mov (.reg 1))])
(.seq (.region [o_ (.mov (.loc 10)),o_ (.bin .quo (.reg 0) (.cst (.int .u32 10000))),s_ 10 (.mov (.reg 1))])
(.seq (.region [o_ (.mov (.loc 11)),o_ (.bin .quo (.reg 0) (.cst (.int .u32 100))),o_ (.bin .mul (.reg 1) (.cst (.int .u32 2))),o_ (.mov (.loc 11)),o_ (.bin .rem (.reg 3) (.cst (.int .u32 100))),o_ (.bin .mul (.reg 4) (.cst (.int .u32 2))),s_ 12 (.mov (.reg 2)),s_ 13 (.mov (.reg 5))])
(.seq (.draw [0,1,2,3,4,5,6,7,8,9,10,11] [(12,[],[13]),(14,[],[])] [o_ (.mov (.loc 0)),o_ (.mov (.loc 2)),o_ (.bin .sub (.reg 1) (i_ 1)),o_ (.mov (.loc 0)),o_ (.mov (.loc 2)),o_ (.bin .sub (.reg 4) (i_ 2)),o_ (.mov (.loc 13)),o_ (.bin .add (.reg 6) (.cst (.int .u32 1))),o_ (.indexS (.cst (.str [48,48,48,49,48,50,48,51,48,52,48,53,48,54,48,55,48,56,48,57,49,48,49,49,49,50,49,51,49,52,49,53,49,54,49,55,49,56,49,57,50,48,50,49,50,50,50,51,50,52,50,53,50,54,50,55,50,56,50,57,51,48,51,49,51,50,51,51,51,52,51,53,51,54,51,55,51,56,51,57,52,48,52,49,52,50,52,51,52,52,52,53,52,54,52,55,52,56,52,57,53,48,53,49,53,50,53,51,53,52,53,53,53,54,53,55,53,56,53,57,54,48,54,49,54,50,54,51,54,52,54,53,54,54,54,55,54,56,54,57,55,48,55,49,55,50,55,51,55,52,55,53,55,54,55,55,55,56,55,57,56,48,56,49,56,50,56,51,56,52,56,53,56,54,56,55,56,56,56,57,57,48,57,49,57,50,57,51,57,52,57,53,57,54,57,55,57,56,57,57])) (.reg 7)),o_ (.mov (.loc 13)),o_ (.indexS (.cst (.str [48,48,48,49,48,50,48,51,48,52,48,53,48,54,48,55,48,56,48,57,49,48,49,49,49,50,49,51,49,52,49,53,49,54,49,55,49,56,49,57,50,48,50,49,50,50,50,51,50,52,50,53,50,54,50,55,50,56,50,57,51,48,51,49,51,50,51,51,51,52,51,53,51,54,51,55,51,56,51,57,52,48,52,49,52,50,52,51,52,52,52,53,52,54,52,55,52,56,52,57,53,48,53,49,53,50,53,51,53,52,53,53,53,54,53,55,53,56,53,57,54,48,54,49,54,50,54,51,54,52,54,53,54,54,54,55,54,56,54,57,55,48,55,49,55,50,55,51,55,52,55,53,55,54,55,55,55,56,55,57,56,48,56,49,56,50,56,51,56,52,56,53,56,54,56,55,56,56,56,57,57,48,57,49,57,50,57,51,57,52,57,53,57,54,57,55,57,56,57,57])) (.reg 9)),o_ (.indexAddrS 1 (.reg 0) (.reg 2)),o_ (.store 1 (.reg 11) (.reg 8)),o_ (.indexAddrS 1 (.reg 3) (.reg 5)),o_ (.store 1 (.reg 13) (.reg 10))])
(.seq (.draw [0,1,2,3,4,5,6,7,8,9,10,11] [(12,[],[13]),(14,[],[])] [o_ (.mov (.loc 0)),o_ (.mov (.loc 2)),o_ (.bin .sub (.reg 1) (i_ 3)),o_ (.mov (.loc 0)),o_ (.mov (.loc 2)),o_ (.bin .sub (.reg 4) (i_ 4)),o_ (.mov (.loc 12)),o_ (.bin .add (.reg 6) (.cst (.int .u32 1))),o_ (.indexS (.cst (.str [48,48,48,49,48,50,48,51,48,52,48,53,48,54,48,55,48,56,48,57,49,48,49,49,49,50,49,51,49,52,49,53,49,54,49,55,49,56,49,57,50,48,50,49,50,50,50,51,50,52,50,53,50,54,50,55,50,56,50,57,51,48,51,49,51,50,51,51,51,52,51,53,51,54,51,55,51,56,51,57,52,48,52,49,52,50,52,51,52,52,52,53,52,54,52,55,52,56,52,57,53,48,53,49,53,50,53,51,53,52,53,53,53,54,53,55,53,56,53,57,54,48,54,49,54,50,54,51,54,52,54,53,54,54,54,55,54,56,54,57,55,48,55,49,55,50,55,51,55,52,55,53,55,54,55,55,55,56,55,57,56,48,56,49,56,50,56,51,56,52,56,53,56,54,56,55,56,56,56,57,57,48,57,49,57,50,57,51,57,52,57,53,57,54,57,55,57,56,57,57])) (.reg 7)),o_ (.mov (.loc 12)),o_ (.indexS (.cst (.str [48,48,48,49,48,50,48,51,48,52,48,53,48,54,48,55,48,56,48,57,49,48,49,49,49,50,49,51,49,52,49,53,49,54,49,55,49,56,49,57,50,48,50,49,50,50,50,51,50,52,50,53,50,54,50,55,50,56,50,57,51,48,51,49,51,50,51,51,51,52,51,53,51,54,51,55,51,56,51,57,52,48,52,49,52,50,52,51,52,52,52,53,52,54,52,55,52,56,52,57,53,48,53,49,53,50,53,51,53,52,53,53,53,54,53,55,53,56,53,57,54,48,54,49,54,50,54,51,54,52,54,53,54,54,54,55,54,56,54,57,55,48,55,49,55,50,55,51,55,52,55,53,55,54,55,55,55,56,55,57,56,48,56,49,56,50,56,51,56,52,56,53,56,54,56,55,56,56,56,57,57,48,57,49,57,50,57,51,57,52,57,53,57,54,57,55,57,56,57,57])) (.reg 9)),o_ (.indexAddrS 1 (.reg 0) (.reg 2)),o_ (.store 1 (.reg 11) (.reg 8)),o_ (.indexAddrS 1 (.reg 3) (.reg 5)),o_ (.store 1 (.reg 13) (.reg 10))])
(.region [o_ (.mov (.loc 2)),o_ (.bin .sub (.reg 0) (i_ 4)),s_ 2 (.mov (.reg 1))]))))))
.skip))
(.seq (.seq (.region [o_ (.mov (.loc 2)),s_ 17 (.bin .geq (.reg 0) (i_ 2))])
(.cond (.loc 17)
(.seq (.region [o_ (.mov (.loc 10)),o_ (.bin .rem (.reg 0) (.cst (.int .u32 100))),o_ (.bin .mul (.reg 1) (.cst (.int .u32 2))),s_ 14 (.mov (.reg 2))])
(.seq (.region [o_ (.mov (.loc 10)),o_ (.bin .quo (.reg 0) (.cst (.int .u32 100))),s_ 10 (.mov (.reg 1))])
(.seq (.draw [0,1,2,3,4,5,6,7,8,9,10,11] [(12,[],[13]),(14,[],[])] [o_ (.mov (.loc 0)),o_ (.mov (.loc 2)),o_ (.bin .sub (.reg 1) (i_ 1)),o_ (.mov (.loc 0)),o_ (.mov (.loc 2)),o_ (.bin .sub (.reg 4) (i_ 2)),o_ (.mov (.loc 14)),o_ (.bin .add (.reg 6) (.cst (.int .u32 1))),o_ (.indexS (.cst (.str [48,48,48,49,48,50,48,51,48,52,48,53,48,54,48,55,48,56,48,57,49,48,49,49,49,50,49,51,49,52,49,53,49,54,49,55,49,56,49,57,50,48,50,49,50,50,50,51,50,52,50,53,50,54,50,55,50,56,50,57,51,48,51,49,51,50,51,51,51,52,51,53,51,54,51,55,51,56,51,57,52,48,52,49,52,50,52,51,52,52,52,53,52,54,52,55,52,56,52,57,53,48,53,49,53,50,53,51,53,52,53,53,53,54,53,55,53,56,53,57,54,48,54,49,54,50,54,51,54,52,54,53,54,54,54,55,54,56,54,57,55,48,55,49,55,50,55,51,55,52,55,53,55,54,55,55,55,56,55,57,56,48,56,49,56,50,56,51,56,52,56,53,56,54,56,55,56,56,56,57,57,48,57,49,57,50,57,51,57,52,57,53,57,54,57,55,57,56,57,57])) (.reg 7)),o_ (.mov (.loc 14)),o_ (.indexS (.cst (.str [48,48,48,49,48,50,48,51,48,52,48,53,48,54,48,55,48,56,48,57,49,48,49,49,49,50,49,51,49,52,49,53,49,54,49,55,49,56,49,57,50,48,50,49,50,50,50,51,50,52,50,53,50,54,50,55,50,56,50,57,51,48,51,49,51,50,51,51,51,52,51,53,51,54,51,55,51,56,51,57,52,48,52,49,52,50,52,51,52,52,52,53,52,54,52,55,52,56,52,57,53,48,53,49,53,50,53,51,53,52,53,53,53,54,53,55,53,56,53,57,54,48,54,49,54,50,54,51,54,52,54,53,54,54,54,55,54,56,54,57,55,48,55,49,55,50,55,51,55,52,55,53,55,54,55,55,55,56,55,57,56,48,56,49,56,50,56,51,56,52,56,53,56,54,56,55,56,56,56,57,57,48,57,49,57,50,57,51,57,52,57,53,57,54,57,55,57,56,57,57])) (.reg 9)),o_ (.indexAddrS 1 (.reg 0) (.reg 2)),o_ (.store 1 (.reg 11) (.reg 8)),o_ (.indexAddrS 1 (.reg 3) (.reg 5)),o_ (.store 1 (.reg 13) (.reg 10))])
(.region [o_ (.mov (.loc 2)),o_ (.bin .sub (.reg 0) (i_ 2)),s_ 2 (.mov (.reg 1))]))))
.skip))
(.seq (.region [o_ (.mov (.loc 2)),s_ 18 (.bin .gtr (.reg 0) (i_ 0))])
(.cond (.loc 18)
(.region [o_ (.mov (.loc 0)),o_ (.mov (.loc 10)),o_ (.bin .add (.cst (.int .u32 48)) (.reg 1)),o_ (.conv (.toInt .u8) (.reg 2)),o_ (.indexAddrS 1 (.reg 0) (i_ 0)),o_ (.store 1 (.reg 4) (.reg 3))])
.skip)))))))⟩
theorem c145 : compFunc Tryz.prog opts a145 Tryz.f145 = some t145 := by kernel_rfl
end Go.Proofs.YtjbpbohpmfpoiaaGreatDoor
