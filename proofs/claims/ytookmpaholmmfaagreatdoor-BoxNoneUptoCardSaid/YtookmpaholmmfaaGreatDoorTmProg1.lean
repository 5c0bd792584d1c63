/- The functions of this seat, compiled for the evaluator TM; each held against the translation by the kernel. By program. Condition: none. -/
import Derived.Test.YtookmpaholmmfaaGreatDoorPrim
set_option maxRecDepth 100000
set_option linter.unusedVariables false
namespace Go.Proofs.YtookmpaholmmfaaGreatDoor
open Go Go.TM
abbrev o_ (x : TOp) : TOper := ⟨x,none,none⟩
abbrev s_ (n : Nat) (x : TOp) : TOper := ⟨x,some n,none⟩
abbrev i_ (n : Int) : TOpd := .cst (.int .i64 n)
def opts : Opts := ⟨fun f => ([3,4,9,10,19,20,33,34,35,36,37,38,39,40,41,44,45,46,47,48,49,54,55,56,58,66,67,70,73,76,78,79,80,81,82,83,84,86,87,88,89,93,97,98,99,101,103,112,113,114,115,120,122,123,124,131,132,134,135,139,142,143,144,145,146,147,149,153,154,155,163,167,169,171,174,175,176,177,178,179,181,182,189,191,193,195,196,197,201,210,211,212,213,214,215,216,217] : List Nat).contains f,fun f => ([47,80,113,165] : List Nat).contains f⟩
def a7 : Ann := { slots := [0,1,2,3,4,6,14,40],lb := [3,1],mu := [],trunc := [],draws := [(6,⟨[0,1,3,7,15,31,63,127,255,511,1023,2047,4095,1023,9215,32767,65535,131071,262143,524287],[0,1],[(2,[],[3,4,5]),(6,[],[7,8,9,10,11,13,14]),(12,[14],[]),(15,[],[16,17,18,19])]⟩)] }
def t7 : TFunc := ⟨1,8,[.loc 2],
(.seq (.region [o_ (.boxL 1 (.loc 0)),s_ 2 (.mov (.cst (.bool false)))])
(.seq (.seq (.region [o_ (.loadN 8 (.loc 1)),s_ 5 (.call true false 21 [(.reg 0)])])
(.cond (.loc 5)
(.seq (.region [o_ (.call true false 22 []),s_ 2 (.mov (.reg 0))])
.ret)
.skip))
(.seq (.region [o_ (.loadN 8 (.loc 1)),o_ (.call true false 24 [(.reg 0)]),o_ (.mov (.reg 1)),o_ (.extract 0 (.reg 2)),o_ (.extract 1 (.reg 2)),o_ (.allocL 3 [(.int .i64 0),(.int .i64 0),(.sl .nil []),(.bool false),(.sl .nil []),(.int .i64 0),(.int .i64 0),(.sl .nil [])]),o_ (.store 8 (.reg 5) (.reg 3)),s_ 4 (.mov (.reg 4))])
(.seq (.seq (.region [o_ (.mov (.loc 4)),s_ 6 (.bin .neq (.reg 0) (i_ 0))])
(.cond (.loc 6)
(.seq (.region [o_ (.loadN 8 (.loc 3)),o_ (.build [(.int .i64 0),(.int .i64 0),(.sl .nil []),(.bool false),(.sl .nil []),(.int .i64 0),(.int .i64 0),(.sl .nil [])] []),o_ (.call false false 19 [(.reg 0),(.reg 1)]),o_ (.mov (.reg 2)),⟨.call true false 22 [],none,(some (3,true))⟩,o_ (.pick (.reg 3) (.reg 4) (.cst (.bool false))),s_ 2 (.mov (.reg 5))])
.ret)
.skip))
(.seq (.seq (.draw [0,1] [(2,[],[3,4,5]),(6,[],[7,8,9,10,11,13,14]),(12,[14],[]),(15,[],[16,17,18,19])] [o_ (.fieldAddr 0 (.loc 3)),o_ (.loadN 5 (.reg 0)),o_ (.call true false 31 [(.reg 1)]),o_ (.bin .neq (.reg 2) (i_ 0)),o_ (.mov (.reg 3)),⟨.loadN 8 (.loc 3),none,(some (4,false))⟩,⟨.call true false 13 [(.reg 5)],none,(some (4,false))⟩,⟨.bin .neq (.reg 6) (i_ 0),none,(some (4,false))⟩,o_ (.pick (.reg 4) (.cst (.bool true)) (.reg 7)),o_ (.mov (.reg 8)),⟨.fieldAddr 0 (.loc 3),none,(some (9,false))⟩,⟨.loadN 5 (.reg 10),none,(some (9,false))⟩,⟨.call true false 32 [(.reg 11)],none,(some (9,false))⟩,⟨.fieldAddr 0 (.loc 1),none,(some (9,false))⟩,⟨.loadN 5 (.reg 13),none,(some (9,false))⟩,⟨.call true false 32 [(.reg 14)],none,(some (9,false))⟩,⟨.bin .mul (i_ 3) (.reg 15),none,(some (9,false))⟩,⟨.bin .add (.reg 16) (i_ 2),none,(some (9,false))⟩,⟨.bin .gtr (.reg 12) (.reg 17),none,(some (9,false))⟩,s_ 7 (.pick (.reg 9) (.cst (.bool true)) (.reg 18))])
(.cond (.loc 7)
(.seq (.region [s_ 2 (.mov (.cst (.bool false)))])
.ret)
.skip))
(.seq (.region [o_ (.fieldAddr 0 (.loc 1)),o_ (.loadN 5 (.reg 0)),o_ (.call true false 31 [(.reg 1)]),o_ (.bin .gtr (.reg 2) (i_ 0)),o_ (.mov (.reg 3)),⟨.loadN 8 (.loc 1),none,(some (4,false))⟩,⟨.loadN 8 (.loc 3),none,(some (4,false))⟩,⟨.call false false 19 [(.reg 5),(.reg 6)],none,(some (4,false))⟩,o_ (.pick (.reg 4) (.cst (.bool true)) (.reg 7)),o_ (.mov (.reg 8)),⟨.call true false 22 [],none,(some (9,true))⟩,o_ (.pick (.reg 9) (.reg 10) (.cst (.bool false))),s_ 2 (.mov (.reg 11))])
.ret))))))⟩
theorem c7 : compFunc Tryz.prog opts a7 Tryz.f7 = some t7 := by kernel_rfl
def a9 : Ann := { slots := [0,1,2,3,12,21],lb := [1],mu := [],trunc := [],draws := [] }
def t9L0 : TCode := (.seq (.seq (.region [o_ (.mov (.loc 3)),o_ (.fieldAddr 7 (.loc 1)),o_ (.load1 (.reg 1)),o_ (.len .sl (.reg 2)),o_ (.bin .lss (.reg 0) (.reg 3)),o_ (.mov (.reg 4)),⟨.mov (.loc 3),none,(some (5,true))⟩,⟨.bin .lss (.reg 6) (i_ 30),none,(some (5,true))⟩,s_ 4 (.pick (.reg 5) (.reg 7) (.cst (.bool false)))])
(.cond (.loc 4)
.skip
(.exit 0)))
(.seq (.block 1
(.seq (.region [o_ (.fieldAddr 7 (.loc 1)),o_ (.load1 (.reg 0)),o_ (.mov (.loc 3)),o_ (.indexAddrS 5 (.reg 1) (.reg 2)),o_ (.loadN 5 (.reg 3)),o_ (.call false false 40 [(.reg 4),(i_ 60)]),s_ 5 (.bin .gtr (.reg 5) (i_ 200))])
(.cond (.loc 5)
(.seq (.region [s_ 2 (.mov (.cst (.bool true)))])
.ret)
.skip)))
(.region [o_ (.mov (.loc 3)),o_ (.bin .add (.reg 0) (i_ 1)),s_ 3 (.mov (.reg 1))])))
def t9 : TFunc := ⟨1,6,[.loc 2],
(.seq (.region [o_ (.boxL 1 (.loc 0)),s_ 2 (.mov (.cst (.bool false)))])
(.seq (.seq (.region [s_ 3 (.mov (i_ 0))])
(.block 0
(.loop t9L0)))
(.seq (.region [o_ (.fieldAddr 0 (.loc 1)),o_ (.loadN 5 (.reg 0)),o_ (.call false false 10 [(.reg 1),(i_ 4100)]),o_ (.bin .gtr (.reg 2) (i_ 4500)),o_ (.mov (.reg 3)),⟨.fieldAddr 7 (.loc 1),none,(some (4,false))⟩,⟨.load1 (.reg 5),none,(some (4,false))⟩,⟨.len .sl (.reg 6),none,(some (4,false))⟩,⟨.bin .gtr (.reg 7) (i_ 20),none,(some (4,false))⟩,o_ (.pick (.reg 4) (.cst (.bool true)) (.reg 8)),s_ 2 (.mov (.reg 9))])
.ret)))⟩
theorem c9 : compFunc Tryz.prog opts a9 Tryz.f9 = some t9 := by kernel_rfl
def a10 : Ann := { slots := [0,1,2,4,5,6,8,21],lb := [2],mu := [],trunc := [],draws := [] }
def t10L0 : TCode := (.seq (.seq (.region [o_ (.mov (.loc 5)),o_ (.fieldAddr 4 (.loc 2)),o_ (.load1 (.reg 1)),o_ (.len .sl (.reg 2)),o_ (.bin .lss (.reg 0) (.reg 3)),o_ (.mov (.reg 4)),⟨.mov (.loc 4),none,(some (5,true))⟩,⟨.bin .lss (.reg 6) (i_ 9000),none,(some (5,true))⟩,s_ 7 (.pick (.reg 5) (.reg 7) (.cst (.bool false)))])
(.cond (.loc 7)
.skip
(.exit 0)))
(.seq (.block 1
(.region [o_ (.mov (.loc 4)),o_ (.fieldAddr 4 (.loc 2)),o_ (.load1 (.reg 1)),o_ (.mov (.loc 5)),o_ (.indexAddrS 5 (.reg 2) (.reg 3)),o_ (.loadN 5 (.reg 4)),o_ (.mov (.loc 1)),o_ (.bin .sub (.reg 6) (i_ 1)),o_ (.call false false 10 [(.reg 5),(.reg 7)]),o_ (.bin .add (.reg 0) (.reg 8)),s_ 4 (.mov (.reg 9))]))
(.region [o_ (.mov (.loc 5)),o_ (.bin .add (.reg 0) (i_ 1)),s_ 5 (.mov (.reg 1))])))
def t10 : TFunc := ⟨2,8,[.loc 3],
(.seq (.region [o_ (.boxL 2 (.loc 0)),s_ 3 (.mov (i_ 0))])
(.seq (.seq (.region [o_ (.mov (.loc 1)),s_ 6 (.bin .eql (.reg 0) (i_ 0))])
(.cond (.loc 6)
(.seq (.region [s_ 3 (.mov (i_ 9000))])
.ret)
.skip))
(.seq (.region [o_ (.fieldAddr 2 (.loc 2)),o_ (.load1 (.reg 0)),o_ (.len .sl (.reg 1)),o_ (.bin .add (i_ 1) (.reg 2)),s_ 4 (.mov (.reg 3))])
(.seq (.seq (.region [s_ 5 (.mov (i_ 0))])
(.block 0
(.loop t10L0)))
(.seq (.region [o_ (.mov (.loc 4)),s_ 3 (.mov (.reg 0))])
.ret)))))⟩
theorem c10 : compFunc Tryz.prog opts a10 Tryz.f10 = some t10 := by kernel_rfl
def a12 : Ann := { slots := [0,1,2,3,4,5,6,7,16,27,43,51,57,62,71],lb := [1],mu := [],trunc := [],draws := [(2,⟨[0,1,0,4,12,28,63,127,255],[0,2,3,4,5],[(1,[3,5],[]),(6,[],[7,8])]⟩),(7,⟨[0,1,0,0,12,28,63,0,0,0,768,1792,4095,8191],[0,1,2,3,4,5,7,8,9,10,11],[(6,[11],[]),(12,[],[13])]⟩),(9,⟨[0,1,0,0,12,28,63,127],[0,1,2,3,4,5],[(6,[],[7])]⟩)] }
def t12L0 : TCode := (.seq (.seq (.region [o_ (.mov (.loc 7)),o_ (.fieldAddr 4 (.loc 1)),o_ (.load1 (.reg 1)),o_ (.len .sl (.reg 2)),s_ 13 (.bin .lss (.reg 0) (.reg 3))])
(.cond (.loc 13)
.skip
(.exit 2)))
(.seq (.block 3
(.seq (.region [o_ (.fieldAddr 4 (.loc 1)),o_ (.load1 (.reg 0)),o_ (.mov (.loc 7)),o_ (.indexAddrS 5 (.reg 1) (.reg 2)),o_ (.loadN 5 (.reg 3)),o_ (.call true false 12 [(.reg 4)]),s_ 14 (.un .not (.reg 5))])
(.cond (.loc 14)
(.seq (.region [s_ 2 (.mov (.cst (.bool false)))])
.ret)
.skip)))
(.region [o_ (.mov (.loc 7)),o_ (.bin .add (.reg 0) (i_ 1)),s_ 7 (.mov (.reg 1))])))
def t12L1 : TCode := (.seq (.seq (.region [o_ (.mov (.loc 6)),o_ (.mov (.loc 4)),o_ (.len .sl (.reg 1)),s_ 9 (.bin .lss (.reg 0) (.reg 2))])
(.cond (.loc 9)
.skip
(.exit 0)))
(.seq (.block 1
(.seq (.seq (.draw [0,1,2,3,4,5,7,8,9,10,11] [(6,[11],[]),(12,[],[13])] [o_ (.fieldAddr 2 (.loc 1)),o_ (.load1 (.reg 0)),o_ (.mov (.loc 4)),o_ (.mov (.loc 6)),o_ (.indexAddrS 1 (.reg 2) (.reg 3)),o_ (.load1 (.reg 4)),o_ (.call true false 16 [(.reg 1),(.reg 5)]),o_ (.mov (.loc 3)),o_ (.mov (.loc 4)),o_ (.mov (.loc 6)),o_ (.indexAddrS 1 (.reg 8) (.reg 9)),o_ (.load1 (.reg 10)),o_ (.call true false 16 [(.reg 7),(.reg 11)]),s_ 10 (.eqB false .bool (.reg 6) (.reg 12))])
(.cond (.loc 10)
(.seq (.region [s_ 2 (.mov (.cst (.bool false)))])
.ret)
.skip))
(.seq (.draw [0,1,2,3,4,5] [(6,[],[7])] [o_ (.fieldAddr 2 (.loc 1)),o_ (.load1 (.reg 0)),o_ (.mov (.loc 4)),o_ (.mov (.loc 6)),o_ (.indexAddrS 1 (.reg 2) (.reg 3)),o_ (.load1 (.reg 4)),o_ (.call true false 16 [(.reg 1),(.reg 5)]),s_ 11 (.un .not (.reg 6))])
(.cond (.loc 11)
(.region [o_ (.mov (.loc 5)),o_ (.bin .add (.reg 0) (i_ 1)),s_ 5 (.mov (.reg 1))])
.skip))))
(.region [o_ (.mov (.loc 6)),o_ (.bin .add (.reg 0) (i_ 1)),s_ 6 (.mov (.reg 1))])))
def t12 : TFunc := ⟨1,15,[.loc 2],
(.seq (.region [o_ (.boxL 1 (.loc 0)),s_ 2 (.mov (.cst (.bool false)))])
(.seq (.seq (.region [o_ (.fieldAddr 0 (.loc 1)),o_ (.load1 (.reg 0)),o_ (.bin .eql (.reg 1) (i_ 7)),o_ (.mov (.reg 2)),⟨.fieldAddr 4 (.loc 1),none,(some (3,true))⟩,⟨.load1 (.reg 4),none,(some (3,true))⟩,⟨.len .sl (.reg 5),none,(some (3,true))⟩,⟨.bin .eql (.reg 6) (i_ 1),none,(some (3,true))⟩,s_ 8 (.pick (.reg 3) (.reg 7) (.cst (.bool false)))])
(.cond (.loc 8)
(.seq (.draw [0,2,3,4,5] [(1,[3,5],[]),(6,[],[7,8])] [o_ (.loadN 5 (.loc 1)),o_ (.call true false 17 [(.reg 0)]),o_ (.fieldAddr 4 (.loc 1)),o_ (.load1 (.reg 2)),o_ (.indexAddrS 5 (.reg 3) (i_ 0)),o_ (.loadN 5 (.reg 4)),o_ (.call true false 17 [(.reg 5)]),s_ 3 (.mov (.reg 1)),s_ 4 (.mov (.reg 6))])
(.seq (.region [s_ 5 (.mov (i_ 0))])
(.seq (.seq (.region [s_ 6 (.mov (i_ 0))])
(.block 0
(.loop t12L1)))
(.seq (.region [o_ (.mov (.loc 5)),o_ (.mov (.loc 3)),o_ (.len .sl (.reg 1)),s_ 12 (.bin .neq (.reg 0) (.reg 2))])
(.cond (.loc 12)
(.seq (.region [s_ 2 (.mov (.cst (.bool false)))])
.ret)
.skip)))))
.skip))
(.seq (.seq (.region [s_ 7 (.mov (i_ 0))])
(.block 2
(.loop t12L0)))
(.seq (.region [s_ 2 (.mov (.cst (.bool true)))])
.ret))))⟩
theorem c12 : compFunc Tryz.prog opts a12 Tryz.f12 = some t12 := by kernel_rfl
def a13 : Ann := { slots := [0,1,2,4,5,18,20,21,22,23,33],lb := [4,1],mu := [],trunc := [],draws := [] }
def t13L0 : TCode := (.seq (.region [s_ 9 (.bin .lss (.loc 8) (.loc 7))])
(.seq (.cond (.loc 9)
.skip
(.exit 0))
(.seq (.block 1
(.seq (.region [o_ (.indexAddrS 5 (.loc 6) (.loc 8)),o_ (.loadN 5 (.reg 0)),o_ (.allocL 3 [(.int .i64 0),(.int .i64 0),(.str []),(.sl .nil []),(.int .i64 0)]),o_ (.store 5 (.reg 2) (.reg 1))])
(.seq (.region [o_ (.loadN 5 (.loc 3)),o_ (.call true false 42 [(.reg 0)]),o_ (.un .not (.reg 1)),o_ (.mov (.reg 2)),⟨.loadN 5 (.loc 3),none,(some (3,false))⟩,⟨.call true false 43 [(.reg 4)],none,(some (3,false))⟩,⟨.un .not (.reg 5),none,(some (3,false))⟩,s_ 10 (.pick (.reg 3) (.cst (.bool true)) (.reg 6))])
(.cond (.loc 10)
(.seq (.region [s_ 2 (.mov (i_ 2))])
.ret)
.skip))))
(.region [o_ (.bin .add (.loc 8) (i_ 1)),s_ 8 (.mov (.reg 0))]))))
def t13 : TFunc := ⟨1,11,[.loc 2],
(.seq (.region [o_ (.boxL 1 (.loc 0)),s_ 2 (.mov (i_ 0))])
(.seq (.seq (.region [o_ (.fieldAddr 5 (.loc 1)),o_ (.load1 (.reg 0)),o_ (.bin .lss (.reg 1) (i_ 0)),o_ (.mov (.reg 2)),⟨.fieldAddr 5 (.loc 1),none,(some (3,false))⟩,⟨.load1 (.reg 4),none,(some (3,false))⟩,⟨.bin .gtr (.reg 5) (i_ 20000),none,(some (3,false))⟩,o_ (.pick (.reg 3) (.cst (.bool true)) (.reg 6)),o_ (.mov (.reg 7)),⟨.fieldAddr 6 (.loc 1),none,(some (8,false))⟩,⟨.load1 (.reg 9),none,(some (8,false))⟩,⟨.bin .lss (.reg 10) (i_ 0),none,(some (8,false))⟩,s_ 5 (.pick (.reg 8) (.cst (.bool true)) (.reg 11))])
(.cond (.loc 5)
(.seq (.region [s_ 2 (.mov (i_ 2))])
.ret)
.skip))
(.seq (.seq (.region [o_ (.fieldAddr 7 (.loc 1)),s_ 6 (.load1 (.reg 0)),s_ 7 (.len .sl (.reg 1)),s_ 8 (.mov (i_ 0))])
(.block 0
(.loop t13L0)))
(.seq (.region [o_ (.loadN 8 (.loc 1)),o_ (.mkMap),o_ (.mkMap),o_ (.mkMap),o_ (.build [(.int .i64 0),(.int .i64 0),(.sl .nil []),(.bool false),(.sl .nil []),(.int .i64 0),(.int .i64 0),(.sl .nil []),.nilm,.nilm,.nilm] [(0,8,(.reg 0)),(8,1,(.reg 1)),(9,1,(.reg 2)),(10,1,(.reg 3))]),o_ (.boxH 58 (.reg 4)),s_ 4 (.mov (.reg 5))])
(.seq (.region [o_ (.mov (.loc 4)),o_ (.fieldAddr 0 (.loc 1)),o_ (.loadN 5 (.reg 1)),o_ (.call false false 44 [(.reg 0),(.reg 2),(i_ 0)]),s_ 2 (.mov (.reg 3))])
.ret)))))⟩
theorem c13 : compFunc Tryz.prog opts a13 Tryz.f13 = some t13 := by kernel_rfl
def a14 : Ann := { slots := [0,1,2,3],lb := [1],mu := [],trunc := [],draws := [] }
def t14 : TFunc := ⟨1,4,[.loc 2],
(.seq (.region [o_ (.boxL 1 (.loc 0)),s_ 2 (.mov (.cst (.sl .nil [])))])
(.seq (.region [o_ (.mkMap),s_ 3 (.allocH 56 [.nilm]),o_ (.store 1 (.reg 1) (.reg 0))])
(.seq (.region [o_ (.loadN 5 (.loc 1)),o_ (.mkFn 46 [] [(.loc 3)]),o_ (.call false false 45 [(.reg 0),(.reg 1)])])
(.seq (.region [o_ (.load1 (.loc 3)),o_ (.prim 47 [(.reg 0)]),s_ 2 (.mov (.reg 1))])
.ret))))⟩
theorem c14 : compFunc Tryz.prog opts a14 Tryz.f14 = some t14 := by kernel_rfl
def a15 : Ann := { slots := [0,1,2,3],lb := [1],mu := [],trunc := [],draws := [] }
def t15 : TFunc := ⟨1,4,[.loc 2],
(.seq (.region [o_ (.boxL 1 (.loc 0)),s_ 2 (.mov (.cst (.sl .nil [])))])
(.seq (.region [o_ (.mkMap),s_ 3 (.allocH 56 [.nilm]),o_ (.store 1 (.reg 1) (.reg 0))])
(.seq (.region [o_ (.loadN 5 (.loc 1)),o_ (.mkFn 48 [] [(.loc 3)]),o_ (.call false false 45 [(.reg 0),(.reg 1)])])
(.seq (.region [o_ (.load1 (.loc 3)),o_ (.prim 47 [(.reg 0)]),s_ 2 (.mov (.reg 1))])
.ret))))⟩
theorem c15 : compFunc Tryz.prog opts a15 Tryz.f15 = some t15 := by kernel_rfl
def a16 : Ann := { slots := [0,1,4,5,9,17],lb := [],mu := [],trunc := [],draws := [] }
def t16L0 : TCode := (.seq (.seq (.region [o_ (.mov (.loc 3)),o_ (.mov (.loc 0)),o_ (.len .sl (.reg 1)),s_ 4 (.bin .lss (.reg 0) (.reg 2))])
(.cond (.loc 4)
.skip
(.exit 0)))
(.seq (.block 1
(.seq (.region [o_ (.mov (.loc 0)),o_ (.mov (.loc 3)),o_ (.indexAddrS 1 (.reg 0) (.reg 1)),o_ (.load1 (.reg 2)),o_ (.mov (.loc 1)),s_ 5 (.bin .eql (.reg 3) (.reg 4))])
(.cond (.loc 5)
(.seq (.region [s_ 2 (.mov (.cst (.bool true)))])
.ret)
.skip)))
(.region [o_ (.mov (.loc 3)),o_ (.bin .add (.reg 0) (i_ 1)),s_ 3 (.mov (.reg 1))])))
def t16 : TFunc := ⟨2,6,[.loc 2],
(.seq (.region [s_ 2 (.mov (.cst (.bool false)))])
(.seq (.seq (.region [s_ 3 (.mov (i_ 0))])
(.block 0
(.loop t16L0)))
(.seq (.region [s_ 2 (.mov (.cst (.bool false)))])
.ret)))⟩
theorem c16 : compFunc Tryz.prog opts a16 Tryz.f16 = some t16 := by kernel_rfl
def a17 : Ann := { slots := [0,1,2,3],lb := [1],mu := [],trunc := [],draws := [] }
def t17 : TFunc := ⟨1,4,[.loc 2],
(.seq (.region [o_ (.boxL 1 (.loc 0)),s_ 2 (.mov (.cst (.sl .nil [])))])
(.seq (.region [o_ (.mkMap),s_ 3 (.mov (.reg 0))])
(.seq (.region [o_ (.loadN 5 (.loc 1)),o_ (.mkMap),o_ (.mov (.loc 3)),o_ (.call false false 49 [(.reg 0),(.reg 1),(.reg 2)])])
(.seq (.region [o_ (.mov (.loc 3)),o_ (.prim 47 [(.reg 0)]),s_ 2 (.mov (.reg 1))])
.ret))))⟩
theorem c17 : compFunc Tryz.prog opts a17 Tryz.f17 = some t17 := by kernel_rfl
def a19 : Ann := { slots := [0,1,2,3,4],lb := [3,2],mu := [],trunc := [],draws := [] }
def t19 : TFunc := ⟨2,5,[.loc 4],
(.seq (.region [o_ (.boxL 2 (.loc 0)),o_ (.boxL 3 (.loc 1)),s_ 4 (.mov (.cst (.bool false)))])
(.seq (.region [o_ (.fieldAddr 5 (.loc 2)),o_ (.load1 (.reg 0)),o_ (.fieldAddr 5 (.loc 3)),o_ (.load1 (.reg 2)),o_ (.bin .eql (.reg 1) (.reg 3)),o_ (.mov (.reg 4)),⟨.fieldAddr 6 (.loc 2),none,(some (5,true))⟩,⟨.load1 (.reg 6),none,(some (5,true))⟩,⟨.fieldAddr 6 (.loc 3),none,(some (5,true))⟩,⟨.load1 (.reg 8),none,(some (5,true))⟩,⟨.bin .eql (.reg 7) (.reg 9),none,(some (5,true))⟩,o_ (.pick (.reg 5) (.reg 10) (.cst (.bool false))),o_ (.mov (.reg 11)),⟨.fieldAddr 7 (.loc 2),none,(some (12,true))⟩,⟨.load1 (.reg 13),none,(some (12,true))⟩,⟨.fieldAddr 7 (.loc 3),none,(some (12,true))⟩,⟨.load1 (.reg 15),none,(some (12,true))⟩,⟨.call false false 54 [(.reg 14),(.reg 16),(.fn 55)],none,(some (12,true))⟩,o_ (.pick (.reg 12) (.reg 17) (.cst (.bool false))),o_ (.mov (.reg 18)),⟨.fieldAddr 0 (.loc 2),none,(some (19,true))⟩,⟨.loadN 5 (.reg 20),none,(some (19,true))⟩,⟨.fieldAddr 0 (.loc 3),none,(some (19,true))⟩,⟨.loadN 5 (.reg 22),none,(some (19,true))⟩,⟨.call false false 56 [(.reg 21),(.reg 23)],none,(some (19,true))⟩,o_ (.pick (.reg 19) (.reg 24) (.cst (.bool false))),s_ 4 (.mov (.reg 25))])
.ret))⟩
theorem c19 : compFunc Tryz.prog opts a19 Tryz.f19 = some t19 := by kernel_rfl
def a21 : Ann := { slots := [0,1,2,3,12,21],lb := [1],mu := [],trunc := [],draws := [] }
def t21L0 : TCode := (.seq (.seq (.region [o_ (.mov (.loc 3)),o_ (.fieldAddr 7 (.loc 1)),o_ (.load1 (.reg 1)),o_ (.len .sl (.reg 2)),o_ (.bin .lss (.reg 0) (.reg 3)),o_ (.mov (.reg 4)),⟨.mov (.loc 3),none,(some (5,true))⟩,⟨.bin .lss (.reg 6) (i_ 30),none,(some (5,true))⟩,s_ 4 (.pick (.reg 5) (.reg 7) (.cst (.bool false)))])
(.cond (.loc 4)
.skip
(.exit 0)))
(.seq (.block 1
(.seq (.region [o_ (.fieldAddr 7 (.loc 1)),o_ (.load1 (.reg 0)),o_ (.mov (.loc 3)),o_ (.indexAddrS 5 (.reg 1) (.reg 2)),o_ (.loadN 5 (.reg 3)),o_ (.call true false 59 [(.reg 4),(i_ 60)]),s_ 5 (.bin .gtr (.reg 5) (i_ 200))])
(.cond (.loc 5)
(.seq (.region [s_ 2 (.mov (.cst (.bool true)))])
.ret)
.skip)))
(.region [o_ (.mov (.loc 3)),o_ (.bin .add (.reg 0) (i_ 1)),s_ 3 (.mov (.reg 1))])))
def t21 : TFunc := ⟨1,6,[.loc 2],
(.seq (.region [o_ (.boxL 1 (.loc 0)),s_ 2 (.mov (.cst (.bool false)))])
(.seq (.seq (.region [s_ 3 (.mov (i_ 0))])
(.block 0
(.loop t21L0)))
(.seq (.region [o_ (.fieldAddr 0 (.loc 1)),o_ (.loadN 5 (.reg 0)),o_ (.call true false 60 [(.reg 1),(i_ 400)]),o_ (.bin .gtr (.reg 2) (i_ 2000)),o_ (.mov (.reg 3)),⟨.fieldAddr 7 (.loc 1),none,(some (4,false))⟩,⟨.load1 (.reg 5),none,(some (4,false))⟩,⟨.len .sl (.reg 6),none,(some (4,false))⟩,⟨.bin .gtr (.reg 7) (i_ 20),none,(some (4,false))⟩,o_ (.pick (.reg 4) (.cst (.bool true)) (.reg 8)),o_ (.mov (.reg 9)),⟨.fieldAddr 6 (.loc 1),none,(some (10,false))⟩,⟨.load1 (.reg 11),none,(some (10,false))⟩,⟨.bin .gtr (.reg 12) (i_ 1099511627776),none,(some (10,false))⟩,o_ (.pick (.reg 10) (.cst (.bool true)) (.reg 13)),s_ 2 (.mov (.reg 14))])
.ret)))⟩
theorem c21 : compFunc Tryz.prog opts a21 Tryz.f21 = some t21 := by kernel_rfl
def a22 : Ann := { slots := [0],lb := [],mu := [],trunc := [],draws := [] }
def t22 : TFunc := ⟨0,1,[.loc 0],
(.seq (.region [s_ 0 (.mov (.cst (.bool false)))])
(.seq (.region [o_ (.call true false 61 []),o_ (.call true false 27 [(i_ 1),(.reg 0)]),o_ (.call true false 29 [(.reg 1),(.cst (.str [40,108,97,109,98,100,97,32,40,118,49,41,32,40,99,97,108,108,32,40,108,97,109,98,100,97,32,40,118,48,41,32,40,98,101,103,105,110,32,40,115,101,116,45,98,111,120,33,32,118,48,32,99,48,41,32,40,117,110,98,111,120,32,118,48,41,41,41,32,40,98,111,120,32,118,49,41,41,41]))]),s_ 0 (.mov (.reg 2))])
.ret))⟩
theorem c22 : compFunc Tryz.prog opts a22 Tryz.f22 = some t22 := by kernel_rfl
def a24 : Ann := { slots := [0,1,2,3,4,5,7,8,12,17,26,27,28,29],lb := [8,2,1],mu := [],trunc := [],draws := [(13,⟨[0,0,2,0,8,24,56,0,128,384,1023,2047,4095],[0,1,2,3,4,5,6,7,8],[(9,[0,2,6],[10]),(11,[],[12])]⟩)] }
def t24L0 : TCode := (.seq (.region [s_ 13 (.bin .lss (.loc 12) (.loc 11))])
(.seq (.cond (.loc 13)
.skip
(.exit 0))
(.seq (.block 1
(.seq (.region [o_ (.indexAddrS 1 (.loc 10) (.loc 12)),o_ (.load1 (.reg 0)),s_ 6 (.mov (.reg 1))])
(.region [o_ (.mov (.loc 5)),o_ (.nilCheck (.reg 0)),o_ (.fieldAddr 0 (.reg 1)),o_ (.load1 (.reg 2)),o_ (.mov (.loc 6)),o_ (.build [(.int .i64 0)] []),o_ (.update (.leaf .int) (.reg 3) (.reg 4) (.reg 5))])))
(.region [o_ (.bin .add (.loc 12) (i_ 1)),s_ 12 (.mov (.reg 0))]))))
def t24 : TFunc := ⟨1,14,[.cell 2 8 true,.loc 3],
(.seq (.region [o_ (.boxL 1 (.loc 0)),o_ (.allocL 2 [(.int .i64 0),(.int .i64 0),(.sl .nil []),(.bool false),(.sl .nil []),(.int .i64 0),(.int .i64 0),(.sl .nil [])]),s_ 3 (.mov (i_ 0))])
(.seq (.seq (.region [o_ (.loadN 8 (.loc 1)),o_ (.call true false 13 [(.reg 0)]),s_ 4 (.mov (.reg 1))])
(.seq (.region [o_ (.mov (.loc 4)),s_ 8 (.bin .neq (.reg 0) (i_ 0))])
(.cond (.loc 8)
(.seq (.region [o_ (.build [(.int .i64 0),(.int .i64 0),(.sl .nil []),(.bool false),(.sl .nil []),(.int .i64 0),(.int .i64 0),(.sl .nil [])] []),o_ (.mov (.loc 4)),o_ (.store 8 (.loc 2) (.reg 0)),s_ 3 (.mov (.reg 1))])
.ret)
.skip)))
(.seq (.seq (.region [o_ (.fieldAddr 0 (.loc 1)),o_ (.loadN 5 (.reg 0)),s_ 9 (.call true false 65 [(.reg 1)])])
(.cond (.loc 9)
(.seq (.region [o_ (.build [(.int .i64 0),(.int .i64 0),(.sl .nil []),(.bool false),(.sl .nil []),(.int .i64 0),(.int .i64 0),(.sl .nil [])] []),o_ (.store 8 (.loc 2) (.reg 0)),s_ 3 (.mov (i_ 2))])
.ret)
.skip))
(.seq (.region [o_ (.mkMap),o_ (.fieldAddr 6 (.loc 1)),o_ (.load1 (.reg 1)),o_ (.build [.nilm,(.int .i64 0)] [(0,1,(.reg 0)),(1,1,(.reg 2))]),o_ (.boxH 80 (.reg 3)),s_ 5 (.mov (.reg 4))])
(.seq (.seq (.region [o_ (.fieldAddr 0 (.loc 1)),o_ (.loadN 5 (.reg 0)),s_ 10 (.call true false 14 [(.reg 1)]),s_ 11 (.len .sl (.reg 2)),s_ 12 (.mov (i_ 0))])
(.block 0
(.loop t24L0)))
(.seq (.region [o_ (.mov (.loc 5)),o_ (.fieldAddr 0 (.loc 1)),o_ (.loadN 5 (.reg 1)),o_ (.call false false 66 [(.reg 0),(.reg 2)]),o_ (.allocL 7 [(.int .i64 0),(.int .i64 0),(.sl .nil []),(.bool false),(.sl .nil [])]),o_ (.store 5 (.reg 4) (.reg 3))])
(.seq (.draw [0,1,2,3,4,5,6,7,8] [(9,[0,2,6],[10]),(11,[],[12])] [o_ (.loadN 5 (.loc 7)),o_ (.fieldAddr 5 (.loc 1)),o_ (.load1 (.reg 1)),o_ (.mov (.loc 5)),o_ (.nilCheck (.reg 3)),o_ (.fieldAddr 1 (.reg 4)),o_ (.load1 (.reg 5)),o_ (.fieldAddr 7 (.loc 1)),o_ (.load1 (.reg 7)),o_ (.call false false 67 [(.reg 8)]),o_ (.build [(.int .i64 0),(.int .i64 0),(.sl .nil []),(.bool false),(.sl .nil []),(.int .i64 0),(.int .i64 0),(.sl .nil [])] [(0,5,(.reg 0)),(5,1,(.reg 2)),(6,1,(.reg 6)),(7,1,(.reg 9))]),o_ (.store 8 (.loc 2) (.reg 10)),s_ 3 (.mov (i_ 0))])
.ret)))))))⟩
theorem c24 : compFunc Tryz.prog opts a24 Tryz.f24 = some t24 := by kernel_rfl
def a26 : Ann := { slots := [0,2],lb := [2],mu := [],trunc := [],draws := [] }
def t26 : TFunc := ⟨1,2,[.cell 1 5 true],
(.seq (.region [o_ (.allocL 1 [(.int .i64 0),(.int .i64 0),(.sl .nil []),(.bool false),(.sl .nil [])])])
(.seq (.region [o_ (.mov (.loc 0)),o_ (.build [(.int .i64 0),(.int .i64 0),(.sl .nil []),(.bool false),(.sl .nil [])] [(0,1,(i_ 2)),(1,1,(.reg 0))]),o_ (.store 5 (.loc 1) (.reg 1))])
.ret))⟩
theorem c26 : compFunc Tryz.prog opts a26 Tryz.f26 = some t26 := by kernel_rfl
def a27 : Ann := { slots := [0,1,3,4],lb := [4,3],mu := [],trunc := [],draws := [] }
def t27 : TFunc := ⟨2,4,[.cell 3 8 true],
(.seq (.region [o_ (.boxL 2 (.loc 1)),o_ (.allocL 3 [(.int .i64 0),(.int .i64 0),(.sl .nil []),(.bool false),(.sl .nil []),(.int .i64 0),(.int .i64 0),(.sl .nil [])])])
(.seq (.region [o_ (.loadN 5 (.loc 2)),o_ (.mov (.loc 0)),o_ (.build [(.int .i64 0),(.int .i64 0),(.str []),(.sl .nil []),(.int .i64 0)] [(0,1,(i_ 0))]),o_ (.lit false [(.int .i64 0),(.int .i64 0),(.str []),(.sl .nil []),(.int .i64 0)] 1 [(0,(.reg 2))]),o_ (.build [(.int .i64 0),(.int .i64 0),(.sl .nil []),(.bool false),(.sl .nil []),(.int .i64 0),(.int .i64 0),(.sl .nil [])] [(0,5,(.reg 0)),(6,1,(.reg 1)),(7,1,(.reg 3))]),o_ (.store 8 (.loc 3) (.reg 4))])
.ret))⟩
theorem c27 : compFunc Tryz.prog opts a27 Tryz.f27 = some t27 := by kernel_rfl
def a28 : Ann := { slots := [0,2],lb := [2],mu := [],trunc := [],draws := [] }
def t28 : TFunc := ⟨1,2,[.cell 1 5 true],
(.seq (.region [o_ (.allocL 1 [(.int .i64 0),(.int .i64 0),(.sl .nil []),(.bool false),(.sl .nil [])])])
(.seq (.region [o_ (.mov (.loc 0)),o_ (.build [(.int .i64 0),(.int .i64 0),(.sl .nil []),(.bool false),(.sl .nil [])] [(0,1,(i_ 1)),(1,1,(.reg 0))]),o_ (.store 5 (.loc 1) (.reg 1))])
.ret))⟩
theorem c28 : compFunc Tryz.prog opts a28 Tryz.f28 = some t28 := by kernel_rfl
def a29 : Ann := { slots := [0,1,2,4,5,6],lb := [5,2],mu := [],trunc := [],draws := [] }
def t29 : TFunc := ⟨2,6,[.loc 3],
(.seq (.region [o_ (.boxL 2 (.loc 0)),s_ 3 (.mov (.cst (.bool false)))])
(.seq (.region [o_ (.loadN 8 (.loc 2)),o_ (.call true false 24 [(.reg 0)]),o_ (.mov (.reg 1)),o_ (.extract 0 (.reg 2)),o_ (.extract 1 (.reg 2)),o_ (.allocL 4 [(.int .i64 0),(.int .i64 0),(.sl .nil []),(.bool false),(.sl .nil []),(.int .i64 0),(.int .i64 0),(.sl .nil [])]),o_ (.store 8 (.reg 5) (.reg 3)),s_ 5 (.mov (.reg 4))])
(.seq (.region [o_ (.mov (.loc 5)),o_ (.bin .eql (.reg 0) (i_ 0)),o_ (.mov (.reg 1)),⟨.fieldAddr 0 (.loc 4),none,(some (2,true))⟩,⟨.loadN 5 (.reg 3),none,(some (2,true))⟩,⟨.call false false 38 [(.reg 4)],none,(some (2,true))⟩,⟨.mov (.loc 1),none,(some (2,true))⟩,⟨.bin .eql (.reg 5) (.reg 6),none,(some (2,true))⟩,o_ (.pick (.reg 2) (.reg 7) (.cst (.bool false))),s_ 3 (.mov (.reg 8))])
.ret)))⟩
theorem c29 : compFunc Tryz.prog opts a29 Tryz.f29 = some t29 := by kernel_rfl
def a31 : Ann := { slots := [0,1,2,3,4,7,12],lb := [1],mu := [],trunc := [],draws := [] }
def t31L0 : TCode := (.seq (.seq (.region [o_ (.mov (.loc 4)),o_ (.fieldAddr 4 (.loc 1)),o_ (.load1 (.reg 1)),o_ (.len .sl (.reg 2)),s_ 6 (.bin .lss (.reg 0) (.reg 3))])
(.cond (.loc 6)
.skip
(.exit 0)))
(.seq (.block 1
(.region [o_ (.mov (.loc 3)),o_ (.fieldAddr 4 (.loc 1)),o_ (.load1 (.reg 1)),o_ (.mov (.loc 4)),o_ (.indexAddrS 5 (.reg 2) (.reg 3)),o_ (.loadN 5 (.reg 4)),o_ (.call true false 31 [(.reg 5)]),o_ (.bin .add (.reg 0) (.reg 6)),s_ 3 (.mov (.reg 7))]))
(.region [o_ (.mov (.loc 4)),o_ (.bin .add (.reg 0) (i_ 1)),s_ 4 (.mov (.reg 1))])))
def t31 : TFunc := ⟨1,7,[.loc 2],
(.seq (.region [o_ (.boxL 1 (.loc 0)),s_ 2 (.mov (i_ 0))])
(.seq (.region [s_ 3 (.mov (i_ 0))])
(.seq (.seq (.region [o_ (.fieldAddr 0 (.loc 1)),o_ (.load1 (.reg 0)),s_ 5 (.bin .eql (.reg 1) (i_ 4))])
(.cond (.loc 5)
(.region [s_ 3 (.mov (i_ 1))])
.skip))
(.seq (.seq (.region [s_ 4 (.mov (i_ 0))])
(.block 0
(.loop t31L0)))
(.seq (.region [o_ (.mov (.loc 3)),s_ 2 (.mov (.reg 0))])
.ret)))))⟩
theorem c31 : compFunc Tryz.prog opts a31 Tryz.f31 = some t31 := by kernel_rfl
def a32 : Ann := { slots := [0,1,2,3,4,9],lb := [1],mu := [],trunc := [],draws := [] }
def t32L0 : TCode := (.seq (.seq (.region [o_ (.mov (.loc 4)),o_ (.fieldAddr 4 (.loc 1)),o_ (.load1 (.reg 1)),o_ (.len .sl (.reg 2)),s_ 5 (.bin .lss (.reg 0) (.reg 3))])
(.cond (.loc 5)
.skip
(.exit 0)))
(.seq (.block 1
(.region [o_ (.mov (.loc 3)),o_ (.fieldAddr 4 (.loc 1)),o_ (.load1 (.reg 1)),o_ (.mov (.loc 4)),o_ (.indexAddrS 5 (.reg 2) (.reg 3)),o_ (.loadN 5 (.reg 4)),o_ (.call true false 32 [(.reg 5)]),o_ (.bin .add (i_ 1) (.reg 6)),o_ (.minmax true [(.reg 0),(.reg 7)]),s_ 3 (.mov (.reg 8))]))
(.region [o_ (.mov (.loc 4)),o_ (.bin .add (.reg 0) (i_ 1)),s_ 4 (.mov (.reg 1))])))
def t32 : TFunc := ⟨1,6,[.loc 2],
(.seq (.region [o_ (.boxL 1 (.loc 0)),s_ 2 (.mov (i_ 0))])
(.seq (.region [s_ 3 (.mov (i_ 0))])
(.seq (.seq (.region [s_ 4 (.mov (i_ 0))])
(.block 0
(.loop t32L0)))
(.seq (.region [o_ (.mov (.loc 3)),s_ 2 (.mov (.reg 0))])
.ret))))⟩
theorem c32 : compFunc Tryz.prog opts a32 Tryz.f32 = some t32 := by kernel_rfl
def a38 : Ann := { slots := [0,1,2,3,4,5,6,8,38,43,44,54,65,83,86,87,88,89],lb := [8,3,1],mu := [(4,2)],trunc := [],draws := [(9,⟨[0,1,0,4,12,31,63],[0,1,2,3],[(4,[1],[5,6])]⟩),(12,⟨[0,1,3,0,8,24,63,127,255],[0,1,2,3,4],[(5,[2],[6,7]),(8,[],[])]⟩)] }
def t38L0 : TCode := (.seq (.region [s_ 17 (.bin .lss (.loc 16) (.loc 15))])
(.seq (.cond (.loc 17)
.skip
(.exit 1))
(.seq (.block 2
(.seq (.region [o_ (.indexAddrS 5 (.loc 14) (.loc 16)),o_ (.loadN 5 (.reg 0)),o_ (.allocL 7 [(.int .i64 0),(.int .i64 0),(.sl .nil []),(.bool false),(.sl .nil [])]),o_ (.store 5 (.reg 2) (.reg 1))])
(.region [o_ (.mov (.loc 5)),o_ (.loadN 5 (.loc 7)),o_ (.call false false 38 [(.reg 1)]),o_ (.lit false [(.str [])] 1 [(0,(.reg 2))]),o_ (.append false 1 16 9 (.reg 0) (.reg 3)),s_ 5 (.mov (.reg 4))])))
(.region [o_ (.bin .add (.loc 16) (i_ 1)),s_ 16 (.mov (.reg 0))]))))
def t38 : TFunc := ⟨1,18,[.loc 2],
(.seq (.region [o_ (.boxL 1 (.loc 0)),s_ 2 (.mov (.cst (.str [])))])
(.seq (.region [o_ (.loadN 5 (.loc 1)),o_ (.call true false 74 [(.reg 0)]),o_ (.mov (.reg 1)),o_ (.extract 0 (.reg 2)),o_ (.extract 1 (.reg 2)),o_ (.allocL 3 [(.bool false),(.int .i64 0),(.bool false),(.str [])]),o_ (.store 4 (.reg 5) (.reg 3)),s_ 4 (.mov (.reg 4))])
(.seq (.seq (.region [o_ (.mov (.loc 4)),o_ (.un .not (.reg 0)),o_ (.mov (.reg 1)),⟨.fieldAddr 4 (.loc 1),none,(some (2,false))⟩,⟨.load1 (.reg 3),none,(some (2,false))⟩,⟨.len .sl (.reg 4),none,(some (2,false))⟩,⟨.fieldAddr 1 (.loc 3),none,(some (2,false))⟩,⟨.load1 (.reg 6),none,(some (2,false))⟩,⟨.bin .lss (.reg 5) (.reg 7),none,(some (2,false))⟩,o_ (.pick (.reg 2) (.cst (.bool true)) (.reg 8)),o_ (.mov (.reg 9)),⟨.fieldAddr 3 (.loc 1),none,(some (10,false))⟩,⟨.load1 (.reg 11),none,(some (10,false))⟩,⟨.mov (.reg 12),none,(some (10,false))⟩,⟨.fieldAddr 0 (.loc 1),none,(some (13,true))⟩,⟨.load1 (.reg 14),none,(some (13,true))⟩,⟨.bin .eql (.reg 15) (i_ 7),none,(some (13,true))⟩,⟨.pick (.reg 13) (.reg 16) (.cst (.bool false)),none,(some (10,false))⟩,⟨.mov (.reg 17),none,(some (10,false))⟩,⟨.fieldAddr 2 (.loc 1),none,(some (18,true))⟩,⟨.load1 (.reg 19),none,(some (18,true))⟩,⟨.len .sl (.reg 20),none,(some (18,true))⟩,⟨.bin .eql (.reg 21) (i_ 0),none,(some (18,true))⟩,⟨.pick (.reg 18) (.reg 22) (.cst (.bool false)),none,(some (10,false))⟩,s_ 8 (.pick (.reg 10) (.cst (.bool true)) (.reg 23))])
(.cond (.loc 8)
(.seq (.region [s_ 2 (.mov (.cst (.str [63])))])
.ret)
.skip))
(.seq (.region [o_ (.fieldAddr 3 (.loc 3)),o_ (.load1 (.reg 0)),o_ (.lit true [(.str [])] 1 [(0,(.reg 1))]),s_ 5 (.mov (.reg 2))])
(.seq (.seq (.region [o_ (.fieldAddr 0 (.loc 1)),s_ 9 (.load1 (.reg 0))])
(.block 0
(.seq (.seq (.region [o_ (.bin .eql (.loc 9) (i_ 1)),s_ 10 (.mov (.reg 0))])
(.cond (.loc 10)
.skip
(.seq (.region [o_ (.bin .eql (.loc 9) (i_ 2)),s_ 10 (.mov (.reg 0))])
(.cond (.loc 10)
.skip
(.region [o_ (.bin .eql (.loc 9) (i_ 3)),s_ 10 (.mov (.reg 0))])))))
(.cond (.loc 10)
(.seq (.draw [0,1,2,3] [(4,[1],[5,6])] [o_ (.fieldAddr 3 (.loc 3)),o_ (.load1 (.reg 0)),o_ (.fieldAddr 1 (.loc 1)),o_ (.load1 (.reg 2)),o_ (.call true false 75 [(.reg 3)]),o_ (.bin .add (.reg 1) (.reg 4)),s_ 2 (.mov (.reg 5))])
.ret)
(.seq (.seq (.region [o_ (.bin .eql (.loc 9) (i_ 4)),s_ 11 (.mov (.reg 0))])
(.cond (.loc 11)
.skip
(.region [o_ (.bin .eql (.loc 9) (i_ 5)),s_ 11 (.mov (.reg 0))])))
(.cond (.loc 11)
(.draw [0,1,2,3,4] [(5,[2],[6,7]),(8,[],[])] [o_ (.mov (.loc 5)),o_ (.indexAddrS 1 (.reg 0) (i_ 0)),o_ (.load1 (.reg 1)),o_ (.fieldAddr 1 (.loc 1)),o_ (.load1 (.reg 3)),o_ (.call true false 75 [(.reg 4)]),o_ (.bin .add (.reg 2) (.reg 5)),o_ (.indexAddrS 1 (.reg 0) (i_ 0)),o_ (.store 1 (.reg 7) (.reg 6))])
(.seq (.region [o_ (.bin .eql (.loc 9) (i_ 7)),s_ 12 (.mov (.reg 0))])
(.cond (.loc 12)
(.region [o_ (.mov (.loc 5)),o_ (.loadN 5 (.loc 1)),o_ (.call false false 76 [(.reg 1)]),o_ (.lit false [(.str [])] 1 [(0,(.reg 2))]),o_ (.append false 1 16 9 (.reg 0) (.reg 3)),s_ 5 (.mov (.reg 4))])
.skip))))))))
(.seq (.region [o_ (.fieldAddr 4 (.loc 1)),o_ (.load1 (.reg 0)),o_ (.fieldAddr 1 (.loc 3)),o_ (.load1 (.reg 2)),o_ (.slice (.sl 5) (.reg 1) none (some (.reg 3)) none),s_ 6 (.mov (.reg 4))])
(.seq (.seq (.region [o_ (.fieldAddr 2 (.loc 3)),o_ (.load1 (.reg 0)),o_ (.mov (.reg 1)),⟨.fieldAddr 0 (.loc 1),none,(some (2,false))⟩,⟨.load1 (.reg 3),none,(some (2,false))⟩,⟨.bin .eql (.reg 4) (i_ 9),none,(some (2,false))⟩,s_ 13 (.pick (.reg 2) (.cst (.bool true)) (.reg 5))])
(.cond (.loc 13)
(.region [o_ (.fieldAddr 4 (.loc 1)),o_ (.load1 (.reg 0)),s_ 6 (.mov (.reg 1))])
.skip))
(.seq (.seq (.region [s_ 14 (.mov (.loc 6)),s_ 15 (.len .sl (.reg 0)),s_ 16 (.mov (i_ 0))])
(.block 1
(.loop t38L0)))
(.seq (.region [o_ (.mov (.loc 5)),o_ (.call true false 77 [(.reg 0),(.cst (.str [32]))]),o_ (.bin .add (.cst (.str [40])) (.reg 1)),o_ (.bin .add (.reg 2) (.cst (.str [41]))),s_ 2 (.mov (.reg 3))])
.ret)))))))))⟩
theorem c38 : compFunc Tryz.prog opts a38 Tryz.f38 = some t38 := by kernel_rfl
def a40 : Ann := { slots := [0,1,2,4,5,6,8,17],lb := [2],mu := [],trunc := [],draws := [] }
def t40L0 : TCode := (.seq (.seq (.region [o_ (.mov (.loc 5)),o_ (.fieldAddr 3 (.loc 2)),o_ (.load1 (.reg 1)),o_ (.len .sl (.reg 2)),o_ (.bin .lss (.reg 0) (.reg 3)),o_ (.mov (.reg 4)),⟨.mov (.loc 4),none,(some (5,true))⟩,⟨.bin .lss (.reg 6) (i_ 5000),none,(some (5,true))⟩,s_ 7 (.pick (.reg 5) (.reg 7) (.cst (.bool false)))])
(.cond (.loc 7)
.skip
(.exit 0)))
(.seq (.block 1
(.region [o_ (.mov (.loc 4)),o_ (.fieldAddr 3 (.loc 2)),o_ (.load1 (.reg 1)),o_ (.mov (.loc 5)),o_ (.indexAddrS 5 (.reg 2) (.reg 3)),o_ (.loadN 5 (.reg 4)),o_ (.mov (.loc 1)),o_ (.bin .sub (.reg 6) (i_ 1)),o_ (.call false false 40 [(.reg 5),(.reg 7)]),o_ (.bin .add (.reg 0) (.reg 8)),s_ 4 (.mov (.reg 9))]))
(.region [o_ (.mov (.loc 5)),o_ (.bin .add (.reg 0) (i_ 1)),s_ 5 (.mov (.reg 1))])))
def t40 : TFunc := ⟨2,8,[.loc 3],
(.seq (.region [o_ (.boxL 2 (.loc 0)),s_ 3 (.mov (i_ 0))])
(.seq (.seq (.region [o_ (.mov (.loc 1)),s_ 6 (.bin .eql (.reg 0) (i_ 0))])
(.cond (.loc 6)
(.seq (.region [s_ 3 (.mov (i_ 5000))])
.ret)
.skip))
(.seq (.region [s_ 4 (.mov (i_ 1))])
(.seq (.seq (.region [s_ 5 (.mov (i_ 0))])
(.block 0
(.loop t40L0)))
(.seq (.region [o_ (.mov (.loc 4)),s_ 3 (.mov (.reg 0))])
.ret)))))⟩
theorem c40 : compFunc Tryz.prog opts a40 Tryz.f40 = some t40 := by kernel_rfl
def a42 : Ann := { slots := [0,1,2,4,10,17],lb := [1],mu := [],trunc := [],draws := [] }
def t42L0 : TCode := (.seq (.seq (.region [o_ (.loadN 5 (.loc 1)),s_ 3 (.call false false 82 [(.reg 0)])])
(.cond (.loc 3)
.skip
(.exit 0)))
(.block 1
(.seq (.seq (.region [o_ (.fieldAddr 3 (.loc 1)),o_ (.load1 (.reg 0)),o_ (.indexAddrS 5 (.reg 1) (i_ 0)),o_ (.loadN 5 (.reg 2)),o_ (.call true false 42 [(.reg 3)]),s_ 4 (.un .not (.reg 4))])
(.cond (.loc 4)
(.seq (.region [s_ 2 (.mov (.cst (.bool false)))])
.ret)
.skip))
(.region [o_ (.fieldAddr 3 (.loc 1)),o_ (.load1 (.reg 0)),o_ (.indexAddrS 5 (.reg 1) (i_ 1)),o_ (.loadN 5 (.reg 2)),o_ (.store 5 (.loc 1) (.reg 3))]))))
def t42 : TFunc := ⟨1,6,[.loc 2],
(.seq (.region [o_ (.boxL 1 (.loc 0)),s_ 2 (.mov (.cst (.bool false)))])
(.seq (.block 0
(.loop t42L0))
(.seq (.seq (.region [o_ (.fieldAddr 0 (.loc 1)),o_ (.load1 (.reg 0)),s_ 5 (.bin .eql (.reg 1) (i_ 7))])
(.cond (.loc 5)
(.seq (.region [o_ (.fieldAddr 3 (.loc 1)),o_ (.load1 (.reg 0)),o_ (.call false false 83 [(.reg 1),(.fn 84)]),o_ (.un .not (.reg 2)),s_ 2 (.mov (.reg 3))])
.ret)
.skip))
(.seq (.region [o_ (.fieldAddr 3 (.loc 1)),o_ (.load1 (.reg 0)),o_ (.len .sl (.reg 1)),o_ (.bin .eql (.reg 2) (i_ 0)),o_ (.mov (.reg 3)),⟨.loadN 5 (.loc 1),none,(some (4,true))⟩,⟨.call true false 85 [(.reg 5)],none,(some (4,true))⟩,o_ (.pick (.reg 4) (.reg 6) (.cst (.bool false))),s_ 2 (.mov (.reg 7))])
.ret))))⟩
theorem c42 : compFunc Tryz.prog opts a42 Tryz.f42 = some t42 := by kernel_rfl
def a43 : Ann := { slots := [0,1,2,11,17,29],lb := [1],mu := [],trunc := [],draws := [] }
def t43L0 : TCode := (.seq (.seq (.region [o_ (.fieldAddr 0 (.loc 1)),o_ (.load1 (.reg 0)),o_ (.bin .eql (.reg 1) (i_ 6)),o_ (.mov (.reg 2)),⟨.fieldAddr 3 (.loc 1),none,(some (3,true))⟩,⟨.load1 (.reg 4),none,(some (3,true))⟩,⟨.len .sl (.reg 5),none,(some (3,true))⟩,⟨.bin .eql (.reg 6) (i_ 2),none,(some (3,true))⟩,s_ 3 (.pick (.reg 3) (.reg 7) (.cst (.bool false)))])
(.cond (.loc 3)
.skip
(.exit 0)))
(.block 1
(.seq (.seq (.region [o_ (.fieldAddr 3 (.loc 1)),o_ (.load1 (.reg 0)),o_ (.indexAddrS 5 (.reg 1) (i_ 0)),o_ (.loadN 5 (.reg 2)),o_ (.call true false 43 [(.reg 3)]),s_ 4 (.un .not (.reg 4))])
(.cond (.loc 4)
(.seq (.region [s_ 2 (.mov (.cst (.bool false)))])
.ret)
.skip))
(.region [o_ (.fieldAddr 3 (.loc 1)),o_ (.load1 (.reg 0)),o_ (.indexAddrS 5 (.reg 1) (i_ 1)),o_ (.loadN 5 (.reg 2)),o_ (.store 5 (.loc 1) (.reg 3))]))))
def t43 : TFunc := ⟨1,6,[.loc 2],
(.seq (.region [o_ (.boxL 1 (.loc 0)),s_ 2 (.mov (.cst (.bool false)))])
(.seq (.block 0
(.loop t43L0))
(.seq (.seq (.region [o_ (.fieldAddr 0 (.loc 1)),o_ (.load1 (.reg 0)),o_ (.bin .eql (.reg 1) (i_ 5)),o_ (.mov (.reg 2)),⟨.fieldAddr 1 (.loc 1),none,(some (3,true))⟩,⟨.load1 (.reg 4),none,(some (3,true))⟩,⟨.bin .neq (.reg 5) (i_ 0),none,(some (3,true))⟩,s_ 5 (.pick (.reg 3) (.reg 6) (.cst (.bool false)))])
(.cond (.loc 5)
(.seq (.region [s_ 2 (.mov (.cst (.bool false)))])
.ret)
.skip))
(.seq (.region [o_ (.fieldAddr 3 (.loc 1)),o_ (.load1 (.reg 0)),o_ (.call false false 83 [(.reg 1),(.fn 86)]),o_ (.un .not (.reg 2)),s_ 2 (.mov (.reg 3))])
.ret))))⟩
theorem c43 : compFunc Tryz.prog opts a43 Tryz.f43 = some t43 := by kernel_rfl
def a44 : Ann := { slots := [0,1,2,4,6,8,10,11,13,14,17,23,24,25,26,36,52,61,87,89,90,91,92,101,105,106,107,108],lb := [10,4],mu := [],trunc := [],draws := [(14,⟨[0,1,3,7,0,16,63,127,255],[0,1,2,3,4,5,6,7,8],[]⟩),(16,⟨[0,1,3,7,0,16,0,127],[0,1,2,3,4,5,6],[(7,[],[])]⟩),(17,⟨[0,1,3,7,15,31,63,127,255,511,1023,2047,4095,511,8703,32767,65535,131071,262143],[0,1,2,3,4,5,6,7,8,9,10,11,12,13,14,15,16,17,18],[]⟩)] }
def t44L0 : TCode := (.seq (.region [s_ 27 (.bin .lss (.loc 26) (.loc 25))])
(.seq (.cond (.loc 27)
.skip
(.exit 5))
(.seq (.block 6
(.seq (.region [o_ (.indexAddrS 1 (.loc 24) (.loc 26)),o_ (.load1 (.reg 0)),s_ 8 (.mov (.reg 1))])
(.region [o_ (.mov (.loc 0)),o_ (.nilCheck (.reg 0)),o_ (.fieldAddr 10 (.reg 1)),o_ (.load1 (.reg 2)),o_ (.mov (.loc 8)),o_ (.build [(.int .i64 0)] []),o_ (.update (.leaf .int) (.reg 3) (.reg 4) (.reg 5))])))
(.region [o_ (.bin .add (.loc 26) (i_ 1)),s_ 26 (.mov (.reg 0))]))))
def t44L1 : TCode := (.seq (.region [s_ 22 (.bin .lss (.loc 21) (.loc 20))])
(.seq (.cond (.loc 22)
.skip
(.exit 3))
(.seq (.block 4
(.seq (.region [o_ (.indexAddrS 5 (.loc 19) (.loc 21)),o_ (.loadN 5 (.reg 0)),o_ (.allocL 6 [(.int .i64 0),(.int .i64 0),(.sl .nil []),(.bool false),(.sl .nil [])]),o_ (.store 5 (.reg 2) (.reg 1))])
(.seq (.region [o_ (.mov (.loc 0)),o_ (.loadN 5 (.loc 6)),o_ (.mov (.loc 2)),o_ (.bin .add (.reg 2) (i_ 1)),o_ (.call false false 44 [(.reg 0),(.reg 1),(.reg 3)]),s_ 7 (.mov (.reg 4))])
(.seq (.region [o_ (.mov (.loc 7)),s_ 23 (.bin .neq (.reg 0) (i_ 0))])
(.cond (.loc 23)
(.seq (.region [o_ (.mov (.loc 7)),s_ 4 (.mov (.reg 0))])
.ret)
.skip)))))
(.region [o_ (.bin .add (.loc 21) (i_ 1)),s_ 21 (.mov (.reg 0))]))))
def t44L2 : TCode := (.seq (.region [s_ 14 (.bin .lss (.loc 13) (.loc 12))])
(.seq (.cond (.loc 14)
.skip
(.exit 1))
(.seq (.block 2
(.seq (.region [o_ (.indexAddrS 1 (.loc 11) (.loc 13)),o_ (.load1 (.reg 0)),s_ 5 (.mov (.reg 1))])
(.seq (.seq (.region [o_ (.mov (.loc 0)),o_ (.nilCheck (.reg 0)),o_ (.fieldAddr 8 (.reg 1)),o_ (.load1 (.reg 2)),o_ (.mov (.loc 5)),o_ (.lookup (.leaf .int) (.agg [(.int .i64 0)]) false (.reg 3) (.reg 4)),o_ (.field 0 1 false (.reg 5)),s_ 15 (.bin .gtr (.reg 6) (i_ 0))])
(.cond (.loc 15)
(.seq (.region [s_ 4 (.mov (i_ 14))])
.ret)
.skip))
(.seq (.region [o_ (.mov (.loc 0)),o_ (.nilCheck (.reg 0)),o_ (.fieldAddr 8 (.reg 1)),o_ (.load1 (.reg 2)),o_ (.mov (.loc 5)),o_ (.build [(.int .i64 0)] [(0,1,(i_ 1))]),o_ (.update (.leaf .int) (.reg 3) (.reg 4) (.reg 5))])
(.region [o_ (.mov (.loc 0)),o_ (.nilCheck (.reg 0)),o_ (.fieldAddr 10 (.reg 1)),o_ (.load1 (.reg 2)),o_ (.mov (.loc 5)),o_ (.build [(.int .i64 0)] [(0,1,(i_ 1))]),o_ (.update (.leaf .int) (.reg 3) (.reg 4) (.reg 5))])))))
(.region [o_ (.bin .add (.loc 13) (i_ 1)),s_ 13 (.mov (.reg 0))]))))
def t44 : TFunc := ⟨3,28,[.loc 4],
(.seq (.region [o_ (.boxL 3 (.loc 1)),s_ 4 (.mov (i_ 0))])
(.seq (.block 0
(.seq (.region [o_ (.mov (.loc 2)),o_ (.bin .geq (.reg 0) (i_ 4000)),s_ 9 (.mov (.reg 1))])
(.cond (.loc 9)
(.seq (.region [s_ 4 (.mov (i_ 5))])
.ret)
(.seq (.region [o_ (.mov (.loc 0)),o_ (.loadN 5 (.loc 3)),o_ (.call false false 87 [(.reg 0),(.reg 1)]),o_ (.un .not (.reg 2)),s_ 10 (.mov (.reg 3))])
(.cond (.loc 10)
(.seq (.region [s_ 4 (.mov (i_ 4))])
.ret)
.skip)))))
(.seq (.seq (.region [o_ (.fieldAddr 2 (.loc 3)),s_ 11 (.load1 (.reg 0)),s_ 12 (.len .sl (.reg 1)),s_ 13 (.mov (i_ 0))])
(.block 1
(.loop t44L2)))
(.seq (.seq (.region [o_ (.fieldAddr 0 (.loc 3)),o_ (.load1 (.reg 0)),s_ 16 (.bin .eql (.reg 1) (i_ 1))])
(.cond (.loc 16)
(.seq (.seq (.draw [0,1,2,3,4,5,6,7,8] [] [o_ (.mov (.loc 0)),o_ (.nilCheck (.reg 0)),o_ (.fieldAddr 9 (.reg 1)),o_ (.load1 (.reg 2)),o_ (.fieldAddr 1 (.loc 3)),o_ (.load1 (.reg 4)),o_ (.lookup (.leaf .int) (.agg [(.int .i64 0)]) false (.reg 3) (.reg 5)),o_ (.field 0 1 false (.reg 6)),s_ 17 (.bin .gtr (.reg 7) (i_ 0))])
(.cond (.loc 17)
(.seq (.region [s_ 4 (.mov (i_ 14))])
.ret)
.skip))
(.draw [0,1,2,3,4,5,6] [(7,[],[])] [o_ (.mov (.loc 0)),o_ (.nilCheck (.reg 0)),o_ (.fieldAddr 9 (.reg 1)),o_ (.load1 (.reg 2)),o_ (.fieldAddr 1 (.loc 3)),o_ (.load1 (.reg 4)),o_ (.build [(.int .i64 0)] [(0,1,(i_ 1))]),o_ (.update (.leaf .int) (.reg 3) (.reg 5) (.reg 6))]))
.skip))
(.seq (.seq (.draw [0,1,2,3,4,5,6,7,8,9,10,11,12,13,14,15,16,17,18] [] [o_ (.fieldAddr 0 (.loc 3)),o_ (.load1 (.reg 0)),o_ (.bin .eql (.reg 1) (i_ 2)),o_ (.mov (.reg 2)),⟨.fieldAddr 0 (.loc 3),none,(some (3,false))⟩,⟨.load1 (.reg 4),none,(some (3,false))⟩,⟨.bin .eql (.reg 5) (i_ 4),none,(some (3,false))⟩,o_ (.pick (.reg 3) (.cst (.bool true)) (.reg 6)),o_ (.mov (.reg 7)),⟨.mov (.loc 0),none,(some (8,true))⟩,⟨.nilCheck (.reg 9),none,(some (8,true))⟩,⟨.fieldAddr 10 (.reg 10),none,(some (8,true))⟩,⟨.load1 (.reg 11),none,(some (8,true))⟩,⟨.fieldAddr 1 (.loc 3),none,(some (8,true))⟩,⟨.load1 (.reg 13),none,(some (8,true))⟩,⟨.lookup (.leaf .int) (.agg [(.int .i64 0)]) false (.reg 12) (.reg 14),none,(some (8,true))⟩,⟨.field 0 1 false (.reg 15),none,(some (8,true))⟩,⟨.bin .eql (.reg 16) (i_ 0),none,(some (8,true))⟩,s_ 18 (.pick (.reg 8) (.reg 17) (.cst (.bool false)))])
(.cond (.loc 18)
(.seq (.region [s_ 4 (.mov (i_ 6))])
.ret)
.skip))
(.seq (.seq (.region [o_ (.fieldAddr 4 (.loc 3)),s_ 19 (.load1 (.reg 0)),s_ 20 (.len .sl (.reg 1)),s_ 21 (.mov (i_ 0))])
(.block 3
(.loop t44L1)))
(.seq (.seq (.region [o_ (.fieldAddr 2 (.loc 3)),s_ 24 (.load1 (.reg 0)),s_ 25 (.len .sl (.reg 1)),s_ 26 (.mov (i_ 0))])
(.block 5
(.loop t44L0)))
(.seq (.region [s_ 4 (.mov (i_ 0))])
.ret))))))))⟩
theorem c44 : compFunc Tryz.prog opts a44 Tryz.f44 = some t44 := by kernel_rfl
def a45 : Ann := { slots := [0,1,2,5,10,11,12,13],lb := [5,2],mu := [],trunc := [],draws := [] }
def t45L0 : TCode := (.seq (.region [s_ 7 (.bin .lss (.loc 6) (.loc 5))])
(.seq (.cond (.loc 7)
.skip
(.exit 0))
(.seq (.block 1
(.seq (.region [o_ (.indexAddrS 5 (.loc 4) (.loc 6)),o_ (.loadN 5 (.reg 0)),o_ (.allocL 3 [(.int .i64 0),(.int .i64 0),(.sl .nil []),(.bool false),(.sl .nil [])]),o_ (.store 5 (.reg 2) (.reg 1))])
(.region [o_ (.loadN 5 (.loc 3)),o_ (.mov (.loc 1)),o_ (.call false false 45 [(.reg 0),(.reg 1)])])))
(.region [o_ (.bin .add (.loc 6) (i_ 1)),s_ 6 (.mov (.reg 0))]))))
def t45 : TFunc := ⟨2,8,[],
(.seq (.region [o_ (.boxL 2 (.loc 0))])
(.seq (.region [o_ (.mov (.loc 1)),o_ (.loadN 5 (.loc 2)),o_ (.callv (.reg 0) [(.reg 1)])])
(.seq (.region [o_ (.fieldAddr 4 (.loc 2)),s_ 4 (.load1 (.reg 0)),s_ 5 (.len .sl (.reg 1)),s_ 6 (.mov (i_ 0))])
(.block 0
(.loop t45L0)))))⟩
theorem c45 : compFunc Tryz.prog opts a45 Tryz.f45 = some t45 := by kernel_rfl
def a46 : Ann := { slots := [0,1,2,5],lb := [2],mu := [],trunc := [],draws := [] }
def t46 : TFunc := ⟨2,4,[],
(.seq (.region [o_ (.boxL 2 (.loc 0))])
(.seq (.region [o_ (.fieldAddr 0 (.loc 2)),o_ (.load1 (.reg 0)),s_ 3 (.bin .eql (.reg 1) (i_ 4))])
(.cond (.loc 3)
(.region [o_ (.load1 (.loc 1)),o_ (.fieldAddr 1 (.loc 2)),o_ (.load1 (.reg 1)),o_ (.build [(.int .i64 0)] []),o_ (.update (.leaf .int) (.reg 0) (.reg 2) (.reg 3))])
.skip)))⟩
theorem c46 : compFunc Tryz.prog opts a46 Tryz.f46 = some t46 := by kernel_rfl
def a48 : Ann := { slots := [0,1,2,4,6,7,8,9,14],lb := [2],mu := [],trunc := [],draws := [] }
def t48L0 : TCode := (.seq (.region [s_ 7 (.bin .lss (.loc 6) (.loc 5))])
(.seq (.cond (.loc 7)
.skip
(.exit 0))
(.seq (.block 1
(.seq (.region [o_ (.indexAddrS 1 (.loc 4) (.loc 6)),o_ (.load1 (.reg 0)),s_ 3 (.mov (.reg 1))])
(.seq (.region [o_ (.fieldAddr 0 (.loc 2)),o_ (.load1 (.reg 0)),s_ 8 (.bin .eql (.reg 1) (i_ 7))])
(.cond (.loc 8)
(.region [o_ (.load1 (.loc 1)),o_ (.mov (.loc 3)),o_ (.build [(.int .i64 0)] []),o_ (.update (.leaf .int) (.reg 0) (.reg 1) (.reg 2))])
.skip))))
(.region [o_ (.bin .add (.loc 6) (i_ 1)),s_ 6 (.mov (.reg 0))]))))
def t48 : TFunc := ⟨2,9,[],
(.seq (.region [o_ (.boxL 2 (.loc 0))])
(.seq (.region [o_ (.fieldAddr 2 (.loc 2)),s_ 4 (.load1 (.reg 0)),s_ 5 (.len .sl (.reg 1)),s_ 6 (.mov (i_ 0))])
(.block 0
(.loop t48L0))))⟩
theorem c48 : compFunc Tryz.prog opts a48 Tryz.f48 = some t48 := by kernel_rfl
def a49 : Ann := { slots := [0,1,2,3,4,6,8,24,33,34,35,36],lb := [8],mu := [],trunc := [],draws := [] }
def t49L0 : TCode := (.seq (.region [s_ 11 (.bin .lss (.loc 10) (.loc 9))])
(.seq (.cond (.loc 11)
.skip
(.exit 0))
(.seq (.block 1
(.seq (.region [o_ (.indexAddrS 5 (.loc 8) (.loc 10)),o_ (.loadN 5 (.reg 0)),o_ (.allocL 6 [(.int .i64 0),(.int .i64 0),(.sl .nil []),(.bool false),(.sl .nil [])]),o_ (.store 5 (.reg 2) (.reg 1))])
(.region [o_ (.loadN 5 (.loc 6)),o_ (.load1 (.loc 4)),o_ (.mov (.loc 2)),o_ (.call false false 49 [(.reg 0),(.reg 1),(.reg 2)])])))
(.region [o_ (.bin .add (.loc 10) (i_ 1)),s_ 10 (.mov (.reg 0))]))))
def t49 : TFunc := ⟨3,12,[],
(.seq (.region [s_ 3 (.boxH 26 (.loc 0)),s_ 4 (.boxH 56 (.loc 1))])
(.seq (.seq (.region [o_ (.fieldAddr 0 (.loc 3)),o_ (.load1 (.reg 0)),o_ (.bin .eql (.reg 1) (i_ 2)),o_ (.mov (.reg 2)),⟨.fieldAddr 0 (.loc 3),none,(some (3,false))⟩,⟨.load1 (.reg 4),none,(some (3,false))⟩,⟨.bin .eql (.reg 5) (i_ 4),none,(some (3,false))⟩,o_ (.pick (.reg 3) (.cst (.bool true)) (.reg 6)),o_ (.mov (.reg 7)),⟨.load1 (.loc 4),none,(some (8,true))⟩,⟨.fieldAddr 1 (.loc 3),none,(some (8,true))⟩,⟨.load1 (.reg 10),none,(some (8,true))⟩,⟨.lookup (.leaf .int) (.agg [(.int .i64 0)]) false (.reg 9) (.reg 11),none,(some (8,true))⟩,⟨.field 0 1 false (.reg 12),none,(some (8,true))⟩,⟨.bin .eql (.reg 13) (i_ 0),none,(some (8,true))⟩,s_ 7 (.pick (.reg 8) (.reg 14) (.cst (.bool false)))])
(.cond (.loc 7)
(.region [o_ (.mov (.loc 2)),o_ (.fieldAddr 1 (.loc 3)),o_ (.load1 (.reg 1)),o_ (.build [(.int .i64 0)] []),o_ (.update (.leaf .int) (.reg 0) (.reg 2) (.reg 3))])
.skip))
(.seq (.region [o_ (.mkFn 90 [] [(.loc 3),(.loc 4)]),s_ 5 (.mov (.reg 0))])
(.seq (.region [o_ (.mov (.loc 5)),o_ (.callv (.reg 0) [(i_ 1)])])
(.seq (.seq (.region [o_ (.fieldAddr 4 (.loc 3)),s_ 8 (.load1 (.reg 0)),s_ 9 (.len .sl (.reg 1)),s_ 10 (.mov (i_ 0))])
(.block 0
(.loop t49L0)))
(.region [o_ (.mov (.loc 5)),o_ (.callv (.reg 0) [(i_ (-1))])]))))))⟩
theorem c49 : compFunc Tryz.prog opts a49 Tryz.f49 = some t49 := by kernel_rfl
def a51 : Ann := { slots := [0,2,3,4,5,7,8,17,22],lb := [],mu := [],trunc := [],draws := [] }
def t51L0 : TCode := (.seq (.seq (.region [o_ (.mov (.loc 6)),o_ (.mov (.loc 3)),o_ (.len .sl (.reg 1)),s_ 8 (.bin .lss (.reg 0) (.reg 2))])
(.cond (.loc 8)
.skip
(.exit 0)))
(.seq (.block 1
(.region [o_ (.mov (.loc 5)),o_ (.mov (.loc 3)),o_ (.mov (.loc 6)),o_ (.indexAddrS 2 (.reg 1) (.reg 2)),o_ (.fieldAddr 0 (.reg 3)),o_ (.load1 (.reg 4)),o_ (.lit false [(.int .i64 0)] 1 [(0,(.reg 5))]),o_ (.append false 1 8 3 (.reg 0) (.reg 6)),s_ 5 (.mov (.reg 7))]))
(.region [o_ (.mov (.loc 6)),o_ (.bin .add (.reg 0) (i_ 1)),s_ 6 (.mov (.reg 1))])))
def t51 : TFunc := ⟨1,9,[.loc 1,.loc 2],
(.seq (.region [s_ 1 (.mov (.cst (.sl .nil []))),s_ 2 (.mov (i_ 0))])
(.seq (.region [o_ (.mov (.loc 0)),o_ (.conv .strBytes (.reg 0)),o_ (.call true false 91 [(.reg 1)]),o_ (.mov (.reg 2)),o_ (.extract 0 (.reg 3)),o_ (.extract 1 (.reg 3)),o_ (.extract 2 (.reg 3)),s_ 3 (.mov (.reg 4)),s_ 4 (.mov (.reg 5)),o_ (.mov (.reg 6))])
(.seq (.seq (.region [o_ (.mov (.loc 4)),s_ 7 (.bin .neq (.reg 0) (i_ 0))])
(.cond (.loc 7)
(.seq (.region [o_ (.mov (.loc 4)),s_ 1 (.mov (.cst (.sl .nil []))),s_ 2 (.mov (.reg 0))])
.ret)
.skip))
(.seq (.region [s_ 5 (.mov (.cst (.sl .nil [])))])
(.seq (.seq (.region [s_ 6 (.mov (i_ 0))])
(.block 0
(.loop t51L0)))
(.seq (.region [o_ (.mov (.loc 5)),s_ 1 (.mov (.reg 0)),s_ 2 (.mov (i_ 0))])
.ret))))))⟩
theorem c51 : compFunc Tryz.prog opts a51 Tryz.f51 = some t51 := by kernel_rfl
def a53 : Ann := { slots := [0,2],lb := [],mu := [],trunc := [],draws := [] }
def t53 : TFunc := ⟨1,2,[.loc 1],
(.seq (.region [s_ 1 (.mov (.cst (.bool false)))])
(.seq (.region [o_ (.mov (.loc 0)),o_ (.bin .geq (.reg 0) (i_ 0)),o_ (.mov (.reg 1)),⟨.mov (.loc 0),none,(some (2,true))⟩,⟨.bin .leq (.reg 3) (i_ 1114111),none,(some (2,true))⟩,o_ (.pick (.reg 2) (.reg 4) (.cst (.bool false))),o_ (.mov (.reg 5)),⟨.mov (.loc 0),none,(some (6,true))⟩,⟨.bin .lss (.reg 7) (i_ 55296),none,(some (6,true))⟩,⟨.mov (.reg 8),none,(some (6,true))⟩,⟨.mov (.loc 0),none,(some (9,false))⟩,⟨.bin .gtr (.reg 10) (i_ 57343),none,(some (9,false))⟩,⟨.pick (.reg 9) (.cst (.bool true)) (.reg 11),none,(some (6,true))⟩,o_ (.pick (.reg 6) (.reg 12) (.cst (.bool false))),s_ 1 (.mov (.reg 13))])
.ret))⟩
theorem c53 : compFunc Tryz.prog opts a53 Tryz.f53 = some t53 := by kernel_rfl
def a54 : Ann := { slots := [0,1,2,6,7,8,9,14,15,16,17,18,30],lb := [9,8],mu := [],trunc := [],draws := [] }
def t54L0 : TCode := (.seq (.region [s_ 11 (.bin .lss (.loc 10) (.loc 9))])
(.seq (.cond (.loc 11)
.skip
(.exit 0))
(.seq (.block 1
(.seq (.region [o_ (.mov (.loc 10)),o_ (.indexAddrS 5 (.loc 8) (.loc 10)),o_ (.loadN 5 (.reg 1)),o_ (.allocL 5 [(.int .i64 0),(.int .i64 0),(.str []),(.sl .nil []),(.int .i64 0)]),s_ 4 (.mov (.reg 0)),o_ (.store 5 (.reg 3) (.reg 2))])
(.seq (.region [o_ (.mov (.loc 1)),o_ (.mov (.loc 4)),o_ (.indexAddrS 5 (.reg 0) (.reg 1)),o_ (.loadN 5 (.reg 2)),o_ (.allocL 6 [(.int .i64 0),(.int .i64 0),(.str []),(.sl .nil []),(.int .i64 0)]),o_ (.store 5 (.reg 4) (.reg 3))])
(.seq (.region [o_ (.mov (.loc 2)),o_ (.loadN 5 (.loc 5)),o_ (.loadN 5 (.loc 6)),o_ (.callv (.reg 0) [(.reg 1),(.reg 2)]),s_ 12 (.un .not (.reg 3))])
(.cond (.loc 12)
(.seq (.region [s_ 3 (.mov (.cst (.bool false)))])
.ret)
.skip)))))
(.region [o_ (.bin .add (.loc 10) (i_ 1)),s_ 10 (.mov (.reg 0))]))))
def t54 : TFunc := ⟨3,13,[.loc 3],
(.seq (.region [s_ 3 (.mov (.cst (.bool false)))])
(.seq (.seq (.region [o_ (.mov (.loc 0)),o_ (.len .sl (.reg 0)),o_ (.mov (.loc 1)),o_ (.len .sl (.reg 2)),s_ 7 (.bin .neq (.reg 1) (.reg 3))])
(.cond (.loc 7)
(.seq (.region [s_ 3 (.mov (.cst (.bool false)))])
.ret)
.skip))
(.seq (.seq (.region [s_ 8 (.mov (.loc 0)),s_ 9 (.len .sl (.reg 0)),s_ 10 (.mov (i_ 0))])
(.block 0
(.loop t54L0)))
(.seq (.region [s_ 3 (.mov (.cst (.bool true)))])
.ret))))⟩
theorem c54 : compFunc Tryz.prog opts a54 Tryz.f54 = some t54 := by kernel_rfl
def a55 : Ann := { slots := [0,1,2,3,4,10,20],lb := [3,2],mu := [],trunc := [],draws := [(2,⟨[0,1,3,7,0,16,48,112,255,511],[0,1,2,3,4,5,6,7],[(8,[],[9])]⟩),(4,⟨[0,1,3,7,0,16,48,112,15,511],[0,1,2,3,4,5,6,7],[(8,[5,7],[]),(9,[],[])]⟩)] }
def t55L0 : TCode := (.seq (.seq (.region [o_ (.loadN 5 (.loc 2)),o_ (.call false false 82 [(.reg 0)]),o_ (.mov (.reg 1)),⟨.loadN 5 (.loc 3),none,(some (2,true))⟩,⟨.call false false 82 [(.reg 3)],none,(some (2,true))⟩,s_ 5 (.pick (.reg 2) (.reg 4) (.cst (.bool false)))])
(.cond (.loc 5)
.skip
(.exit 0)))
(.block 1
(.seq (.seq (.draw [0,1,2,3,4,5,6,7] [(8,[],[9])] [o_ (.fieldAddr 3 (.loc 2)),o_ (.load1 (.reg 0)),o_ (.indexAddrS 5 (.reg 1) (i_ 0)),o_ (.loadN 5 (.reg 2)),o_ (.fieldAddr 3 (.loc 3)),o_ (.load1 (.reg 4)),o_ (.indexAddrS 5 (.reg 5) (i_ 0)),o_ (.loadN 5 (.reg 6)),o_ (.call false false 55 [(.reg 3),(.reg 7)]),s_ 6 (.un .not (.reg 8))])
(.cond (.loc 6)
(.seq (.region [s_ 4 (.mov (.cst (.bool false)))])
.ret)
.skip))
(.draw [0,1,2,3,4,5,6,7] [(8,[5,7],[]),(9,[],[])] [o_ (.fieldAddr 3 (.loc 2)),o_ (.load1 (.reg 0)),o_ (.indexAddrS 5 (.reg 1) (i_ 1)),o_ (.loadN 5 (.reg 2)),o_ (.fieldAddr 3 (.loc 3)),o_ (.load1 (.reg 4)),o_ (.indexAddrS 5 (.reg 5) (i_ 1)),o_ (.loadN 5 (.reg 6)),o_ (.store 5 (.loc 2) (.reg 3)),o_ (.store 5 (.loc 3) (.reg 7))]))))
def t55 : TFunc := ⟨2,7,[.loc 4],
(.seq (.region [o_ (.boxL 2 (.loc 0)),o_ (.boxL 3 (.loc 1)),s_ 4 (.mov (.cst (.bool false)))])
(.seq (.block 0
(.loop t55L0))
(.seq (.region [o_ (.fieldAddr 0 (.loc 2)),o_ (.load1 (.reg 0)),o_ (.fieldAddr 0 (.loc 3)),o_ (.load1 (.reg 2)),o_ (.bin .eql (.reg 1) (.reg 3)),o_ (.mov (.reg 4)),⟨.fieldAddr 1 (.loc 2),none,(some (5,true))⟩,⟨.load1 (.reg 6),none,(some (5,true))⟩,⟨.fieldAddr 1 (.loc 3),none,(some (5,true))⟩,⟨.load1 (.reg 8),none,(some (5,true))⟩,⟨.bin .eql (.reg 7) (.reg 9),none,(some (5,true))⟩,o_ (.pick (.reg 5) (.reg 10) (.cst (.bool false))),o_ (.mov (.reg 11)),⟨.fieldAddr 2 (.loc 2),none,(some (12,true))⟩,⟨.load1 (.reg 13),none,(some (12,true))⟩,⟨.fieldAddr 2 (.loc 3),none,(some (12,true))⟩,⟨.load1 (.reg 15),none,(some (12,true))⟩,⟨.bin .eql (.reg 14) (.reg 16),none,(some (12,true))⟩,o_ (.pick (.reg 12) (.reg 17) (.cst (.bool false))),o_ (.mov (.reg 18)),⟨.fieldAddr 3 (.loc 2),none,(some (19,true))⟩,⟨.load1 (.reg 20),none,(some (19,true))⟩,⟨.fieldAddr 3 (.loc 3),none,(some (19,true))⟩,⟨.load1 (.reg 22),none,(some (19,true))⟩,⟨.call false false 54 [(.reg 21),(.reg 23),(.fn 55)],none,(some (19,true))⟩,o_ (.pick (.reg 19) (.reg 24) (.cst (.bool false))),s_ 4 (.mov (.reg 25))])
.ret)))⟩
theorem c55 : compFunc Tryz.prog opts a55 Tryz.f55 = some t55 := by kernel_rfl
def a56 : Ann := { slots := [0,1,2,3,4],lb := [3,2],mu := [],trunc := [],draws := [] }
def t56 : TFunc := ⟨2,5,[.loc 4],
(.seq (.region [o_ (.boxL 2 (.loc 0)),o_ (.boxL 3 (.loc 1)),s_ 4 (.mov (.cst (.bool false)))])
(.seq (.region [o_ (.fieldAddr 0 (.loc 2)),o_ (.load1 (.reg 0)),o_ (.fieldAddr 0 (.loc 3)),o_ (.load1 (.reg 2)),o_ (.bin .eql (.reg 1) (.reg 3)),o_ (.mov (.reg 4)),⟨.fieldAddr 1 (.loc 2),none,(some (5,true))⟩,⟨.load1 (.reg 6),none,(some (5,true))⟩,⟨.fieldAddr 1 (.loc 3),none,(some (5,true))⟩,⟨.load1 (.reg 8),none,(some (5,true))⟩,⟨.bin .eql (.reg 7) (.reg 9),none,(some (5,true))⟩,o_ (.pick (.reg 5) (.reg 10) (.cst (.bool false))),o_ (.mov (.reg 11)),⟨.fieldAddr 3 (.loc 2),none,(some (12,true))⟩,⟨.load1 (.reg 13),none,(some (12,true))⟩,⟨.fieldAddr 3 (.loc 3),none,(some (12,true))⟩,⟨.load1 (.reg 15),none,(some (12,true))⟩,⟨.eqB false .bool (.reg 14) (.reg 16),none,(some (12,true))⟩,o_ (.pick (.reg 12) (.reg 17) (.cst (.bool false))),o_ (.mov (.reg 18)),⟨.fieldAddr 2 (.loc 2),none,(some (19,true))⟩,⟨.load1 (.reg 20),none,(some (19,true))⟩,⟨.fieldAddr 2 (.loc 3),none,(some (19,true))⟩,⟨.load1 (.reg 22),none,(some (19,true))⟩,⟨.call true false 92 [(.reg 21),(.reg 23)],none,(some (19,true))⟩,o_ (.pick (.reg 19) (.reg 24) (.cst (.bool false))),o_ (.mov (.reg 25)),⟨.fieldAddr 4 (.loc 2),none,(some (26,true))⟩,⟨.load1 (.reg 27),none,(some (26,true))⟩,⟨.fieldAddr 4 (.loc 3),none,(some (26,true))⟩,⟨.load1 (.reg 29),none,(some (26,true))⟩,⟨.call false false 93 [(.reg 28),(.reg 30),(.fn 56)],none,(some (26,true))⟩,o_ (.pick (.reg 26) (.reg 31) (.cst (.bool false))),s_ 4 (.mov (.reg 32))])
.ret))⟩
theorem c56 : compFunc Tryz.prog opts a56 Tryz.f56 = some t56 := by kernel_rfl
def a58 : Ann := { slots := [0,1,2,3,4,5,6,43,48,61,66,80],lb := [3,2],mu := [],trunc := [],draws := [(6,⟨[0,1,0,7,15,0,32,0,224,480,1023],[0,1,2,3,4,5,6,7,8,9,10],[]⟩),(11,⟨[0,1,0,7,15,0,32,0,224,480,1023,2047],[0,1,2,3,4,5,6,7,8,9],[(10,[],[11])]⟩)] }
def t58L0 : TCode := (.seq (.seq (.region [o_ (.mov (.loc 6)),o_ (.fieldAddr 4 (.loc 2)),o_ (.load1 (.reg 1)),o_ (.len .sl (.reg 2)),s_ 10 (.bin .lss (.reg 0) (.reg 3))])
(.cond (.loc 10)
.skip
(.exit 2)))
(.seq (.block 3
(.seq (.draw [0,1,2,3,4,5,6,7,8,9] [(10,[],[11])] [o_ (.fieldAddr 4 (.loc 2)),o_ (.load1 (.reg 0)),o_ (.mov (.loc 6)),o_ (.indexAddrS 5 (.reg 1) (.reg 2)),o_ (.loadN 5 (.reg 3)),o_ (.fieldAddr 4 (.loc 3)),o_ (.load1 (.reg 5)),o_ (.mov (.loc 6)),o_ (.indexAddrS 5 (.reg 6) (.reg 7)),o_ (.loadN 5 (.reg 8)),o_ (.call false false 58 [(.reg 4),(.reg 9)]),s_ 11 (.un .not (.reg 10))])
(.cond (.loc 11)
(.seq (.region [s_ 4 (.mov (.cst (.bool false)))])
.ret)
.skip)))
(.region [o_ (.mov (.loc 6)),o_ (.bin .add (.reg 0) (i_ 1)),s_ 6 (.mov (.reg 1))])))
def t58L1 : TCode := (.seq (.seq (.region [o_ (.mov (.loc 5)),o_ (.fieldAddr 2 (.loc 2)),o_ (.load1 (.reg 1)),o_ (.len .sl (.reg 2)),s_ 8 (.bin .lss (.reg 0) (.reg 3))])
(.cond (.loc 8)
.skip
(.exit 0)))
(.seq (.block 1
(.seq (.draw [0,1,2,3,4,5,6,7,8,9,10] [] [o_ (.fieldAddr 2 (.loc 2)),o_ (.load1 (.reg 0)),o_ (.mov (.loc 5)),o_ (.indexAddrS 1 (.reg 1) (.reg 2)),o_ (.load1 (.reg 3)),o_ (.fieldAddr 2 (.loc 3)),o_ (.load1 (.reg 5)),o_ (.mov (.loc 5)),o_ (.indexAddrS 1 (.reg 6) (.reg 7)),o_ (.load1 (.reg 8)),s_ 9 (.bin .neq (.reg 4) (.reg 9))])
(.cond (.loc 9)
(.seq (.region [s_ 4 (.mov (.cst (.bool false)))])
.ret)
.skip)))
(.region [o_ (.mov (.loc 5)),o_ (.bin .add (.reg 0) (i_ 1)),s_ 5 (.mov (.reg 1))])))
def t58 : TFunc := ⟨2,12,[.loc 4],
(.seq (.region [o_ (.boxL 2 (.loc 0)),o_ (.boxL 3 (.loc 1)),s_ 4 (.mov (.cst (.bool false)))])
(.seq (.seq (.region [o_ (.fieldAddr 0 (.loc 2)),o_ (.load1 (.reg 0)),o_ (.fieldAddr 0 (.loc 3)),o_ (.load1 (.reg 2)),o_ (.bin .neq (.reg 1) (.reg 3)),o_ (.mov (.reg 4)),⟨.fieldAddr 1 (.loc 2),none,(some (5,false))⟩,⟨.load1 (.reg 6),none,(some (5,false))⟩,⟨.fieldAddr 1 (.loc 3),none,(some (5,false))⟩,⟨.load1 (.reg 8),none,(some (5,false))⟩,⟨.bin .neq (.reg 7) (.reg 9),none,(some (5,false))⟩,o_ (.pick (.reg 5) (.cst (.bool true)) (.reg 10)),o_ (.mov (.reg 11)),⟨.fieldAddr 3 (.loc 2),none,(some (12,false))⟩,⟨.load1 (.reg 13),none,(some (12,false))⟩,⟨.fieldAddr 3 (.loc 3),none,(some (12,false))⟩,⟨.load1 (.reg 15),none,(some (12,false))⟩,⟨.eqB true .bool (.reg 14) (.reg 16),none,(some (12,false))⟩,o_ (.pick (.reg 12) (.cst (.bool true)) (.reg 17)),o_ (.mov (.reg 18)),⟨.fieldAddr 2 (.loc 2),none,(some (19,false))⟩,⟨.load1 (.reg 20),none,(some (19,false))⟩,⟨.len .sl (.reg 21),none,(some (19,false))⟩,⟨.fieldAddr 2 (.loc 3),none,(some (19,false))⟩,⟨.load1 (.reg 23),none,(some (19,false))⟩,⟨.len .sl (.reg 24),none,(some (19,false))⟩,⟨.bin .neq (.reg 22) (.reg 25),none,(some (19,false))⟩,o_ (.pick (.reg 19) (.cst (.bool true)) (.reg 26)),o_ (.mov (.reg 27)),⟨.fieldAddr 4 (.loc 2),none,(some (28,false))⟩,⟨.load1 (.reg 29),none,(some (28,false))⟩,⟨.len .sl (.reg 30),none,(some (28,false))⟩,⟨.fieldAddr 4 (.loc 3),none,(some (28,false))⟩,⟨.load1 (.reg 32),none,(some (28,false))⟩,⟨.len .sl (.reg 33),none,(some (28,false))⟩,⟨.bin .neq (.reg 31) (.reg 34),none,(some (28,false))⟩,s_ 7 (.pick (.reg 28) (.cst (.bool true)) (.reg 35))])
(.cond (.loc 7)
(.seq (.region [s_ 4 (.mov (.cst (.bool false)))])
.ret)
.skip))
(.seq (.seq (.region [s_ 5 (.mov (i_ 0))])
(.block 0
(.loop t58L1)))
(.seq (.seq (.region [s_ 6 (.mov (i_ 0))])
(.block 2
(.loop t58L0)))
(.seq (.region [s_ 4 (.mov (.cst (.bool true)))])
.ret)))))⟩
theorem c58 : compFunc Tryz.prog opts a58 Tryz.f58 = some t58 := by kernel_rfl
def a59 : Ann := { slots := [0,1,2,4,5,6,8,17],lb := [2],mu := [],trunc := [],draws := [] }
def t59L0 : TCode := (.seq (.seq (.region [o_ (.mov (.loc 5)),o_ (.fieldAddr 3 (.loc 2)),o_ (.load1 (.reg 1)),o_ (.len .sl (.reg 2)),o_ (.bin .lss (.reg 0) (.reg 3)),o_ (.mov (.reg 4)),⟨.mov (.loc 4),none,(some (5,true))⟩,⟨.bin .lss (.reg 6) (i_ 5000),none,(some (5,true))⟩,s_ 7 (.pick (.reg 5) (.reg 7) (.cst (.bool false)))])
(.cond (.loc 7)
.skip
(.exit 0)))
(.seq (.block 1
(.region [o_ (.mov (.loc 4)),o_ (.fieldAddr 3 (.loc 2)),o_ (.load1 (.reg 1)),o_ (.mov (.loc 5)),o_ (.indexAddrS 5 (.reg 2) (.reg 3)),o_ (.loadN 5 (.reg 4)),o_ (.mov (.loc 1)),o_ (.bin .sub (.reg 6) (i_ 1)),o_ (.call true false 59 [(.reg 5),(.reg 7)]),o_ (.bin .add (.reg 0) (.reg 8)),s_ 4 (.mov (.reg 9))]))
(.region [o_ (.mov (.loc 5)),o_ (.bin .add (.reg 0) (i_ 1)),s_ 5 (.mov (.reg 1))])))
def t59 : TFunc := ⟨2,8,[.loc 3],
(.seq (.region [o_ (.boxL 2 (.loc 0)),s_ 3 (.mov (i_ 0))])
(.seq (.seq (.region [o_ (.mov (.loc 1)),s_ 6 (.bin .eql (.reg 0) (i_ 0))])
(.cond (.loc 6)
(.seq (.region [s_ 3 (.mov (i_ 5000))])
.ret)
.skip))
(.seq (.region [s_ 4 (.mov (i_ 1))])
(.seq (.seq (.region [s_ 5 (.mov (i_ 0))])
(.block 0
(.loop t59L0)))
(.seq (.region [o_ (.mov (.loc 4)),s_ 3 (.mov (.reg 0))])
.ret)))))⟩
theorem c59 : compFunc Tryz.prog opts a59 Tryz.f59 = some t59 := by kernel_rfl
def a60 : Ann := { slots := [0,1,2,4,5,6,8,21],lb := [2],mu := [],trunc := [],draws := [] }
def t60L0 : TCode := (.seq (.seq (.region [o_ (.mov (.loc 5)),o_ (.fieldAddr 4 (.loc 2)),o_ (.load1 (.reg 1)),o_ (.len .sl (.reg 2)),o_ (.bin .lss (.reg 0) (.reg 3)),o_ (.mov (.reg 4)),⟨.mov (.loc 4),none,(some (5,true))⟩,⟨.bin .lss (.reg 6) (i_ 5000),none,(some (5,true))⟩,s_ 7 (.pick (.reg 5) (.reg 7) (.cst (.bool false)))])
(.cond (.loc 7)
.skip
(.exit 0)))
(.seq (.block 1
(.region [o_ (.mov (.loc 4)),o_ (.fieldAddr 4 (.loc 2)),o_ (.load1 (.reg 1)),o_ (.mov (.loc 5)),o_ (.indexAddrS 5 (.reg 2) (.reg 3)),o_ (.loadN 5 (.reg 4)),o_ (.mov (.loc 1)),o_ (.bin .sub (.reg 6) (i_ 1)),o_ (.call true false 60 [(.reg 5),(.reg 7)]),o_ (.bin .add (.reg 0) (.reg 8)),s_ 4 (.mov (.reg 9))]))
(.region [o_ (.mov (.loc 5)),o_ (.bin .add (.reg 0) (i_ 1)),s_ 5 (.mov (.reg 1))])))
def t60 : TFunc := ⟨2,8,[.loc 3],
(.seq (.region [o_ (.boxL 2 (.loc 0)),s_ 3 (.mov (i_ 0))])
(.seq (.seq (.region [o_ (.mov (.loc 1)),s_ 6 (.bin .eql (.reg 0) (i_ 0))])
(.cond (.loc 6)
(.seq (.region [s_ 3 (.mov (i_ 5000))])
.ret)
.skip))
(.seq (.region [o_ (.fieldAddr 2 (.loc 2)),o_ (.load1 (.reg 0)),o_ (.len .sl (.reg 1)),o_ (.bin .add (i_ 1) (.reg 2)),s_ 4 (.mov (.reg 3))])
(.seq (.seq (.region [s_ 5 (.mov (i_ 0))])
(.block 0
(.loop t60L0)))
(.seq (.region [o_ (.mov (.loc 4)),s_ 3 (.mov (.reg 0))])
.ret)))))⟩
theorem c60 : compFunc Tryz.prog opts a60 Tryz.f60 = some t60 := by kernel_rfl
def a61 : Ann := { slots := [0,1],lb := [1,0],mu := [],trunc := [],draws := [(2,⟨[0,0,0,6,14,30,63,127],[0,1],[(2,[1],[3,4,5,6]),(7,[],[])]⟩)] }
def t61 : TFunc := ⟨0,2,[.cell 0 5 true],
(.seq (.region [o_ (.allocL 0 [(.int .i64 0),(.int .i64 0),(.sl .nil []),(.bool false),(.sl .nil [])])])
(.seq (.region [o_ (.call true false 28 [(i_ 0)]),o_ (.lit false [(.int .i64 0),(.int .i64 0),(.sl .nil []),(.bool false),(.sl .nil [])] 1 [(0,(.reg 0))]),o_ (.build [(.int .i64 0),(.int .i64 0),(.sl .nil []),(.bool false),(.sl .nil [])] [(0,1,(i_ 4)),(4,1,(.reg 1))]),o_ (.allocL 1 [(.int .i64 0),(.int .i64 0),(.sl .nil []),(.bool false),(.sl .nil [])]),o_ (.store 5 (.reg 3) (.reg 2))])
(.seq (.draw [0,1] [(2,[1],[3,4,5,6]),(7,[],[])] [o_ (.lit false [(.int .i64 0)] 1 [(0,(i_ 0))]),o_ (.loadN 5 (.loc 1)),o_ (.call true false 26 [(i_ 0)]),o_ (.lit false [(.int .i64 0),(.int .i64 0),(.sl .nil []),(.bool false),(.sl .nil [])] 2 [(0,(.reg 1)),(1,(.reg 2))]),o_ (.build [(.int .i64 0),(.int .i64 0),(.sl .nil []),(.bool false),(.sl .nil [])] [(0,1,(i_ 10)),(4,1,(.reg 3))]),o_ (.lit false [(.int .i64 0),(.int .i64 0),(.sl .nil []),(.bool false),(.sl .nil [])] 1 [(0,(.reg 4))]),o_ (.build [(.int .i64 0),(.int .i64 0),(.sl .nil []),(.bool false),(.sl .nil [])] [(0,1,(i_ 7)),(2,1,(.reg 0)),(4,1,(.reg 5))]),o_ (.store 5 (.loc 0) (.reg 6))])
.ret)))⟩
theorem c61 : compFunc Tryz.prog opts a61 Tryz.f61 = some t61 := by kernel_rfl
def a65 : Ann := { slots := [0,1,2],lb := [1],mu := [],trunc := [],draws := [] }
def t65 : TFunc := ⟨1,3,[.loc 2],
(.seq (.region [o_ (.boxL 1 (.loc 0)),s_ 2 (.mov (.cst (.bool false)))])
(.seq (.region [o_ (.fieldAddr 0 (.loc 1)),o_ (.load1 (.reg 0)),o_ (.bin .geq (.reg 1) (i_ 12)),o_ (.mov (.reg 2)),⟨.fieldAddr 0 (.loc 1),none,(some (3,true))⟩,⟨.load1 (.reg 4),none,(some (3,true))⟩,⟨.bin .leq (.reg 5) (i_ 14),none,(some (3,true))⟩,o_ (.pick (.reg 3) (.reg 6) (.cst (.bool false))),o_ (.mov (.reg 7)),⟨.fieldAddr 4 (.loc 1),none,(some (8,false))⟩,⟨.load1 (.reg 9),none,(some (8,false))⟩,⟨.call false false 97 [(.reg 10),(.fn 65)],none,(some (8,false))⟩,o_ (.pick (.reg 8) (.cst (.bool true)) (.reg 11)),s_ 2 (.mov (.reg 12))])
.ret))⟩
theorem c65 : compFunc Tryz.prog opts a65 Tryz.f65 = some t65 := by kernel_rfl
def a66 : Ann := { slots := [0,1,3,4,5,12,25],lb := [4,3],mu := [],trunc := [],draws := [(6,⟨[0,1,3,0,0,16,48,112,255,511,1023,2047],[0,1,3,4,5,6,7],[(2,[5,7],[]),(8,[],[9,10]),(11,[],[])]⟩)] }
def t66 : TFunc := ⟨2,7,[.cell 3 5 true],
(.seq (.region [o_ (.boxL 2 (.loc 1)),o_ (.allocL 3 [(.int .i64 0),(.int .i64 0),(.sl .nil []),(.bool false),(.sl .nil [])])])
(.seq (.block 0
(.seq (.region [o_ (.fieldAddr 0 (.loc 2)),o_ (.load1 (.reg 0)),o_ (.bin .eql (.reg 1) (i_ 7)),s_ 4 (.mov (.reg 2))])
(.cond (.loc 4)
(.seq (.region [o_ (.mov (.loc 0)),o_ (.loadN 5 (.loc 2)),o_ (.call false false 98 [(.reg 0),(.reg 1)]),o_ (.store 5 (.loc 3) (.reg 2))])
.ret)
(.seq (.region [o_ (.fieldAddr 0 (.loc 2)),o_ (.load1 (.reg 0)),o_ (.bin .eql (.reg 1) (i_ 2)),o_ (.mov (.reg 2)),⟨.mov (.loc 0),none,(some (3,true))⟩,⟨.fieldAddr 1 (.loc 2),none,(some (3,true))⟩,⟨.load1 (.reg 5),none,(some (3,true))⟩,⟨.call false false 99 [(.reg 4),(.reg 6)],none,(some (3,true))⟩,o_ (.pick (.reg 3) (.reg 7) (.cst (.bool false))),s_ 5 (.mov (.reg 8))])
(.cond (.loc 5)
(.seq (.region [o_ (.loadN 5 (.loc 2)),o_ (.lit false [(.int .i64 0),(.int .i64 0),(.sl .nil []),(.bool false),(.sl .nil [])] 1 [(0,(.reg 0))]),o_ (.build [(.int .i64 0),(.int .i64 0),(.sl .nil []),(.bool false),(.sl .nil [])] [(0,1,(i_ 13)),(4,1,(.reg 1))]),o_ (.store 5 (.loc 3) (.reg 2))])
.ret)
(.seq (.region [o_ (.fieldAddr 0 (.loc 2)),o_ (.load1 (.reg 0)),o_ (.bin .eql (.reg 1) (i_ 4)),s_ 6 (.mov (.reg 2))])
(.cond (.loc 6)
(.seq (.draw [0,1,3,4,5,6,7] [(2,[5,7],[]),(8,[],[9,10]),(11,[],[])] [o_ (.fieldAddr 1 (.loc 2)),o_ (.load1 (.reg 0)),o_ (.call true false 100 [(.reg 1)]),o_ (.mov (.loc 0)),o_ (.fieldAddr 4 (.loc 2)),o_ (.load1 (.reg 4)),o_ (.indexAddrS 5 (.reg 5) (i_ 0)),o_ (.loadN 5 (.reg 6)),o_ (.call false false 66 [(.reg 3),(.reg 7)]),o_ (.lit false [(.int .i64 0),(.int .i64 0),(.sl .nil []),(.bool false),(.sl .nil [])] 2 [(0,(.reg 2)),(1,(.reg 8))]),o_ (.build [(.int .i64 0),(.int .i64 0),(.sl .nil []),(.bool false),(.sl .nil [])] [(0,1,(i_ 14)),(4,1,(.reg 9))]),o_ (.store 5 (.loc 3) (.reg 10))])
.ret)
.skip)))))))
(.seq (.region [o_ (.fieldAddr 4 (.loc 2)),o_ (.load1 (.reg 0)),o_ (.mov (.loc 0)),o_ (.mkFn 66 [(.reg 2)] []),o_ (.call false false 101 [(.reg 1),(.reg 3)]),o_ (.fieldAddr 4 (.loc 2)),o_ (.store 1 (.reg 5) (.reg 4))])
(.seq (.region [o_ (.loadN 5 (.loc 2)),o_ (.store 5 (.loc 3) (.reg 0))])
.ret))))⟩
theorem c66 : compFunc Tryz.prog opts a66 Tryz.f66 = some t66 := by kernel_rfl
def a67 : Ann := { slots := [0,2,4],lb := [],mu := [(3,2)],trunc := [],draws := [] }
def t67 : TFunc := ⟨1,3,[.loc 1],
(.seq (.region [s_ 1 (.mov (.cst (.sl .nil [])))])
(.seq (.seq (.region [o_ (.mov (.loc 0)),s_ 2 (.eqB false .sl (.reg 0) (.cst (.sl .nil [])))])
(.cond (.loc 2)
(.seq (.region [s_ 1 (.mov (.cst (.sl .nil [])))])
.ret)
.skip))
(.seq (.region [o_ (.lit false [(.int .i64 0),(.int .i64 0),(.str []),(.sl .nil []),(.int .i64 0)] 0 []),o_ (.mov (.loc 0)),o_ (.append true 5 64 39 (.reg 0) (.reg 1)),s_ 1 (.mov (.reg 2))])
.ret)))⟩
theorem c67 : compFunc Tryz.prog opts a67 Tryz.f67 = some t67 := by kernel_rfl
def a74 : Ann := { slots := [0,1,2,3,5,6,9,12,15,18,21,24,27,30,44,47,56,67,70,73],lb := [2,1],mu := [],trunc := [],draws := [(19,⟨[0,1,3,7,0,16,55,127,0,256,887,1911,2047,8191],[0,1,4,5,8,9],[(2,[5,9],[3]),(6,[9],[7]),(10,[],[11]),(12,[],[13])]⟩),(25,⟨[0,1,3,7,0,0,32,112,255,511,1023],[0,1,2,3,4,5,6,7,8],[(9,[],[10])]⟩)] }
def t74 : TFunc := ⟨1,20,[.cell 2 4 true,.loc 3],
(.seq (.region [o_ (.boxL 1 (.loc 0)),o_ (.allocL 2 [(.bool false),(.int .i64 0),(.bool false),(.str [])]),s_ 3 (.mov (.cst (.bool false)))])
(.seq (.seq (.region [o_ (.fieldAddr 0 (.loc 1)),s_ 4 (.load1 (.reg 0))])
(.block 0
(.seq (.region [o_ (.bin .eql (.loc 4) (i_ 1)),s_ 5 (.mov (.reg 0))])
(.cond (.loc 5)
(.seq (.region [o_ (.build [(.bool false),(.int .i64 0),(.bool false),(.str [])] [(0,1,(.cst (.bool true))),(1,1,(i_ 0)),(2,1,(.cst (.bool false))),(3,1,(.cst (.str [99])))]),o_ (.store 4 (.loc 2) (.reg 0)),s_ 3 (.mov (.cst (.bool true)))])
.ret)
(.seq (.region [o_ (.bin .eql (.loc 4) (i_ 2)),s_ 6 (.mov (.reg 0))])
(.cond (.loc 6)
(.seq (.region [o_ (.build [(.bool false),(.int .i64 0),(.bool false),(.str [])] [(0,1,(.cst (.bool true))),(1,1,(i_ 0)),(2,1,(.cst (.bool false))),(3,1,(.cst (.str [118])))]),o_ (.store 4 (.loc 2) (.reg 0)),s_ 3 (.mov (.cst (.bool true)))])
.ret)
(.seq (.region [o_ (.bin .eql (.loc 4) (i_ 3)),s_ 7 (.mov (.reg 0))])
(.cond (.loc 7)
(.seq (.region [o_ (.build [(.bool false),(.int .i64 0),(.bool false),(.str [])] [(0,1,(.cst (.bool true))),(1,1,(i_ 0)),(2,1,(.cst (.bool false))),(3,1,(.cst (.str [103])))]),o_ (.store 4 (.loc 2) (.reg 0)),s_ 3 (.mov (.cst (.bool true)))])
.ret)
(.seq (.region [o_ (.bin .eql (.loc 4) (i_ 4)),s_ 8 (.mov (.reg 0))])
(.cond (.loc 8)
(.seq (.region [o_ (.build [(.bool false),(.int .i64 0),(.bool false),(.str [])] [(0,1,(.cst (.bool true))),(1,1,(i_ 1)),(2,1,(.cst (.bool false))),(3,1,(.cst (.str [115,101,116,33,32,118])))]),o_ (.store 4 (.loc 2) (.reg 0)),s_ 3 (.mov (.cst (.bool true)))])
.ret)
(.seq (.region [o_ (.bin .eql (.loc 4) (i_ 5)),s_ 9 (.mov (.reg 0))])
(.cond (.loc 9)
(.seq (.region [o_ (.build [(.bool false),(.int .i64 0),(.bool false),(.str [])] [(0,1,(.cst (.bool true))),(1,1,(i_ 1)),(2,1,(.cst (.bool false))),(3,1,(.cst (.str [115,101,116,33,32,103])))]),o_ (.store 4 (.loc 2) (.reg 0)),s_ 3 (.mov (.cst (.bool true)))])
.ret)
(.seq (.region [o_ (.bin .eql (.loc 4) (i_ 6)),s_ 10 (.mov (.reg 0))])
(.cond (.loc 10)
(.seq (.region [o_ (.build [(.bool false),(.int .i64 0),(.bool false),(.str [])] [(0,1,(.cst (.bool false))),(1,1,(i_ 3)),(2,1,(.cst (.bool false))),(3,1,(.cst (.str [105,102])))]),o_ (.store 4 (.loc 2) (.reg 0)),s_ 3 (.mov (.cst (.bool true)))])
.ret)
(.seq (.region [o_ (.bin .eql (.loc 4) (i_ 7)),s_ 11 (.mov (.reg 0))])
(.cond (.loc 11)
(.seq (.region [o_ (.build [(.bool false),(.int .i64 0),(.bool false),(.str [])] [(0,1,(.cst (.bool false))),(1,1,(i_ 1)),(2,1,(.cst (.bool false))),(3,1,(.cst (.str [108,97,109,98,100,97])))]),o_ (.store 4 (.loc 2) (.reg 0)),s_ 3 (.mov (.cst (.bool true)))])
.ret)
(.seq (.region [o_ (.bin .eql (.loc 4) (i_ 8)),s_ 12 (.mov (.reg 0))])
(.cond (.loc 12)
(.seq (.region [o_ (.build [(.bool false),(.int .i64 0),(.bool false),(.str [])] [(0,1,(.cst (.bool false))),(1,1,(i_ 1)),(2,1,(.cst (.bool true))),(3,1,(.cst (.str [99,97,108,108])))]),o_ (.store 4 (.loc 2) (.reg 0)),s_ 3 (.mov (.cst (.bool true)))])
.ret)
(.seq (.region [o_ (.bin .eql (.loc 4) (i_ 9)),s_ 13 (.mov (.reg 0))])
(.cond (.loc 13)
(.seq (.draw [0,1,4,5,8,9] [(2,[5,9],[3]),(6,[9],[7]),(10,[],[11]),(12,[],[13])] [o_ (.fieldAddr 1 (.loc 1)),o_ (.load1 (.reg 0)),o_ (.call true false 108 [(.reg 1)]),o_ (.minmax true [(i_ 0),(.reg 2)]),o_ (.fieldAddr 1 (.loc 1)),o_ (.load1 (.reg 4)),o_ (.call true false 109 [(.reg 5)]),o_ (.build [(.bool false),(.int .i64 0),(.bool false),(.str [])] [(0,1,(.cst (.bool true))),(1,1,(.reg 3)),(2,1,(.cst (.bool false))),(3,1,(.reg 6))]),o_ (.fieldAddr 1 (.loc 1)),o_ (.load1 (.reg 8)),o_ (.call true false 108 [(.reg 9)]),o_ (.bin .geq (.reg 10) (i_ 0)),o_ (.store 4 (.loc 2) (.reg 7)),s_ 3 (.mov (.reg 11))])
.ret)
(.seq (.region [o_ (.bin .eql (.loc 4) (i_ 10)),s_ 14 (.mov (.reg 0))])
(.cond (.loc 14)
(.seq (.region [o_ (.build [(.bool false),(.int .i64 0),(.bool false),(.str [])] [(0,1,(.cst (.bool false))),(1,1,(i_ 1)),(2,1,(.cst (.bool true))),(3,1,(.cst (.str [98,101,103,105,110])))]),o_ (.store 4 (.loc 2) (.reg 0)),s_ 3 (.mov (.cst (.bool true)))])
.ret)
(.seq (.region [o_ (.bin .eql (.loc 4) (i_ 11)),s_ 15 (.mov (.reg 0))])
(.cond (.loc 15)
(.seq (.seq (.region [o_ (.fieldAddr 1 (.loc 1)),o_ (.load1 (.reg 0)),o_ (.bin .lss (.reg 1) (i_ 0)),o_ (.mov (.reg 2)),⟨.fieldAddr 1 (.loc 1),none,(some (3,false))⟩,⟨.load1 (.reg 4),none,(some (3,false))⟩,⟨.bin .gtr (.reg 5) (i_ 2),none,(some (3,false))⟩,s_ 16 (.pick (.reg 3) (.cst (.bool true)) (.reg 6))])
(.cond (.loc 16)
(.seq (.region [o_ (.build [(.bool false),(.int .i64 0),(.bool false),(.str [])] []),o_ (.store 4 (.loc 2) (.reg 0)),s_ 3 (.mov (.cst (.bool false)))])
.ret)
.skip))
(.seq (.draw [0,1,2,3,4,5,6,7,8] [(9,[],[10])] [o_ (.fieldAddr 1 (.loc 1)),o_ (.load1 (.reg 0)),o_ (.bin .add (.reg 1) (i_ 1)),o_ (.minmax false [(.reg 2),(i_ 2)]),o_ (.build [(.str []),(.str []),(.str [])] [(0,1,(.cst (.str [99,97,108,108,47,99,99]))),(1,1,(.cst (.str [97,112,112,108,121]))),(2,1,(.cst (.str [99,97,108,108,45,119,105,116,104,45,118,97,108,117,101,115])))]),o_ (.fieldAddr 1 (.loc 1)),o_ (.load1 (.reg 5)),o_ (.indexA 3 1 false (.reg 4) (.reg 6)),o_ (.build [(.bool false),(.int .i64 0),(.bool false),(.str [])] [(0,1,(.cst (.bool true))),(1,1,(.reg 3)),(2,1,(.cst (.bool false))),(3,1,(.reg 7))]),o_ (.store 4 (.loc 2) (.reg 8)),s_ 3 (.mov (.cst (.bool true)))])
.ret))
(.seq (.region [o_ (.bin .eql (.loc 4) (i_ 12)),s_ 17 (.mov (.reg 0))])
(.cond (.loc 17)
(.seq (.region [o_ (.build [(.bool false),(.int .i64 0),(.bool false),(.str [])] [(0,1,(.cst (.bool false))),(1,1,(i_ 1)),(2,1,(.cst (.bool false))),(3,1,(.cst (.str [98,111,120])))]),o_ (.store 4 (.loc 2) (.reg 0)),s_ 3 (.mov (.cst (.bool true)))])
.ret)
(.seq (.region [o_ (.bin .eql (.loc 4) (i_ 13)),s_ 18 (.mov (.reg 0))])
(.cond (.loc 18)
(.seq (.region [o_ (.build [(.bool false),(.int .i64 0),(.bool false),(.str [])] [(0,1,(.cst (.bool false))),(1,1,(i_ 1)),(2,1,(.cst (.bool false))),(3,1,(.cst (.str [117,110,98,111,120])))]),o_ (.store 4 (.loc 2) (.reg 0)),s_ 3 (.mov (.cst (.bool true)))])
.ret)
(.seq (.region [o_ (.bin .eql (.loc 4) (i_ 14)),s_ 19 (.mov (.reg 0))])
(.cond (.loc 19)
(.seq (.region [o_ (.build [(.bool false),(.int .i64 0),(.bool false),(.str [])] [(0,1,(.cst (.bool false))),(1,1,(i_ 2)),(2,1,(.cst (.bool false))),(3,1,(.cst (.str [115,101,116,45,98,111,120,33])))]),o_ (.store 4 (.loc 2) (.reg 0)),s_ 3 (.mov (.cst (.bool true)))])
.ret)
.skip))))))))))))))))))))))))))))))
(.seq (.region [o_ (.build [(.bool false),(.int .i64 0),(.bool false),(.str [])] []),o_ (.store 4 (.loc 2) (.reg 0)),s_ 3 (.mov (.cst (.bool false)))])
.ret)))⟩
theorem c74 : compFunc Tryz.prog opts a74 Tryz.f74 = some t74 := by kernel_rfl
def a75 : Ann := { slots := [0,2],lb := [],mu := [],trunc := [],draws := [] }
def t75 : TFunc := ⟨1,2,[.loc 1],
(.seq (.region [s_ 1 (.mov (.cst (.str [])))])
(.seq (.region [o_ (.mov (.loc 0)),o_ (.call true false 110 [(.reg 0)]),s_ 1 (.mov (.reg 1))])
.ret))⟩
theorem c75 : compFunc Tryz.prog opts a75 Tryz.f75 = some t75 := by kernel_rfl
def a76 : Ann := { slots := [0,1,2,3,5,6,8,9,10,11,22,32],lb := [1],mu := [(5,4)],trunc := [],draws := [(11,⟨[0,0,2,7,0,0,32,112,240,496,1023,2047],[0,1,2,3,4,5,6,7,8,9],[(10,[],[11])]⟩)] }
def t76L0 : TCode := (.seq (.region [s_ 9 (.bin .lss (.loc 8) (.loc 7))])
(.seq (.cond (.loc 9)
.skip
(.exit 0))
(.seq (.block 1
(.seq (.region [o_ (.indexAddrS 1 (.loc 6) (.loc 8)),o_ (.load1 (.reg 0)),s_ 4 (.mov (.reg 1))])
(.region [o_ (.mov (.loc 3)),o_ (.mov (.loc 4)),o_ (.call true false 111 [(.reg 1)]),o_ (.lit false [(.str [])] 1 [(0,(.reg 2))]),o_ (.append true 1 16 9 (.reg 0) (.reg 3)),s_ 3 (.mov (.reg 4))])))
(.region [o_ (.bin .add (.loc 8) (i_ 1)),s_ 8 (.mov (.reg 0))]))))
def t76 : TFunc := ⟨1,12,[.loc 2],
(.seq (.region [o_ (.boxL 1 (.loc 0)),s_ 2 (.mov (.cst (.str [])))])
(.seq (.region [s_ 3 (.mov (.cst (.sl .nil [])))])
(.seq (.seq (.region [o_ (.fieldAddr 2 (.loc 1)),s_ 6 (.load1 (.reg 0)),s_ 7 (.len .sl (.reg 1)),s_ 8 (.mov (i_ 0))])
(.block 0
(.loop t76L0)))
(.seq (.seq (.region [o_ (.mov (.loc 3)),o_ (.len .sl (.reg 0)),s_ 5 (.mov (.reg 1))])
(.block 2
(.seq (.region [o_ (.fieldAddr 3 (.loc 1)),o_ (.load1 (.reg 0)),o_ (.mov (.reg 1)),⟨.mov (.loc 5),none,(some (2,true))⟩,⟨.bin .eql (.reg 3) (i_ 1),none,(some (2,true))⟩,o_ (.pick (.reg 2) (.reg 4) (.cst (.bool false))),s_ 10 (.mov (.reg 5))])
(.cond (.loc 10)
(.seq (.region [o_ (.mov (.loc 3)),o_ (.indexAddrS 1 (.reg 0) (i_ 0)),o_ (.load1 (.reg 1)),s_ 2 (.mov (.reg 2))])
.ret)
(.seq (.region [o_ (.fieldAddr 3 (.loc 1)),o_ (.load1 (.reg 0)),s_ 11 (.mov (.reg 1))])
(.cond (.loc 11)
(.draw [0,1,2,3,4,5,6,7,8,9] [(10,[],[11])] [o_ (.mov (.loc 3)),o_ (.mov (.loc 5)),o_ (.bin .sub (.reg 1) (i_ 1)),o_ (.slice (.sl 1) (.reg 0) none (some (.reg 2)) none),o_ (.mov (.loc 3)),o_ (.mov (.loc 5)),o_ (.bin .sub (.reg 5) (i_ 1)),o_ (.indexAddrS 1 (.reg 4) (.reg 6)),o_ (.load1 (.reg 7)),o_ (.lit false [(.str [])] 2 [(0,(.cst (.str [46]))),(1,(.reg 8))]),o_ (.append false 1 16 9 (.reg 3) (.reg 9)),s_ 3 (.mov (.reg 10))])
.skip))))))
(.seq (.region [o_ (.mov (.loc 3)),o_ (.call true false 77 [(.reg 0),(.cst (.str [32]))]),o_ (.bin .add (.cst (.str [40])) (.reg 1)),o_ (.bin .add (.reg 2) (.cst (.str [41]))),s_ 2 (.mov (.reg 3))])
.ret)))))⟩
theorem c76 : compFunc Tryz.prog opts a76 Tryz.f76 = some t76 := by kernel_rfl
def a77 : Ann := { slots := [0,1,4,5,7,8,10,12,13,15,22,29,39,40,41,42,49,63,64,65,66],lb := [],mu := [],trunc := [],draws := [] }
def t77L0 : TCode := (.seq (.region [s_ 20 (.bin .lss (.loc 19) (.loc 18))])
(.seq (.cond (.loc 20)
.skip
(.exit 3))
(.seq (.block 4
(.seq (.region [o_ (.indexAddrS 1 (.loc 17) (.loc 19)),o_ (.load1 (.reg 0)),s_ 6 (.mov (.reg 1))])
(.seq (.region [o_ (.mov (.loc 1)),o_ (.call false false 78 [(.loc 5),(.reg 0)])])
(.region [o_ (.mov (.loc 6)),o_ (.call false false 78 [(.loc 5),(.reg 0)])]))))
(.region [o_ (.bin .add (.loc 19) (i_ 1)),s_ 19 (.mov (.reg 0))]))))
def t77L1 : TCode := (.seq (.region [s_ 15 (.bin .lss (.loc 14) (.loc 13))])
(.seq (.cond (.loc 15)
.skip
(.exit 1))
(.seq (.block 2
(.seq (.region [o_ (.indexAddrS 1 (.loc 12) (.loc 14)),o_ (.load1 (.reg 0)),s_ 4 (.mov (.reg 1))])
(.seq (.seq (.region [o_ (.mov (.loc 4)),o_ (.len .str (.reg 0)),o_ (.mov (.loc 3)),o_ (.bin .sub (i_ 9223372036854775807) (.reg 2)),s_ 16 (.bin .gtr (.reg 1) (.reg 3))])
(.cond (.loc 16)
(.region [o_ (.bad),o_ (.bad)])
.skip))
(.region [o_ (.mov (.loc 3)),o_ (.mov (.loc 4)),o_ (.len .str (.reg 1)),o_ (.bin .add (.reg 0) (.reg 2)),s_ 3 (.mov (.reg 3))]))))
(.region [o_ (.bin .add (.loc 14) (i_ 1)),s_ 14 (.mov (.reg 0))]))))
def t77 : TFunc := ⟨2,21,[.loc 2],
(.seq (.region [s_ 2 (.mov (.cst (.str [])))])
(.seq (.seq (.region [o_ (.mov (.loc 0)),s_ 7 (.len .sl (.reg 0))])
(.block 0
(.seq (.region [o_ (.bin .eql (.loc 7) (i_ 0)),s_ 8 (.mov (.reg 0))])
(.cond (.loc 8)
(.seq (.region [s_ 2 (.mov (.cst (.str [])))])
.ret)
(.seq (.region [o_ (.bin .eql (.loc 7) (i_ 1)),s_ 9 (.mov (.reg 0))])
(.cond (.loc 9)
(.seq (.region [o_ (.mov (.loc 0)),o_ (.indexAddrS 1 (.reg 0) (i_ 0)),o_ (.load1 (.reg 1)),s_ 2 (.mov (.reg 2))])
.ret)
.skip))))))
(.seq (.region [s_ 3 (.mov (i_ 0))])
(.seq (.seq (.region [o_ (.mov (.loc 1)),o_ (.len .str (.reg 0)),s_ 10 (.bin .gtr (.reg 1) (i_ 0))])
(.cond (.loc 10)
(.seq (.seq (.region [o_ (.mov (.loc 1)),o_ (.len .str (.reg 0)),o_ (.mov (.loc 0)),o_ (.len .sl (.reg 2)),o_ (.bin .sub (.reg 3) (i_ 1)),o_ (.bin .quo (i_ 9223372036854775807) (.reg 4)),s_ 11 (.bin .geq (.reg 1) (.reg 5))])
(.cond (.loc 11)
(.region [o_ (.bad),o_ (.bad)])
.skip))
(.region [o_ (.mov (.loc 3)),o_ (.mov (.loc 1)),o_ (.len .str (.reg 1)),o_ (.mov (.loc 0)),o_ (.len .sl (.reg 3)),o_ (.bin .sub (.reg 4) (i_ 1)),o_ (.bin .mul (.reg 2) (.reg 5)),o_ (.bin .add (.reg 0) (.reg 6)),s_ 3 (.mov (.reg 7))]))
.skip))
(.seq (.seq (.region [s_ 12 (.mov (.loc 0)),s_ 13 (.len .sl (.reg 0)),s_ 14 (.mov (i_ 0))])
(.block 1
(.loop t77L1)))
(.seq (.region [s_ 5 (.allocH 98 [.nilp,(.sl .nil [])])])
(.seq (.region [o_ (.mov (.loc 3)),o_ (.call false false 112 [(.loc 5),(.reg 0)])])
(.seq (.region [o_ (.mov (.loc 0)),o_ (.indexAddrS 1 (.reg 0) (i_ 0)),o_ (.load1 (.reg 1)),o_ (.call false false 78 [(.loc 5),(.reg 2)])])
(.seq (.seq (.region [o_ (.mov (.loc 0)),s_ 17 (.slice (.sl 1) (.reg 0) (some (i_ 1)) none none),s_ 18 (.len .sl (.reg 1)),s_ 19 (.mov (i_ 0))])
(.block 3
(.loop t77L0)))
(.seq (.region [o_ (.prim 80 [(.loc 5)]),s_ 2 (.mov (.reg 0))])
.ret))))))))))⟩
theorem c77 : compFunc Tryz.prog opts a77 Tryz.f77 = some t77 := by kernel_rfl
def a78 : Ann := { slots := [0,1,4,5],lb := [],mu := [],trunc := [],draws := [] }
def t78 : TFunc := ⟨2,4,[.loc 2,.loc 3],
(.seq (.region [s_ 2 (.mov (i_ 0)),s_ 3 (.mov (.cst .nili))])
(.seq (.region [o_ (.mov (.loc 0)),o_ (.prim 113 [(.reg 0)])])
(.seq (.region [o_ (.mov (.loc 0)),o_ (.mov (.loc 0)),o_ (.nilCheck (.reg 1)),o_ (.fieldAddr 1 (.reg 2)),o_ (.load1 (.reg 3)),o_ (.mov (.loc 1)),o_ (.append false 1 1 5 (.reg 4) (.reg 5)),o_ (.nilCheck (.reg 0)),o_ (.fieldAddr 1 (.reg 7)),o_ (.store 1 (.reg 8) (.reg 6))])
(.seq (.region [o_ (.mov (.loc 1)),o_ (.len .str (.reg 0)),s_ 2 (.mov (.reg 1)),s_ 3 (.mov (.cst .nili))])
.ret))))⟩
theorem c78 : compFunc Tryz.prog opts a78 Tryz.f78 = some t78 := by kernel_rfl
def a82 : Ann := { slots := [0,1,2],lb := [1],mu := [],trunc := [],draws := [] }
def t82 : TFunc := ⟨1,3,[.loc 2],
(.seq (.region [o_ (.boxL 1 (.loc 0)),s_ 2 (.mov (.cst (.bool false)))])
(.seq (.region [o_ (.fieldAddr 0 (.loc 1)),o_ (.load1 (.reg 0)),o_ (.bin .eql (.reg 1) (i_ 6)),o_ (.mov (.reg 2)),⟨.fieldAddr 3 (.loc 1),none,(some (3,true))⟩,⟨.load1 (.reg 4),none,(some (3,true))⟩,⟨.len .sl (.reg 5),none,(some (3,true))⟩,⟨.bin .eql (.reg 6) (i_ 2),none,(some (3,true))⟩,o_ (.pick (.reg 3) (.reg 7) (.cst (.bool false))),s_ 2 (.mov (.reg 8))])
.ret))⟩
theorem c82 : compFunc Tryz.prog opts a82 Tryz.f82 = some t82 := by kernel_rfl
def a83 : Ann := { slots := [0,1,4],lb := [],mu := [],trunc := [],draws := [] }
def t83 : TFunc := ⟨2,3,[.loc 2],
(.seq (.region [s_ 2 (.mov (.cst (.bool false)))])
(.seq (.region [o_ (.mov (.loc 0)),o_ (.mov (.loc 1)),o_ (.call false false 115 [(.reg 0),(.reg 1)]),o_ (.bin .geq (.reg 2) (i_ 0)),s_ 2 (.mov (.reg 3))])
.ret))⟩
theorem c83 : compFunc Tryz.prog opts a83 Tryz.f83 = some t83 := by kernel_rfl
def a84 : Ann := { slots := [0,1,2],lb := [1],mu := [],trunc := [],draws := [] }
def t84 : TFunc := ⟨1,3,[.loc 2],
(.seq (.region [o_ (.boxL 1 (.loc 0)),s_ 2 (.mov (.cst (.bool false)))])
(.seq (.region [o_ (.loadN 5 (.loc 1)),o_ (.call true false 42 [(.reg 0)]),o_ (.un .not (.reg 1)),s_ 2 (.mov (.reg 2))])
.ret))⟩
theorem c84 : compFunc Tryz.prog opts a84 Tryz.f84 = some t84 := by kernel_rfl
def a85 : Ann := { slots := [0,1,2,4,6,7,12,22,27,32],lb := [1],mu := [],trunc := [],draws := [] }
def t85 : TFunc := ⟨1,10,[.loc 2],
(.seq (.region [o_ (.boxL 1 (.loc 0)),s_ 2 (.mov (.cst (.bool false)))])
(.seq (.seq (.region [o_ (.fieldAddr 0 (.loc 1)),s_ 4 (.load1 (.reg 0))])
(.block 0
(.seq (.seq (.region [o_ (.bin .eql (.loc 4) (i_ 0)),s_ 5 (.mov (.reg 0))])
(.cond (.loc 5)
.skip
(.seq (.region [o_ (.bin .eql (.loc 4) (i_ 8)),s_ 5 (.mov (.reg 0))])
(.cond (.loc 5)
.skip
(.seq (.region [o_ (.bin .eql (.loc 4) (i_ 9)),s_ 5 (.mov (.reg 0))])
(.cond (.loc 5)
.skip
(.region [o_ (.bin .eql (.loc 4) (i_ 10)),s_ 5 (.mov (.reg 0))])))))))
(.cond (.loc 5)
(.seq (.region [s_ 2 (.mov (.cst (.bool true)))])
.ret)
(.seq (.region [o_ (.bin .eql (.loc 4) (i_ 1)),s_ 6 (.mov (.reg 0))])
(.cond (.loc 6)
(.seq (.region [o_ (.fieldAddr 1 (.loc 1)),o_ (.load1 (.reg 0)),o_ (.bin .eql (.reg 1) (i_ 0)),o_ (.mov (.reg 2)),⟨.fieldAddr 1 (.loc 1),none,(some (3,false))⟩,⟨.load1 (.reg 4),none,(some (3,false))⟩,⟨.bin .eql (.reg 5) (i_ 1),none,(some (3,false))⟩,o_ (.pick (.reg 3) (.cst (.bool true)) (.reg 6)),s_ 2 (.mov (.reg 7))])
.ret)
(.seq (.region [o_ (.bin .eql (.loc 4) (i_ 2)),s_ 7 (.mov (.reg 0))])
(.cond (.loc 7)
(.seq (.region [o_ (.fieldAddr 2 (.loc 1)),o_ (.load1 (.reg 0)),o_ (.call true false 116 [(.reg 1)]),s_ 2 (.mov (.reg 2))])
.ret)
(.seq (.region [o_ (.bin .eql (.loc 4) (i_ 3)),s_ 8 (.mov (.reg 0))])
(.cond (.loc 8)
(.seq (.region [o_ (.fieldAddr 1 (.loc 1)),o_ (.load1 (.reg 0)),o_ (.call true false 117 [(.reg 1)]),s_ 2 (.mov (.reg 2))])
.ret)
(.seq (.seq (.region [o_ (.bin .eql (.loc 4) (i_ 4)),s_ 9 (.mov (.reg 0))])
(.cond (.loc 9)
.skip
(.region [o_ (.bin .eql (.loc 4) (i_ 5)),s_ 9 (.mov (.reg 0))])))
(.cond (.loc 9)
(.seq (.region [o_ (.fieldAddr 2 (.loc 1)),o_ (.load1 (.reg 0)),o_ (.call true false 118 [(.reg 1)]),o_ (.mov (.reg 2)),o_ (.extract 0 (.reg 3)),o_ (.extract 1 (.reg 3)),o_ (.mov (.reg 4)),s_ 3 (.mov (.reg 5))])
(.seq (.region [o_ (.mov (.loc 3)),o_ (.bin .eql (.reg 0) (i_ 0)),o_ (.mov (.reg 1)),⟨.fieldAddr 0 (.loc 1),none,(some (2,true))⟩,⟨.load1 (.reg 3),none,(some (2,true))⟩,⟨.bin .eql (.reg 4) (i_ 4),none,(some (2,true))⟩,⟨.mov (.reg 5),none,(some (2,true))⟩,⟨.fieldAddr 2 (.loc 1),none,(some (6,false))⟩,⟨.load1 (.reg 7),none,(some (6,false))⟩,⟨.bin .neq (.reg 8) (.cst (.str [])),none,(some (6,false))⟩,⟨.pick (.reg 6) (.cst (.bool true)) (.reg 9),none,(some (2,true))⟩,o_ (.pick (.reg 2) (.reg 10) (.cst (.bool false))),s_ 2 (.mov (.reg 11))])
.ret))
.skip))))))))))))
(.seq (.region [s_ 2 (.mov (.cst (.bool false)))])
.ret)))⟩
theorem c85 : compFunc Tryz.prog opts a85 Tryz.f85 = some t85 := by kernel_rfl
def a86 : Ann := { slots := [0,1,2],lb := [1],mu := [],trunc := [],draws := [] }
def t86 : TFunc := ⟨1,3,[.loc 2],
(.seq (.region [o_ (.boxL 1 (.loc 0)),s_ 2 (.mov (.cst (.bool false)))])
(.seq (.region [o_ (.loadN 5 (.loc 1)),o_ (.call true false 43 [(.reg 0)]),o_ (.un .not (.reg 1)),s_ 2 (.mov (.reg 2))])
.ret))⟩
theorem c86 : compFunc Tryz.prog opts a86 Tryz.f86 = some t86 := by kernel_rfl
def a87 : Ann := { slots := [0,1,2,3,4,5,6,7,8,73,75,76,88,100],lb := [5,3],mu := [],trunc := [],draws := [(8,⟨[0,0,2,0,8,24,56,120,248,511,1023],[0,1,2,3,4,5,6,7,8],[(9,[],[10])]⟩),(11,⟨[0,0,2,0,8,24,56,120,255,511],[0,1,2,3,4,5,6,7],[(8,[],[9])]⟩),(14,⟨[0,0,2,0,8,24,56,120,255,511],[0,1,2,3,4,5,6,7],[(8,[],[9])]⟩)] }
def t87 : TFunc := ⟨2,14,[.loc 4],
(.seq (.region [s_ 2 (.boxH 55 (.loc 0)),o_ (.boxL 3 (.loc 1)),s_ 4 (.mov (.cst (.bool false)))])
(.seq (.region [o_ (.loadN 5 (.loc 3)),o_ (.call true false 74 [(.reg 0)]),o_ (.mov (.reg 1)),o_ (.extract 0 (.reg 2)),o_ (.extract 1 (.reg 2)),o_ (.allocL 5 [(.bool false),(.int .i64 0),(.bool false),(.str [])]),o_ (.store 4 (.reg 5) (.reg 3)),s_ 6 (.mov (.reg 4))])
(.seq (.region [o_ (.fieldAddr 0 (.loc 3)),o_ (.load1 (.reg 0)),o_ (.bin .eql (.reg 1) (i_ 7)),s_ 7 (.mov (.reg 2))])
(.seq (.seq (.region [o_ (.mov (.loc 6)),o_ (.un .not (.reg 0)),o_ (.mov (.reg 1)),⟨.fieldAddr 4 (.loc 3),none,(some (2,false))⟩,⟨.load1 (.reg 3),none,(some (2,false))⟩,⟨.len .sl (.reg 4),none,(some (2,false))⟩,⟨.fieldAddr 1 (.loc 5),none,(some (2,false))⟩,⟨.load1 (.reg 6),none,(some (2,false))⟩,⟨.bin .lss (.reg 5) (.reg 7),none,(some (2,false))⟩,o_ (.pick (.reg 2) (.cst (.bool true)) (.reg 8)),o_ (.mov (.reg 9)),⟨.fieldAddr 4 (.loc 3),none,(some (10,false))⟩,⟨.load1 (.reg 11),none,(some (10,false))⟩,⟨.len .sl (.reg 12),none,(some (10,false))⟩,⟨.fieldAddr 1 (.loc 5),none,(some (10,false))⟩,⟨.load1 (.reg 14),none,(some (10,false))⟩,⟨.bin .gtr (.reg 13) (.reg 15),none,(some (10,false))⟩,⟨.mov (.reg 16),none,(some (10,false))⟩,⟨.fieldAddr 2 (.loc 5),none,(some (17,true))⟩,⟨.load1 (.reg 18),none,(some (17,true))⟩,⟨.un .not (.reg 19),none,(some (17,true))⟩,⟨.pick (.reg 17) (.reg 20) (.cst (.bool false)),none,(some (10,false))⟩,o_ (.pick (.reg 10) (.cst (.bool true)) (.reg 21)),o_ (.mov (.reg 22)),⟨.fieldAddr 0 (.loc 5),none,(some (23,false))⟩,⟨.load1 (.reg 24),none,(some (23,false))⟩,⟨.un .not (.reg 25),none,(some (23,false))⟩,⟨.mov (.reg 26),none,(some (23,false))⟩,⟨.fieldAddr 1 (.loc 3),none,(some (27,true))⟩,⟨.load1 (.reg 28),none,(some (27,true))⟩,⟨.bin .neq (.reg 29) (i_ 0),none,(some (27,true))⟩,⟨.pick (.reg 27) (.reg 30) (.cst (.bool false)),none,(some (23,false))⟩,o_ (.pick (.reg 23) (.cst (.bool true)) (.reg 31)),o_ (.mov (.reg 32)),⟨.mov (.loc 7),none,(some (33,false))⟩,⟨.un .not (.reg 34),none,(some (33,false))⟩,⟨.mov (.reg 35),none,(some (33,false))⟩,⟨.fieldAddr 2 (.loc 3),none,(some (36,true))⟩,⟨.load1 (.reg 37),none,(some (36,true))⟩,⟨.len .sl (.reg 38),none,(some (36,true))⟩,⟨.bin .gtr (.reg 39) (i_ 0),none,(some (36,true))⟩,⟨.mov (.reg 40),none,(some (36,true))⟩,⟨.fieldAddr 3 (.loc 3),none,(some (41,false))⟩,⟨.load1 (.reg 42),none,(some (41,false))⟩,⟨.pick (.reg 41) (.cst (.bool true)) (.reg 43),none,(some (36,true))⟩,⟨.pick (.reg 36) (.reg 44) (.cst (.bool false)),none,(some (33,false))⟩,o_ (.pick (.reg 33) (.cst (.bool true)) (.reg 45)),o_ (.mov (.reg 46)),⟨.fieldAddr 3 (.loc 3),none,(some (47,false))⟩,⟨.load1 (.reg 48),none,(some (47,false))⟩,⟨.mov (.reg 49),none,(some (47,false))⟩,⟨.fieldAddr 2 (.loc 3),none,(some (50,true))⟩,⟨.load1 (.reg 51),none,(some (50,true))⟩,⟨.len .sl (.reg 52),none,(some (50,true))⟩,⟨.bin .eql (.reg 53) (i_ 0),none,(some (50,true))⟩,⟨.pick (.reg 50) (.reg 54) (.cst (.bool false)),none,(some (47,false))⟩,s_ 9 (.pick (.reg 47) (.cst (.bool true)) (.reg 55))])
(.cond (.loc 9)
(.seq (.region [s_ 4 (.mov (.cst (.bool false)))])
.ret)
.skip))
(.seq (.region [s_ 8 (.allocH 135 [.nilf]),o_ (.store 1 (.reg 0) (.fn 119))])
(.seq (.seq (.region [o_ (.fieldAddr 0 (.loc 3)),s_ 10 (.load1 (.reg 0))])
(.block 0
(.seq (.region [o_ (.bin .eql (.loc 10) (i_ 1)),s_ 11 (.mov (.reg 0))])
(.cond (.loc 11)
(.seq (.draw [0,1,2,3,4,5,6,7,8] [(9,[],[10])] [o_ (.load1 (.loc 8)),o_ (.fieldAddr 1 (.loc 3)),o_ (.load1 (.reg 1)),o_ (.load1 (.loc 2)),o_ (.nilCheck (.reg 3)),o_ (.fieldAddr 0 (.reg 4)),o_ (.fieldAddr 7 (.reg 5)),o_ (.load1 (.reg 6)),o_ (.len .sl (.reg 7)),o_ (.callv (.reg 0) [(.reg 2),(.reg 8)]),s_ 4 (.mov (.reg 9))])
.ret)
(.seq (.seq (.region [o_ (.bin .eql (.loc 10) (i_ 2)),s_ 12 (.mov (.reg 0))])
(.cond (.loc 12)
.skip
(.region [o_ (.bin .eql (.loc 10) (i_ 4)),s_ 12 (.mov (.reg 0))])))
(.cond (.loc 12)
(.seq (.draw [0,1,2,3,4,5,6,7] [(8,[],[9])] [o_ (.load1 (.loc 8)),o_ (.fieldAddr 1 (.loc 3)),o_ (.load1 (.reg 1)),o_ (.load1 (.loc 2)),o_ (.nilCheck (.reg 3)),o_ (.fieldAddr 0 (.reg 4)),o_ (.fieldAddr 6 (.reg 5)),o_ (.load1 (.reg 6)),o_ (.callv (.reg 0) [(.reg 2),(.reg 7)]),s_ 4 (.mov (.reg 8))])
.ret)
(.seq (.seq (.region [o_ (.bin .eql (.loc 10) (i_ 3)),s_ 13 (.mov (.reg 0))])
(.cond (.loc 13)
.skip
(.region [o_ (.bin .eql (.loc 10) (i_ 5)),s_ 13 (.mov (.reg 0))])))
(.cond (.loc 13)
(.seq (.draw [0,1,2,3,4,5,6,7] [(8,[],[9])] [o_ (.load1 (.loc 8)),o_ (.fieldAddr 1 (.loc 3)),o_ (.load1 (.reg 1)),o_ (.load1 (.loc 2)),o_ (.nilCheck (.reg 3)),o_ (.fieldAddr 0 (.reg 4)),o_ (.fieldAddr 5 (.reg 5)),o_ (.load1 (.reg 6)),o_ (.callv (.reg 0) [(.reg 2),(.reg 7)]),s_ 4 (.mov (.reg 8))])
.ret)
.skip))))))))
(.seq (.region [o_ (.fieldAddr 2 (.loc 3)),o_ (.load1 (.reg 0)),o_ (.mkFn 121 [] [(.loc 8),(.loc 2)]),o_ (.call false false 120 [(.reg 1),(.reg 2)]),o_ (.un .not (.reg 3)),s_ 4 (.mov (.reg 4))])
.ret)))))))⟩
theorem c87 : compFunc Tryz.prog opts a87 Tryz.f87 = some t87 := by kernel_rfl
def a90 : Ann := { slots := [0,1,2,5,7,8,9,10,15],lb := [],mu := [],trunc := [],draws := [] }
def t90L0 : TCode := (.seq (.region [s_ 7 (.bin .lss (.loc 6) (.loc 5))])
(.seq (.cond (.loc 7)
.skip
(.exit 0))
(.seq (.block 1
(.seq (.region [o_ (.indexAddrS 1 (.loc 4) (.loc 6)),o_ (.load1 (.reg 0)),s_ 3 (.mov (.reg 1))])
(.seq (.region [o_ (.fieldAddr 0 (.loc 1)),o_ (.load1 (.reg 0)),s_ 8 (.bin .eql (.reg 1) (i_ 7))])
(.cond (.loc 8)
(.region [o_ (.load1 (.loc 2)),o_ (.mov (.loc 3)),o_ (.load1 (.loc 2)),o_ (.mov (.loc 3)),o_ (.lookup (.leaf .int) (.agg [(.int .i64 0)]) false (.reg 2) (.reg 3)),o_ (.field 0 1 false (.reg 4)),o_ (.mov (.loc 0)),o_ (.bin .add (.reg 5) (.reg 6)),o_ (.build [(.int .i64 0)] [(0,1,(.reg 7))]),o_ (.update (.leaf .int) (.reg 0) (.reg 1) (.reg 8))])
.skip))))
(.region [o_ (.bin .add (.loc 6) (i_ 1)),s_ 6 (.mov (.reg 0))]))))
def t90 : TFunc := ⟨3,9,[],
(.seq (.region [o_ (.fieldAddr 2 (.loc 1)),s_ 4 (.load1 (.reg 0)),s_ 5 (.len .sl (.reg 1)),s_ 6 (.mov (i_ 0))])
(.block 0
(.loop t90L0)))⟩
theorem c90 : compFunc Tryz.prog opts a90 Tryz.f90 = some t90 := by kernel_rfl
def a91 : Ann := { slots := [0,2,3,4,5,6,7,8,9,13,22],lb := [],mu := [],trunc := [],draws := [] }
def t91L0 : TCode := (.seq (.seq (.region [o_ (.mov (.loc 5)),o_ (.mov (.loc 0)),o_ (.len .sl (.reg 1)),s_ 9 (.bin .lss (.reg 0) (.reg 2))])
(.cond (.loc 9)
.skip
(.exit 0)))
(.block 1
(.seq (.region [o_ (.mov (.loc 0)),o_ (.mov (.loc 5)),o_ (.call true false 125 [(.reg 0),(.reg 1)]),o_ (.mov (.reg 2)),o_ (.extract 0 (.reg 3)),o_ (.extract 1 (.reg 3)),o_ (.extract 2 (.reg 3)),s_ 6 (.mov (.reg 4)),s_ 7 (.mov (.reg 5)),s_ 8 (.mov (.reg 6))])
(.seq (.seq (.region [o_ (.mov (.loc 8)),s_ 10 (.bin .neq (.reg 0) (i_ 0))])
(.cond (.loc 10)
(.seq (.region [o_ (.mov (.loc 5)),s_ 1 (.mov (.cst (.sl .nil []))),s_ 2 (.mov (i_ 4)),s_ 3 (.mov (.reg 0))])
.ret)
.skip))
(.seq (.region [o_ (.mov (.loc 4)),o_ (.mov (.loc 6)),o_ (.mov (.loc 5)),o_ (.build [(.int .i64 0),(.int .i64 0)] [(0,1,(.reg 1)),(1,1,(.reg 2))]),o_ (.lit false [(.int .i64 0),(.int .i64 0)] 1 [(0,(.reg 3))]),o_ (.append false 2 16 113 (.reg 0) (.reg 4)),s_ 4 (.mov (.reg 5))])
(.region [o_ (.mov (.loc 5)),o_ (.mov (.loc 7)),o_ (.bin .add (.reg 0) (.reg 1)),s_ 5 (.mov (.reg 2))]))))))
def t91 : TFunc := ⟨1,11,[.loc 1,.loc 2,.loc 3],
(.seq (.region [s_ 1 (.mov (.cst (.sl .nil []))),s_ 2 (.mov (i_ 0)),s_ 3 (.mov (i_ 0))])
(.seq (.region [s_ 4 (.mov (.cst (.sl .nil [])))])
(.seq (.region [s_ 5 (.mov (i_ 0))])
(.seq (.block 0
(.loop t91L0))
(.seq (.region [o_ (.mov (.loc 4)),s_ 1 (.mov (.reg 0)),s_ 2 (.mov (i_ 0)),s_ 3 (.mov (i_ 0))])
.ret)))))⟩
theorem c91 : compFunc Tryz.prog opts a91 Tryz.f91 = some t91 := by kernel_rfl
def a92 : Ann := { slots := [0,1,4,5,10,12,13,14,24],lb := [],mu := [],trunc := [],draws := [(6,⟨[0,0,3,7,0,0,48,112,255],[0,1,2,3,4,5,6,7,8],[]⟩)] }
def t92L0 : TCode := (.seq (.region [s_ 7 (.bin .lss (.loc 6) (.loc 5))])
(.seq (.cond (.loc 7)
.skip
(.exit 0))
(.seq (.block 1
(.seq (.region [o_ (.mov (.loc 6)),s_ 3 (.mov (.reg 0))])
(.seq (.draw [0,1,2,3,4,5,6,7,8] [] [o_ (.mov (.loc 0)),o_ (.mov (.loc 3)),o_ (.indexAddrS 1 (.reg 0) (.reg 1)),o_ (.load1 (.reg 2)),o_ (.mov (.loc 1)),o_ (.mov (.loc 3)),o_ (.indexAddrS 1 (.reg 4) (.reg 5)),o_ (.load1 (.reg 6)),s_ 8 (.bin .neq (.reg 3) (.reg 7))])
(.cond (.loc 8)
(.seq (.region [s_ 2 (.mov (.cst (.bool false)))])
.ret)
.skip))))
(.region [o_ (.bin .add (.loc 6) (i_ 1)),s_ 6 (.mov (.reg 0))]))))
def t92 : TFunc := ⟨2,9,[.loc 2],
(.seq (.region [s_ 2 (.mov (.cst (.bool false)))])
(.seq (.seq (.region [o_ (.mov (.loc 0)),o_ (.len .sl (.reg 0)),o_ (.mov (.loc 1)),o_ (.len .sl (.reg 2)),s_ 4 (.bin .neq (.reg 1) (.reg 3))])
(.cond (.loc 4)
(.seq (.region [s_ 2 (.mov (.cst (.bool false)))])
.ret)
.skip))
(.seq (.seq (.region [o_ (.mov (.loc 0)),s_ 5 (.len .sl (.reg 0)),s_ 6 (.mov (i_ 0))])
(.block 0
(.loop t92L0)))
(.seq (.region [s_ 2 (.mov (.cst (.bool true)))])
.ret))))⟩
theorem c92 : compFunc Tryz.prog opts a92 Tryz.f92 = some t92 := by kernel_rfl
def a93 : Ann := { slots := [0,1,2,6,7,8,9,14,15,16,17,18,30],lb := [9,8],mu := [],trunc := [],draws := [] }
def t93L0 : TCode := (.seq (.region [s_ 11 (.bin .lss (.loc 10) (.loc 9))])
(.seq (.cond (.loc 11)
.skip
(.exit 0))
(.seq (.block 1
(.seq (.region [o_ (.mov (.loc 10)),o_ (.indexAddrS 5 (.loc 8) (.loc 10)),o_ (.loadN 5 (.reg 1)),o_ (.allocL 5 [(.int .i64 0),(.int .i64 0),(.sl .nil []),(.bool false),(.sl .nil [])]),s_ 4 (.mov (.reg 0)),o_ (.store 5 (.reg 3) (.reg 2))])
(.seq (.region [o_ (.mov (.loc 1)),o_ (.mov (.loc 4)),o_ (.indexAddrS 5 (.reg 0) (.reg 1)),o_ (.loadN 5 (.reg 2)),o_ (.allocL 6 [(.int .i64 0),(.int .i64 0),(.sl .nil []),(.bool false),(.sl .nil [])]),o_ (.store 5 (.reg 4) (.reg 3))])
(.seq (.region [o_ (.mov (.loc 2)),o_ (.loadN 5 (.loc 5)),o_ (.loadN 5 (.loc 6)),o_ (.callv (.reg 0) [(.reg 1),(.reg 2)]),s_ 12 (.un .not (.reg 3))])
(.cond (.loc 12)
(.seq (.region [s_ 3 (.mov (.cst (.bool false)))])
.ret)
.skip)))))
(.region [o_ (.bin .add (.loc 10) (i_ 1)),s_ 10 (.mov (.reg 0))]))))
def t93 : TFunc := ⟨3,13,[.loc 3],
(.seq (.region [s_ 3 (.mov (.cst (.bool false)))])
(.seq (.seq (.region [o_ (.mov (.loc 0)),o_ (.len .sl (.reg 0)),o_ (.mov (.loc 1)),o_ (.len .sl (.reg 2)),s_ 7 (.bin .neq (.reg 1) (.reg 3))])
(.cond (.loc 7)
(.seq (.region [s_ 3 (.mov (.cst (.bool false)))])
.ret)
.skip))
(.seq (.seq (.region [s_ 8 (.mov (.loc 0)),s_ 9 (.len .sl (.reg 0)),s_ 10 (.mov (i_ 0))])
(.block 0
(.loop t93L0)))
(.seq (.region [s_ 3 (.mov (.cst (.bool true)))])
.ret))))⟩
theorem c93 : compFunc Tryz.prog opts a93 Tryz.f93 = some t93 := by kernel_rfl
end Go.Proofs.YtookmpaholmmfaaGreatDoor
