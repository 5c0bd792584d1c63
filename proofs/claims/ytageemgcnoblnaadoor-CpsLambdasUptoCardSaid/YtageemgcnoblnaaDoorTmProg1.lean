/- The functions of this seat, compiled for the evaluator TM; each held against the translation by the kernel. By program. Condition: none. -/
import Derived.Test.YtageemgcnoblnaaDoorPrim
set_option maxRecDepth 100000
set_option linter.unusedVariables false
namespace Go.Proofs.YtageemgcnoblnaaDoor
open Go Go.TM
abbrev o_ (x : TOp) : TOper := ⟨x,none,none⟩
abbrev s_ (n : Nat) (x : TOp) : TOper := ⟨x,some n,none⟩
abbrev i_ (n : Int) : TOpd := .cst (.int .i64 n)
def opts : Opts := ⟨fun f => ([3,4,6,7,12,13,16,18,19,20,21,22,23,24,27,28,29,30,31,33,36,37,38,39,40,41,42,43,44,45,46,47,48,49,50,53,54,55,56,57,58,60,61,64,65,66,68,69,70,71,72,73,74,75,76,77,84,90,93,94,95,96,101,106,107,108,112,115,116,117,118,119,120,122,123,129,131,133,134,135,137,146,147,148,149,150,151,152] : List Nat).contains f,fun f => ([42,94] : List Nat).contains f⟩
def a4 : Ann := { slots := [0,1,2,3,4,5,6,7,8,9,10,11,14,22,30,37,92,101,106,145],lb := [11,9,3,1],mu := [],trunc := [],draws := [(15,⟨[0,1,3,7,7,31,63,127,255,255,767,2047,4095,8191,16383,32767,65535,16383,16383,409599,933887,1982463,4079615,8273919,16777215,33554431,67108863,134217727,268435455,134217727,134217727,1744830463,3892314111,8187281407,17179869183,34359738367,68719476735,137438953471,274877906943,549755813887,137438953471,137438953471,3435973836799,7834020347903,16630113370111,35184372088831,70368744177663,140737488355327],[0,1,2,3,4],[(5,[],[6,7,8,9,10,11,12,13,14,15,16,17,18,19,20,21,22,23,24,25,26,27,28,29,30,31,32,33,34,35,36,37,38,39,40,41,42,43,44]),(45,[],[46,47])]⟩)] }
def t4L0 : TCode := (.seq (.seq (.region [o_ (.mov (.loc 10)),o_ (.fieldAddr 0 (.loc 3)),o_ (.load1 (.reg 1)),o_ (.len .sl (.reg 2)),s_ 18 (.bin .lss (.reg 0) (.reg 3))])
(.cond (.loc 18)
.skip
(.exit 4)))
(.seq (.block 5
(.seq (.region [o_ (.fieldAddr 0 (.loc 3)),o_ (.load1 (.reg 0)),o_ (.mov (.loc 10)),o_ (.indexAddrS 11 (.reg 1) (.reg 2)),o_ (.loadN 11 (.reg 3)),o_ (.allocL 11 [(.sl .nil []),(.bool false),(.bool false),(.sl .nil []),(.int .i64 0),(.int .i64 0),(.int .i64 0),(.int .i64 0),(.int .i64 0),(.sl .nil []),(.sl .nil [])]),o_ (.store 11 (.reg 5) (.reg 4))])
(.seq (.region [o_ (.fieldAddr 2 (.loc 11)),o_ (.load1 (.reg 0)),o_ (.un .not (.reg 1)),o_ (.mov (.reg 2)),⟨.mov (.loc 6),none,(some (3,true))⟩,⟨.mov (.loc 10),none,(some (3,true))⟩,⟨.call true false 14 [(.reg 4),(.reg 5)],none,(some (3,true))⟩,⟨.un .not (.reg 6),none,(some (3,true))⟩,o_ (.pick (.reg 3) (.reg 7) (.cst (.bool false))),o_ (.mov (.reg 8)),⟨.mov (.loc 10),none,(some (9,true))⟩,⟨.fieldAddr 1 (.loc 3),none,(some (9,true))⟩,⟨.load1 (.reg 11),none,(some (9,true))⟩,⟨.bin .neq (.reg 10) (.reg 12),none,(some (9,true))⟩,o_ (.pick (.reg 9) (.reg 13) (.cst (.bool false))),o_ (.mov (.reg 14)),⟨.fieldAddr 0 (.loc 11),none,(some (15,true))⟩,⟨.load1 (.reg 16),none,(some (15,true))⟩,⟨.len .sl (.reg 17),none,(some (15,true))⟩,⟨.bin .neq (.reg 18) (i_ 2),none,(some (15,true))⟩,⟨.mov (.reg 19),none,(some (15,true))⟩,⟨.fieldAddr 1 (.loc 11),none,(some (20,false))⟩,⟨.load1 (.reg 21),none,(some (20,false))⟩,⟨.un .not (.reg 22),none,(some (20,false))⟩,⟨.pick (.reg 20) (.cst (.bool true)) (.reg 23),none,(some (15,true))⟩,⟨.mov (.reg 24),none,(some (15,true))⟩,⟨.fieldAddr 4 (.loc 11),none,(some (25,false))⟩,⟨.fieldAddr 0 (.reg 26),none,(some (25,false))⟩,⟨.load1 (.reg 27),none,(some (25,false))⟩,⟨.bin .neq (.reg 28) (i_ 6),none,(some (25,false))⟩,⟨.pick (.reg 25) (.cst (.bool true)) (.reg 29),none,(some (15,true))⟩,s_ 19 (.pick (.reg 15) (.reg 30) (.cst (.bool false)))])
(.cond (.loc 19)
(.seq (.region [s_ 2 (.mov (.cst (.bool false)))])
.ret)
.skip))))
(.region [o_ (.mov (.loc 10)),o_ (.bin .add (.reg 0) (i_ 1)),s_ 10 (.mov (.reg 1))])))
def t4L1 : TCode := (.seq (.seq (.region [o_ (.mov (.loc 8)), o_ (.fieldAddr 0 (.loc 3)), o_ (.load1 (.reg 1)), o_ (.len .sl (.reg 2)), s_ 15 (.bin .lss (.reg 0) (.reg 3))])
(.cond (.loc 15)
.skip
(.exit 2)))
(.seq (.block 3
(.seq (.region [o_ (.fieldAddr 0 (.loc 3)),o_ (.load1 (.reg 0)),o_ (.mov (.loc 8)),o_ (.indexAddrS 11 (.reg 1) (.reg 2)),o_ (.loadN 11 (.reg 3)),o_ (.allocL 9 [(.sl .nil []),(.bool false),(.bool false),(.sl .nil []),(.int .i64 0),(.int .i64 0),(.int .i64 0),(.int .i64 0),(.int .i64 0),(.sl .nil []),(.sl .nil [])]),o_ (.store 11 (.reg 5) (.reg 4))])
(.seq (.seq (.draw [0,1,2,3,4] [(5,[],[6,7,8,9,10,11,12,13,14,15,16,17,18,19,20,21,22,23,24,25,26,27,28,29,30,31,32,33,34,35,36,37,38,39,40,41,42,43,44]),(45,[],[46,47])] [o_ (.fieldAddr 2 (.loc 9)),o_ (.load1 (.reg 0)),o_ (.mov (.reg 1)),⟨.mov (.loc 6),none,(some (2,false))⟩,⟨.mov (.loc 8),none,(some (2,false))⟩,⟨.call true false 14 [(.reg 3),(.reg 4)],none,(some (2,false))⟩,o_ (.pick (.reg 2) (.cst (.bool true)) (.reg 5)),o_ (.mov (.reg 6)),⟨.mov (.loc 8),none,(some (7,false))⟩,⟨.fieldAddr 1 (.loc 3),none,(some (7,false))⟩,⟨.load1 (.reg 9),none,(some (7,false))⟩,⟨.bin .eql (.reg 8) (.reg 10),none,(some (7,false))⟩,o_ (.pick (.reg 7) (.cst (.bool true)) (.reg 11)),o_ (.mov (.reg 12)),⟨.fieldAddr 0 (.loc 9),none,(some (13,false))⟩,⟨.load1 (.reg 14),none,(some (13,false))⟩,⟨.len .sl (.reg 15),none,(some (13,false))⟩,⟨.mov (.loc 5),none,(some (13,false))⟩,⟨.mov (.loc 7),none,(some (13,false))⟩,⟨.indexAddrS 5 (.reg 17) (.reg 18),none,(some (13,false))⟩,⟨.fieldAddr 2 (.reg 19),none,(some (13,false))⟩,⟨.load1 (.reg 20),none,(some (13,false))⟩,⟨.len .sl (.reg 21),none,(some (13,false))⟩,⟨.bin .add (.reg 22) (i_ 1),none,(some (13,false))⟩,⟨.bin .neq (.reg 16) (.reg 23),none,(some (13,false))⟩,o_ (.pick (.reg 13) (.cst (.bool true)) (.reg 24)),o_ (.mov (.reg 25)),⟨.fieldAddr 1 (.loc 9),none,(some (26,false))⟩,⟨.load1 (.reg 27),none,(some (26,false))⟩,⟨.mov (.loc 5),none,(some (26,false))⟩,⟨.mov (.loc 7),none,(some (26,false))⟩,⟨.indexAddrS 5 (.reg 29) (.reg 30),none,(some (26,false))⟩,⟨.fieldAddr 3 (.reg 31),none,(some (26,false))⟩,⟨.load1 (.reg 32),none,(some (26,false))⟩,⟨.eqB true .bool (.reg 28) (.reg 33),none,(some (26,false))⟩,o_ (.pick (.reg 26) (.cst (.bool true)) (.reg 34)),o_ (.mov (.reg 35)),⟨.fieldAddr 0 (.loc 9),none,(some (36,false))⟩,⟨.load1 (.reg 37),none,(some (36,false))⟩,⟨.slice (.sl 1) (.reg 38) (some (i_ 1)) none none,none,(some (36,false))⟩,⟨.mov (.loc 5),none,(some (36,false))⟩,⟨.mov (.loc 7),none,(some (36,false))⟩,⟨.indexAddrS 5 (.reg 40) (.reg 41),none,(some (36,false))⟩,⟨.fieldAddr 2 (.reg 42),none,(some (36,false))⟩,⟨.load1 (.reg 43),none,(some (36,false))⟩,⟨.call true false 15 [(.reg 39),(.reg 44)],none,(some (36,false))⟩,⟨.un .not (.reg 45),none,(some (36,false))⟩,s_ 16 (.pick (.reg 36) (.cst (.bool true)) (.reg 46))])
(.cond (.loc 16)
(.exit 3)
.skip))
(.seq (.region [o_ (.mov (.loc 6)),o_ (.mov (.loc 8)),o_ (.lit false [(.int .i64 0)] 1 [(0,(.reg 1))]),o_ (.append false 1 8 3 (.reg 0) (.reg 2)),s_ 6 (.mov (.reg 3))])
(.exit 2)))))
(.region [o_ (.mov (.loc 8)),o_ (.bin .add (.reg 0) (i_ 1)),s_ 8 (.mov (.reg 1))])))
def t4L2 : TCode := (.seq (.seq (.region [o_ (.mov (.loc 7)),o_ (.mov (.loc 5)),o_ (.len .sl (.reg 1)),s_ 14 (.bin .lss (.reg 0) (.reg 2))])
(.cond (.loc 14)
.skip
(.exit 0)))
(.seq (.block 1
(.seq (.region [s_ 8 (.mov (i_ 0))])
(.block 2
(.loop t4L1))))
(.region [o_ (.mov (.loc 7)),o_ (.bin .add (.reg 0) (i_ 1)),s_ 7 (.mov (.reg 1))])))
def t4 : TFunc := ⟨1,20,[.loc 2],
(.seq (.region [o_ (.boxL 1 (.loc 0)),s_ 2 (.mov (.cst (.bool false)))])
(.seq (.seq (.region [o_ (.loadN 8 (.loc 1)),o_ (.call false false 7 [(.reg 0)]),s_ 12 (.un .not (.reg 1))])
(.cond (.loc 12)
(.seq (.region [o_ (.call true false 8 []),s_ 2 (.mov (.reg 0))])
.ret)
.skip))
(.seq (.region [o_ (.loadN 8 (.loc 1)),o_ (.call true false 9 [(.reg 0)]),o_ (.mov (.reg 1)),o_ (.extract 0 (.reg 2)),o_ (.extract 1 (.reg 2)),o_ (.allocL 3 [(.sl .nil []),(.int .i64 0),(.int .i64 0),(.int .i64 0),(.sl .nil [])]),o_ (.store 5 (.reg 5) (.reg 3)),s_ 4 (.mov (.reg 4))])
(.seq (.seq (.region [o_ (.mov (.loc 4)),s_ 13 (.bin .neq (.reg 0) (i_ 0))])
(.cond (.loc 13)
(.seq (.region [o_ (.call true false 8 []),s_ 2 (.mov (.reg 0))])
.ret)
.skip))
(.seq (.region [o_ (.fieldAddr 0 (.loc 1)),o_ (.loadN 5 (.reg 0)),o_ (.call false false 13 [(.reg 1),(.cst (.sl .nil []))]),s_ 5 (.mov (.reg 2))])
(.seq (.region [s_ 6 (.mov (.cst (.sl .nil [])))])
(.seq (.seq (.region [s_ 7 (.mov (i_ 0))])
(.block 0
(.loop t4L2)))
(.seq (.seq (.region [o_ (.mov (.loc 6)),o_ (.len .sl (.reg 0)),o_ (.mov (.loc 5)),o_ (.len .sl (.reg 2)),s_ 17 (.bin .lss (.reg 1) (.reg 3))])
(.cond (.loc 17)
(.seq (.region [s_ 2 (.mov (.cst (.bool false)))])
.ret)
.skip))
(.seq (.seq (.region [s_ 10 (.mov (i_ 0))])
(.block 4
(.loop t4L0)))
(.seq (.region [o_ (.call true false 8 []),s_ 2 (.mov (.reg 0))])
.ret))))))))))⟩
theorem c4 : compFunc Tryd.prog opts a4 Tryd.f4 = some t4 := by kernel_rfl
def a7 : Ann := { slots := [0,1,2],lb := [1],mu := [],trunc := [],draws := [] }
def t7 : TFunc := ⟨1,3,[.loc 2],
(.seq (.region [o_ (.boxL 1 (.loc 0)),s_ 2 (.mov (.cst (.bool false)))])
(.seq (.region [o_ (.fieldAddr 0 (.loc 1)),o_ (.loadN 5 (.reg 0)),o_ (.call false false 18 [(.reg 1),(i_ 2000)]),o_ (.bin .gtr (.reg 2) (i_ 0)),o_ (.mov (.reg 3)),⟨.fieldAddr 7 (.loc 1),none,(some (4,true))⟩,⟨.load1 (.reg 5),none,(some (4,true))⟩,⟨.len .sl (.reg 6),none,(some (4,true))⟩,⟨.bin .leq (.reg 7) (i_ 2000),none,(some (4,true))⟩,o_ (.pick (.reg 4) (.reg 8) (.cst (.bool false))),o_ (.mov (.reg 9)),⟨.fieldAddr 6 (.loc 1),none,(some (10,true))⟩,⟨.load1 (.reg 11),none,(some (10,true))⟩,⟨.bin .leq (.reg 12) (i_ 1099511627776),none,(some (10,true))⟩,o_ (.pick (.reg 10) (.reg 13) (.cst (.bool false))),s_ 2 (.mov (.reg 14))])
.ret))⟩
theorem c7 : compFunc Tryd.prog opts a7 Tryd.f7 = some t7 := by kernel_rfl
def a8 : Ann := { slots := [0,1,2,3,4,5,35,68],lb := [5,4,2,1],mu := [],trunc := [],draws := [(9,⟨[0,1,3,7,15,31,63,127,255,511,1023,2047,4095,8191,1023,17407,50175,131071,262143,524287,1048575,2097151,4194303,8388607,1048575,33554431,67108863,134217727],[0,1,2,3,4,5,6,7,8,9,10,11,12,13,14,15,16,17,18,19,20,21,22,23,24,25,26,27],[]⟩)] }
def t8 : TFunc := ⟨0,8,[.loc 0],
(.seq (.region [s_ 0 (.mov (.cst (.bool false)))])
(.seq (.region [o_ (.build [(.int .i64 0),(.int .i64 0),(.sl .nil []),(.bool false),(.sl .nil [])] [(0,1,(i_ 3))]),o_ (.build [(.int .i64 0),(.int .i64 0),(.sl .nil []),(.bool false),(.sl .nil [])] [(0,1,(i_ 1))]),o_ (.lit false [(.int .i64 0),(.int .i64 0),(.sl .nil []),(.bool false),(.sl .nil [])] 2 [(0,(.reg 0)),(1,(.reg 1))]),o_ (.build [(.int .i64 0),(.int .i64 0),(.sl .nil []),(.bool false),(.sl .nil [])] [(0,1,(i_ 8)),(4,1,(.reg 2))]),o_ (.build [(.int .i64 0),(.int .i64 0),(.str []),(.sl .nil []),(.int .i64 0)] [(0,1,(i_ 0))]),o_ (.lit false [(.int .i64 0),(.int .i64 0),(.str []),(.sl .nil []),(.int .i64 0)] 1 [(0,(.reg 4))]),o_ (.build [(.int .i64 0),(.int .i64 0),(.sl .nil []),(.bool false),(.sl .nil []),(.int .i64 0),(.int .i64 0),(.sl .nil [])] [(0,5,(.reg 3)),(5,1,(i_ 1)),(7,1,(.reg 5))]),o_ (.allocL 1 [(.int .i64 0),(.int .i64 0),(.sl .nil []),(.bool false),(.sl .nil []),(.int .i64 0),(.int .i64 0),(.sl .nil [])]),o_ (.store 8 (.reg 7) (.reg 6))])
(.seq (.region [o_ (.loadN 8 (.loc 1)),o_ (.call true false 9 [(.reg 0)]),o_ (.mov (.reg 1)),o_ (.extract 0 (.reg 2)),o_ (.extract 1 (.reg 2)),o_ (.allocL 2 [(.sl .nil []),(.int .i64 0),(.int .i64 0),(.int .i64 0),(.sl .nil [])]),o_ (.store 5 (.reg 5) (.reg 3)),s_ 3 (.mov (.reg 4))])
(.seq (.seq (.region [o_ (.mov (.loc 3)),o_ (.bin .neq (.reg 0) (i_ 0)),o_ (.mov (.reg 1)),⟨.fieldAddr 0 (.loc 2),none,(some (2,false))⟩,⟨.load1 (.reg 3),none,(some (2,false))⟩,⟨.len .sl (.reg 4),none,(some (2,false))⟩,⟨.bin .neq (.reg 5) (i_ 2),none,(some (2,false))⟩,o_ (.pick (.reg 2) (.cst (.bool true)) (.reg 6)),o_ (.mov (.reg 7)),⟨.fieldAddr 1 (.loc 2),none,(some (8,false))⟩,⟨.load1 (.reg 9),none,(some (8,false))⟩,⟨.bin .lss (.reg 10) (i_ 0),none,(some (8,false))⟩,o_ (.pick (.reg 8) (.cst (.bool true)) (.reg 11)),o_ (.mov (.reg 12)),⟨.fieldAddr 1 (.loc 2),none,(some (13,false))⟩,⟨.load1 (.reg 14),none,(some (13,false))⟩,⟨.bin .gtr (.reg 15) (i_ 1),none,(some (13,false))⟩,s_ 6 (.pick (.reg 13) (.cst (.bool true)) (.reg 16))])
(.cond (.loc 6)
(.seq (.region [s_ 0 (.mov (.cst (.bool false)))])
.ret)
.skip))
(.seq (.region [o_ (.fieldAddr 0 (.loc 2)),o_ (.load1 (.reg 0)),o_ (.fieldAddr 1 (.loc 2)),o_ (.load1 (.reg 2)),o_ (.indexAddrS 11 (.reg 1) (.reg 3)),o_ (.fieldAddr 4 (.reg 4)),o_ (.loadN 7 (.reg 5)),o_ (.allocL 4 [(.int .i64 0),(.int .i64 0),(.int .i64 0),(.int .i64 0),(.int .i64 0),(.sl .nil []),(.sl .nil [])]),o_ (.store 7 (.reg 7) (.reg 6))])
(.seq (.seq (.region [o_ (.fieldAddr 0 (.loc 4)),o_ (.load1 (.reg 0)),o_ (.bin .neq (.reg 1) (i_ 2)),o_ (.mov (.reg 2)),⟨.fieldAddr 6 (.loc 4),none,(some (3,false))⟩,⟨.load1 (.reg 4),none,(some (3,false))⟩,⟨.len .sl (.reg 5),none,(some (3,false))⟩,⟨.bin .neq (.reg 6) (i_ 1),none,(some (3,false))⟩,o_ (.pick (.reg 3) (.cst (.bool true)) (.reg 7)),o_ (.mov (.reg 8)),⟨.fieldAddr 6 (.loc 4),none,(some (9,false))⟩,⟨.load1 (.reg 10),none,(some (9,false))⟩,⟨.indexAddrS 7 (.reg 11) (i_ 0),none,(some (9,false))⟩,⟨.fieldAddr 0 (.reg 12),none,(some (9,false))⟩,⟨.load1 (.reg 13),none,(some (9,false))⟩,⟨.bin .neq (.reg 14) (i_ 1),none,(some (9,false))⟩,o_ (.pick (.reg 9) (.cst (.bool true)) (.reg 15)),o_ (.mov (.reg 16)),⟨.fieldAddr 6 (.loc 4),none,(some (17,false))⟩,⟨.load1 (.reg 18),none,(some (17,false))⟩,⟨.indexAddrS 7 (.reg 19) (i_ 0),none,(some (17,false))⟩,⟨.fieldAddr 6 (.reg 20),none,(some (17,false))⟩,⟨.load1 (.reg 21),none,(some (17,false))⟩,⟨.len .sl (.reg 22),none,(some (17,false))⟩,⟨.bin .neq (.reg 23) (i_ 1),none,(some (17,false))⟩,s_ 7 (.pick (.reg 17) (.cst (.bool true)) (.reg 24))])
(.cond (.loc 7)
(.seq (.region [s_ 0 (.mov (.cst (.bool false)))])
.ret)
.skip))
(.seq (.region [o_ (.fieldAddr 6 (.loc 4)),o_ (.load1 (.reg 0)),o_ (.indexAddrS 7 (.reg 1) (i_ 0)),o_ (.fieldAddr 6 (.reg 2)),o_ (.load1 (.reg 3)),o_ (.indexAddrS 7 (.reg 4) (i_ 0)),o_ (.loadN 7 (.reg 5)),o_ (.allocL 5 [(.int .i64 0),(.int .i64 0),(.int .i64 0),(.int .i64 0),(.int .i64 0),(.sl .nil []),(.sl .nil [])]),o_ (.store 7 (.reg 7) (.reg 6))])
(.seq (.draw [0,1,2,3,4,5,6,7,8,9,10,11,12,13,14,15,16,17,18,19,20,21,22,23,24,25,26,27] [] [o_ (.fieldAddr 0 (.loc 5)),o_ (.load1 (.reg 0)),o_ (.bin .eql (.reg 1) (i_ 4)),o_ (.mov (.reg 2)),⟨.fieldAddr 5 (.loc 5),none,(some (3,true))⟩,⟨.load1 (.reg 4),none,(some (3,true))⟩,⟨.len .sl (.reg 5),none,(some (3,true))⟩,⟨.bin .eql (.reg 6) (i_ 3),none,(some (3,true))⟩,o_ (.pick (.reg 3) (.reg 7) (.cst (.bool false))),o_ (.mov (.reg 8)),⟨.fieldAddr 5 (.loc 5),none,(some (9,true))⟩,⟨.load1 (.reg 10),none,(some (9,true))⟩,⟨.indexAddrS 2 (.reg 11) (i_ 1),none,(some (9,true))⟩,⟨.loadN 2 (.reg 12),none,(some (9,true))⟩,⟨.fieldAddr 1 (.loc 4),none,(some (9,true))⟩,⟨.load1 (.reg 14),none,(some (9,true))⟩,⟨.build [(.int .i64 0),(.int .i64 0)] [(0,1,(i_ 1)),(1,1,(.reg 15))],none,(some (9,true))⟩,⟨.eqAgg false [(0,.int),(1,.int)] (.reg 13) (.reg 16),none,(some (9,true))⟩,o_ (.pick (.reg 9) (.reg 17) (.cst (.bool false))),o_ (.mov (.reg 18)),⟨.fieldAddr 5 (.loc 5),none,(some (19,true))⟩,⟨.load1 (.reg 20),none,(some (19,true))⟩,⟨.indexAddrS 2 (.reg 21) (i_ 2),none,(some (19,true))⟩,⟨.loadN 2 (.reg 22),none,(some (19,true))⟩,⟨.build [(.int .i64 0),(.int .i64 0)] [(0,1,(i_ 2))],none,(some (19,true))⟩,⟨.eqAgg false [(0,.int),(1,.int)] (.reg 23) (.reg 24),none,(some (19,true))⟩,o_ (.pick (.reg 19) (.reg 25) (.cst (.bool false))),s_ 0 (.mov (.reg 26))])
.ret))))))))⟩
theorem c8 : compFunc Tryd.prog opts a8 Tryd.f8 = some t8 := by kernel_rfl
def a9 : Ann := { slots := [0,1,2,3,4,5,6,7,8,9,10,14,19],lb := [10,7,2,1],mu := [],trunc := [],draws := [(10,⟨[0,0,2,0,0,16,0,64,248,511,0,2047],[0,1,2,3,4,5,6,10],[(7,[1,5],[]),(8,[1],[]),(9,[],[]),(11,[],[])]⟩),(11,⟨[0,1,3,7,0,0,63,127,255],[0,1,2,3,4,5,6,7],[(8,[],[])]⟩),(12,⟨[0,1,3,7,0,0,32,96,224,0,512,0,2048,8191,16383,32767],[0,1,2,3,4,5,6,7,8,9,10,11,12,13],[(14,[],[15])]⟩)] }
def t9 : TFunc := ⟨1,13,[.cell 2 5 true,.loc 3],
(.seq (.region [o_ (.boxL 1 (.loc 0)),o_ (.allocL 2 [(.sl .nil []),(.int .i64 0),(.int .i64 0),(.int .i64 0),(.sl .nil [])]),s_ 3 (.mov (i_ 0))])
(.seq (.seq (.region [o_ (.loadN 8 (.loc 1)),o_ (.call true false 11 [(.reg 0)]),s_ 4 (.mov (.reg 1))])
(.seq (.region [o_ (.mov (.loc 4)),s_ 11 (.bin .neq (.reg 0) (i_ 0))])
(.cond (.loc 11)
(.seq (.region [o_ (.build [(.sl .nil []),(.int .i64 0),(.int .i64 0),(.int .i64 0),(.sl .nil [])] []),o_ (.mov (.loc 4)),o_ (.store 5 (.loc 2) (.reg 0)),s_ 3 (.mov (.reg 1))])
.ret)
.skip)))
(.seq (.seq (.region [o_ (.fieldAddr 0 (.loc 1)),o_ (.loadN 5 (.reg 0)),s_ 12 (.call false false 19 [(.reg 1)])])
(.cond (.loc 12)
(.seq (.region [o_ (.build [(.sl .nil []),(.int .i64 0),(.int .i64 0),(.int .i64 0),(.sl .nil [])] []),o_ (.store 5 (.loc 2) (.reg 0)),s_ 3 (.mov (i_ 2))])
.ret)
.skip))
(.seq (.region [o_ (.fieldAddr 6 (.loc 1)),o_ (.load1 (.reg 0)),o_ (.build [(.sl .nil []),(.int .i64 0)] [(1,1,(.reg 1))]),o_ (.boxH 64 (.reg 2)),s_ 5 (.mov (.reg 3))])
(.seq (.region [o_ (.mov (.loc 5)),o_ (.mov (.loc 5)),o_ (.call false false 21 [(.reg 1)]),o_ (.lit false [(.int .i64 0)] 1 [(0,(.reg 2))]),o_ (.build [(.int .i64 0),(.int .i64 0),(.int .i64 0),(.int .i64 0),(.int .i64 0),(.sl .nil []),(.sl .nil [])] [(0,1,(i_ 7))]),o_ (.build [(.sl .nil []),(.bool false),(.bool false),(.sl .nil []),(.int .i64 0),(.int .i64 0),(.int .i64 0),(.int .i64 0),(.int .i64 0),(.sl .nil []),(.sl .nil [])] [(0,1,(.reg 3)),(2,1,(.cst (.bool true))),(4,7,(.reg 4))]),o_ (.call false false 20 [(.reg 0),(.reg 5)]),s_ 6 (.mov (.reg 6))])
(.seq (.region [o_ (.mov (.loc 5)),o_ (.mov (.loc 6)),o_ (.call false false 22 [(.reg 0),(.reg 1)]),o_ (.mov (.reg 2)),o_ (.extract 0 (.reg 3)),o_ (.extract 1 (.reg 3)),o_ (.allocL 7 [(.int .i64 0),(.int .i64 0),(.int .i64 0),(.int .i64 0),(.int .i64 0),(.int .i64 0),(.sl .nil []),(.sl .nil []),(.int .i64 0),(.int .i64 0),(.sl .nil []),(.bool false),(.sl .nil []),(.int .i64 0)]),o_ (.store 14 (.reg 6) (.reg 4)),s_ 8 (.mov (.reg 5))])
(.seq (.region [o_ (.mov (.loc 5)),o_ (.build [(.sl .nil []),(.bool false),(.bool false),(.sl .nil []),(.int .i64 0),(.int .i64 0),(.int .i64 0),(.int .i64 0),(.int .i64 0),(.sl .nil []),(.sl .nil [])] []),o_ (.call false false 20 [(.reg 0),(.reg 1)]),s_ 9 (.mov (.reg 2))])
(.seq (.draw [0,1,2,3,4,5,6,10] [(7,[1,5],[]),(8,[1],[]),(9,[],[]),(11,[],[])] [o_ (.mov (.loc 5)),o_ (.loadN 14 (.loc 7)),o_ (.lit false [(.int .i64 0),(.int .i64 0),(.int .i64 0),(.int .i64 0),(.int .i64 0),(.int .i64 0),(.sl .nil []),(.sl .nil []),(.int .i64 0),(.int .i64 0),(.sl .nil []),(.bool false),(.sl .nil []),(.int .i64 0)] 1 [(0,(.reg 1))]),o_ (.mov (.loc 5)),o_ (.fieldAddr 0 (.loc 1)),o_ (.loadN 5 (.reg 4)),o_ (.mov (.loc 8)),o_ (.call true false 25 [(.reg 6)]),o_ (.call false false 24 [(.reg 3),(.reg 5),(.reg 7)]),o_ (.call false false 23 [(.reg 0),(.reg 2),(.reg 8)]),s_ 10 (.allocH 46 [(.int .i64 0),(.int .i64 0),(.int .i64 0),(.int .i64 0),(.int .i64 0),(.sl .nil []),(.sl .nil [])]),o_ (.store 7 (.reg 10) (.reg 9))])
(.seq (.draw [0,1,2,3,4,5,6,7] [(8,[],[])] [o_ (.mov (.loc 5)),o_ (.nilCheck (.reg 0)),o_ (.fieldAddr 0 (.reg 1)),o_ (.load1 (.reg 2)),o_ (.mov (.loc 9)),o_ (.loadN 7 (.loc 10)),o_ (.indexAddrS 11 (.reg 3) (.reg 4)),o_ (.fieldAddr 4 (.reg 6)),o_ (.store 7 (.reg 7) (.reg 5))])
(.seq (.draw [0,1,2,3,4,5,6,7,8,9,10,11,12,13] [(14,[],[15])] [o_ (.mov (.loc 5)),o_ (.nilCheck (.reg 0)),o_ (.fieldAddr 0 (.reg 1)),o_ (.load1 (.reg 2)),o_ (.mov (.loc 9)),o_ (.mov (.loc 5)),o_ (.nilCheck (.reg 5)),o_ (.fieldAddr 1 (.reg 6)),o_ (.load1 (.reg 7)),o_ (.fieldAddr 5 (.loc 1)),o_ (.load1 (.reg 9)),o_ (.fieldAddr 7 (.loc 1)),o_ (.load1 (.reg 11)),o_ (.build [(.sl .nil []),(.int .i64 0),(.int .i64 0),(.int .i64 0),(.sl .nil [])] [(0,1,(.reg 3)),(1,1,(.reg 4)),(2,1,(.reg 8)),(3,1,(.reg 10)),(4,1,(.reg 12))]),o_ (.store 5 (.loc 2) (.reg 13)),s_ 3 (.mov (i_ 0))])
.ret))))))))))⟩
theorem c9 : compFunc Tryd.prog opts a9 Tryd.f9 = some t9 := by kernel_rfl
def a11 : Ann := { slots := [0,1,2,4,5,18,20,21,22,23,33],lb := [4,1],mu := [],trunc := [],draws := [] }
def t11L0 : TCode := (.seq (.region [s_ 9 (.bin .lss (.loc 8) (.loc 7))])
(.seq (.cond (.loc 9)
.skip
(.exit 0))
(.seq (.block 1
(.seq (.region [o_ (.indexAddrS 5 (.loc 6) (.loc 8)),o_ (.loadN 5 (.reg 0)),o_ (.allocL 3 [(.int .i64 0),(.int .i64 0),(.str []),(.sl .nil []),(.int .i64 0)]),o_ (.store 5 (.reg 2) (.reg 1))])
(.seq (.region [o_ (.loadN 5 (.loc 3)),o_ (.call true false 34 [(.reg 0)]),o_ (.un .not (.reg 1)),o_ (.mov (.reg 2)),⟨.loadN 5 (.loc 3),none,(some (3,false))⟩,⟨.call true false 35 [(.reg 4)],none,(some (3,false))⟩,⟨.un .not (.reg 5),none,(some (3,false))⟩,s_ 10 (.pick (.reg 3) (.cst (.bool true)) (.reg 6))])
(.cond (.loc 10)
(.seq (.region [s_ 2 (.mov (i_ 2))])
.ret)
.skip))))
(.region [o_ (.bin .add (.loc 8) (i_ 1)),s_ 8 (.mov (.reg 0))]))))
def t11 : TFunc := ⟨1,11,[.loc 2],
(.seq (.region [o_ (.boxL 1 (.loc 0)),s_ 2 (.mov (i_ 0))])
(.seq (.seq (.region [o_ (.fieldAddr 5 (.loc 1)),o_ (.load1 (.reg 0)),o_ (.bin .lss (.reg 1) (i_ 0)),o_ (.mov (.reg 2)),⟨.fieldAddr 5 (.loc 1),none,(some (3,false))⟩,⟨.load1 (.reg 4),none,(some (3,false))⟩,⟨.bin .gtr (.reg 5) (i_ 20000),none,(some (3,false))⟩,o_ (.pick (.reg 3) (.cst (.bool true)) (.reg 6)),o_ (.mov (.reg 7)),⟨.fieldAddr 6 (.loc 1),none,(some (8,false))⟩,⟨.load1 (.reg 9),none,(some (8,false))⟩,⟨.bin .lss (.reg 10) (i_ 0),none,(some (8,false))⟩,s_ 5 (.pick (.reg 8) (.cst (.bool true)) (.reg 11))])
(.cond (.loc 5)
(.seq (.region [s_ 2 (.mov (i_ 2))])
.ret)
.skip))
(.seq (.seq (.region [o_ (.fieldAddr 7 (.loc 1)),s_ 6 (.load1 (.reg 0)),s_ 7 (.len .sl (.reg 1)),s_ 8 (.mov (i_ 0))])
(.block 0
(.loop t11L0)))
(.seq (.region [o_ (.loadN 8 (.loc 1)),o_ (.mkMap),o_ (.mkMap),o_ (.mkMap),o_ (.build [(.int .i64 0),(.int .i64 0),(.sl .nil []),(.bool false),(.sl .nil []),(.int .i64 0),(.int .i64 0),(.sl .nil []),.nilm,.nilm,.nilm] [(0,8,(.reg 0)),(8,1,(.reg 1)),(9,1,(.reg 2)),(10,1,(.reg 3))]),o_ (.boxH 89 (.reg 4)),s_ 4 (.mov (.reg 5))])
(.seq (.region [o_ (.mov (.loc 4)),o_ (.fieldAddr 0 (.loc 1)),o_ (.loadN 5 (.reg 1)),o_ (.call false false 36 [(.reg 0),(.reg 2),(i_ 0)]),s_ 2 (.mov (.reg 3))])
.ret)))))⟩
theorem c11 : compFunc Tryd.prog opts a11 Tryd.f11 = some t11 := by kernel_rfl
def a13 : Ann := { slots := [0,1,2,4,5,8,17],lb := [2],mu := [],trunc := [],draws := [] }
def t13L0 : TCode := (.seq (.seq (.region [o_ (.mov (.loc 4)),o_ (.fieldAddr 4 (.loc 2)),o_ (.load1 (.reg 1)),o_ (.len .sl (.reg 2)),s_ 6 (.bin .lss (.reg 0) (.reg 3))])
(.cond (.loc 6)
.skip
(.exit 0)))
(.seq (.block 1
(.region [o_ (.fieldAddr 4 (.loc 2)),o_ (.load1 (.reg 0)),o_ (.mov (.loc 4)),o_ (.indexAddrS 5 (.reg 1) (.reg 2)),o_ (.loadN 5 (.reg 3)),o_ (.mov (.loc 1)),o_ (.call false false 13 [(.reg 4),(.reg 5)]),s_ 1 (.mov (.reg 6))]))
(.region [o_ (.mov (.loc 4)),o_ (.bin .add (.reg 0) (i_ 1)),s_ 4 (.mov (.reg 1))])))
def t13 : TFunc := ⟨2,7,[.loc 3],
(.seq (.region [o_ (.boxL 2 (.loc 0)),s_ 3 (.mov (.cst (.sl .nil [])))])
(.seq (.seq (.region [o_ (.fieldAddr 0 (.loc 2)),o_ (.load1 (.reg 0)),s_ 5 (.bin .eql (.reg 1) (i_ 7))])
(.cond (.loc 5)
(.region [o_ (.mov (.loc 1)),o_ (.loadN 5 (.loc 2)),o_ (.lit false [(.int .i64 0),(.int .i64 0),(.sl .nil []),(.bool false),(.sl .nil [])] 1 [(0,(.reg 1))]),o_ (.append false 5 72 25 (.reg 0) (.reg 2)),s_ 1 (.mov (.reg 3))])
.skip))
(.seq (.seq (.region [s_ 4 (.mov (i_ 0))])
(.block 0
(.loop t13L0)))
(.seq (.region [o_ (.mov (.loc 1)),s_ 3 (.mov (.reg 0))])
.ret))))⟩
theorem c13 : compFunc Tryd.prog opts a13 Tryd.f13 = some t13 := by kernel_rfl
def a14 : Ann := { slots := [0,1,4,5,9,17],lb := [],mu := [],trunc := [],draws := [] }
def t14L0 : TCode := (.seq (.seq (.region [o_ (.mov (.loc 3)),o_ (.mov (.loc 0)),o_ (.len .sl (.reg 1)),s_ 4 (.bin .lss (.reg 0) (.reg 2))])
(.cond (.loc 4)
.skip
(.exit 0)))
(.seq (.block 1
(.seq (.region [o_ (.mov (.loc 0)),o_ (.mov (.loc 3)),o_ (.indexAddrS 1 (.reg 0) (.reg 1)),o_ (.load1 (.reg 2)),o_ (.mov (.loc 1)),s_ 5 (.bin .eql (.reg 3) (.reg 4))])
(.cond (.loc 5)
(.seq (.region [s_ 2 (.mov (.cst (.bool true)))])
.ret)
.skip)))
(.region [o_ (.mov (.loc 3)),o_ (.bin .add (.reg 0) (i_ 1)),s_ 3 (.mov (.reg 1))])))
def t14 : TFunc := ⟨2,6,[.loc 2],
(.seq (.region [s_ 2 (.mov (.cst (.bool false)))])
(.seq (.seq (.region [s_ 3 (.mov (i_ 0))])
(.block 0
(.loop t14L0)))
(.seq (.region [s_ 2 (.mov (.cst (.bool false)))])
.ret)))⟩
theorem c14 : compFunc Tryd.prog opts a14 Tryd.f14 = some t14 := by kernel_rfl
def a15 : Ann := { slots := [0,1,4,5,10,14,25],lb := [],mu := [],trunc := [],draws := [(6,⟨[0,0,3,7,0,0,48,112,255],[0,1,2,3,4,5,6,7,8],[]⟩)] }
def t15L0 : TCode := (.seq (.seq (.region [o_ (.mov (.loc 3)),o_ (.mov (.loc 0)),o_ (.len .sl (.reg 1)),s_ 5 (.bin .lss (.reg 0) (.reg 2))])
(.cond (.loc 5)
.skip
(.exit 0)))
(.seq (.block 1
(.seq (.draw [0,1,2,3,4,5,6,7,8] [] [o_ (.mov (.loc 0)),o_ (.mov (.loc 3)),o_ (.indexAddrS 1 (.reg 0) (.reg 1)),o_ (.load1 (.reg 2)),o_ (.mov (.loc 1)),o_ (.mov (.loc 3)),o_ (.indexAddrS 1 (.reg 4) (.reg 5)),o_ (.load1 (.reg 6)),s_ 6 (.bin .neq (.reg 3) (.reg 7))])
(.cond (.loc 6)
(.seq (.region [s_ 2 (.mov (.cst (.bool false)))])
.ret)
.skip)))
(.region [o_ (.mov (.loc 3)),o_ (.bin .add (.reg 0) (i_ 1)),s_ 3 (.mov (.reg 1))])))
def t15 : TFunc := ⟨2,7,[.loc 2],
(.seq (.region [s_ 2 (.mov (.cst (.bool false)))])
(.seq (.seq (.region [o_ (.mov (.loc 0)),o_ (.len .sl (.reg 0)),o_ (.mov (.loc 1)),o_ (.len .sl (.reg 2)),s_ 4 (.bin .neq (.reg 1) (.reg 3))])
(.cond (.loc 4)
(.seq (.region [s_ 2 (.mov (.cst (.bool false)))])
.ret)
.skip))
(.seq (.seq (.region [s_ 3 (.mov (i_ 0))])
(.block 0
(.loop t15L0)))
(.seq (.region [s_ 2 (.mov (.cst (.bool true)))])
.ret))))⟩
theorem c15 : compFunc Tryd.prog opts a15 Tryd.f15 = some t15 := by kernel_rfl
def a17 : Ann := { slots := [0,1,2,3],lb := [1],mu := [],trunc := [],draws := [] }
def t17 : TFunc := ⟨1,4,[.loc 2],
(.seq (.region [o_ (.boxL 1 (.loc 0)),s_ 2 (.mov (.cst (.sl .nil [])))])
(.seq (.region [o_ (.mkMap),s_ 3 (.allocH 87 [.nilm]),o_ (.store 1 (.reg 1) (.reg 0))])
(.seq (.region [o_ (.loadN 5 (.loc 1)),o_ (.mkFn 41 [] [(.loc 3)]),o_ (.call false false 40 [(.reg 0),(.reg 1)])])
(.seq (.region [o_ (.load1 (.loc 3)),o_ (.prim 42 [(.reg 0)]),s_ 2 (.mov (.reg 1))])
.ret))))⟩
theorem c17 : compFunc Tryd.prog opts a17 Tryd.f17 = some t17 := by kernel_rfl
def a18 : Ann := { slots := [0,1,2,4,5,11,20],lb := [2],mu := [],trunc := [],draws := [] }
def t18L0 : TCode := (.seq (.seq (.region [o_ (.mov (.loc 4)),o_ (.fieldAddr 4 (.loc 2)),o_ (.load1 (.reg 1)),o_ (.len .sl (.reg 2)),o_ (.bin .lss (.reg 0) (.reg 3)),o_ (.mov (.reg 4)),⟨.mov (.loc 1),none,(some (5,true))⟩,⟨.bin .gtr (.reg 6) (i_ 0),none,(some (5,true))⟩,s_ 6 (.pick (.reg 5) (.reg 7) (.cst (.bool false)))])
(.cond (.loc 6)
.skip
(.exit 0)))
(.seq (.block 1
(.region [o_ (.fieldAddr 4 (.loc 2)),o_ (.load1 (.reg 0)),o_ (.mov (.loc 4)),o_ (.indexAddrS 5 (.reg 1) (.reg 2)),o_ (.loadN 5 (.reg 3)),o_ (.mov (.loc 1)),o_ (.call false false 18 [(.reg 4),(.reg 5)]),s_ 1 (.mov (.reg 6))]))
(.region [o_ (.mov (.loc 4)),o_ (.bin .add (.reg 0) (i_ 1)),s_ 4 (.mov (.reg 1))])))
def t18 : TFunc := ⟨2,7,[.loc 3],
(.seq (.region [o_ (.boxL 2 (.loc 0)),s_ 3 (.mov (i_ 0))])
(.seq (.region [o_ (.mov (.loc 1)),o_ (.bin .sub (.reg 0) (i_ 1)),s_ 1 (.mov (.reg 1))])
(.seq (.seq (.region [o_ (.fieldAddr 2 (.loc 2)),o_ (.load1 (.reg 0)),o_ (.len .sl (.reg 1)),s_ 5 (.bin .gtr (.reg 2) (i_ 100))])
(.cond (.loc 5)
(.seq (.region [s_ 3 (.mov (i_ 0))])
.ret)
.skip))
(.seq (.seq (.region [s_ 4 (.mov (i_ 0))])
(.block 0
(.loop t18L0)))
(.seq (.region [o_ (.mov (.loc 1)),s_ 3 (.mov (.reg 0))])
.ret)))))⟩
theorem c18 : compFunc Tryd.prog opts a18 Tryd.f18 = some t18 := by kernel_rfl
def a19 : Ann := { slots := [0,1,2],lb := [1],mu := [],trunc := [],draws := [] }
def t19 : TFunc := ⟨1,3,[.loc 2],
(.seq (.region [o_ (.boxL 1 (.loc 0)),s_ 2 (.mov (.cst (.bool false)))])
(.seq (.region [o_ (.fieldAddr 0 (.loc 1)),o_ (.load1 (.reg 0)),o_ (.bin .eql (.reg 1) (i_ 4)),o_ (.mov (.reg 2)),⟨.fieldAddr 4 (.loc 1),none,(some (3,false))⟩,⟨.load1 (.reg 4),none,(some (3,false))⟩,⟨.call false false 43 [(.reg 5),(.fn 19)],none,(some (3,false))⟩,o_ (.pick (.reg 3) (.cst (.bool true)) (.reg 6)),s_ 2 (.mov (.reg 7))])
.ret))⟩
theorem c19 : compFunc Tryd.prog opts a19 Tryd.f19 = some t19 := by kernel_rfl
def a20 : Ann := { slots := [0,1,3,4],lb := [3],mu := [(1,7)],trunc := [],draws := [(1,⟨[0,0,2,6,14,0,32,126,255,511,1023],[0,1,2,3,4,5,6],[(7,[],[8,9]),(10,[],[])]⟩)] }
def t20 : TFunc := ⟨2,4,[.loc 3],
(.seq (.region [o_ (.boxL 2 (.loc 1)),s_ 3 (.mov (i_ 0))])
(.seq (.draw [0,1,2,3,4,5,6] [(7,[],[8,9]),(10,[],[])] [o_ (.mov (.loc 0)),o_ (.mov (.loc 0)),o_ (.nilCheck (.reg 1)),o_ (.fieldAddr 0 (.reg 2)),o_ (.load1 (.reg 3)),o_ (.loadN 11 (.loc 2)),o_ (.lit false [(.sl .nil []),(.bool false),(.bool false),(.sl .nil []),(.int .i64 0),(.int .i64 0),(.int .i64 0),(.int .i64 0),(.int .i64 0),(.sl .nil []),(.sl .nil [])] 1 [(0,(.reg 5))]),o_ (.append true 11 144 47 (.reg 4) (.reg 6)),o_ (.nilCheck (.reg 0)),o_ (.fieldAddr 0 (.reg 8)),o_ (.store 1 (.reg 9) (.reg 7))])
(.seq (.region [o_ (.mov (.loc 0)),o_ (.nilCheck (.reg 0)),o_ (.fieldAddr 0 (.reg 1)),o_ (.load1 (.reg 2)),o_ (.len .sl (.reg 3)),o_ (.bin .sub (.reg 4) (i_ 1)),s_ 3 (.mov (.reg 5))])
.ret)))⟩
theorem c20 : compFunc Tryd.prog opts a20 Tryd.f20 = some t20 := by kernel_rfl
def a21 : Ann := { slots := [0,2],lb := [],mu := [],trunc := [],draws := [] }
def t21 : TFunc := ⟨1,2,[.loc 1],
(.seq (.region [s_ 1 (.mov (i_ 0))])
(.seq (.region [o_ (.mov (.loc 0)),o_ (.nilCheck (.reg 0)),o_ (.fieldAddr 1 (.reg 1)),o_ (.load1 (.reg 2)),o_ (.bin .add (.reg 3) (i_ 1)),o_ (.nilCheck (.reg 0)),o_ (.fieldAddr 1 (.reg 5)),o_ (.store 1 (.reg 6) (.reg 4))])
(.seq (.region [o_ (.mov (.loc 0)),o_ (.nilCheck (.reg 0)),o_ (.fieldAddr 1 (.reg 1)),o_ (.load1 (.reg 2)),o_ (.bin .sub (.reg 3) (i_ 1)),s_ 1 (.mov (.reg 4))])
.ret)))⟩
theorem c21 : compFunc Tryd.prog opts a21 Tryd.f21 = some t21 := by kernel_rfl
def a22 : Ann := { slots := [0,1,4,5,6],lb := [4],mu := [],trunc := [],draws := [] }
def t22 : TFunc := ⟨2,5,[.cell 2 14 true,.loc 3],
(.seq (.region [o_ (.allocL 2 [(.int .i64 0),(.int .i64 0),(.int .i64 0),(.int .i64 0),(.int .i64 0),(.int .i64 0),(.sl .nil []),(.sl .nil []),(.int .i64 0),(.int .i64 0),(.sl .nil []),(.bool false),(.sl .nil []),(.int .i64 0)]),s_ 3 (.mov (i_ 0))])
(.seq (.region [o_ (.mov (.loc 0)),o_ (.call false false 21 [(.reg 0)]),s_ 4 (.mov (.reg 1))])
(.seq (.region [o_ (.mov (.loc 4)),o_ (.mov (.loc 1)),o_ (.build [(.int .i64 0),(.int .i64 0),(.int .i64 0),(.int .i64 0),(.int .i64 0),(.sl .nil []),(.sl .nil [])] [(0,1,(i_ 2)),(1,1,(.reg 0)),(4,1,(.reg 1))]),o_ (.mov (.loc 4)),o_ (.build [(.int .i64 0),(.int .i64 0),(.int .i64 0),(.int .i64 0),(.int .i64 0),(.int .i64 0),(.sl .nil []),(.sl .nil []),(.int .i64 0),(.int .i64 0),(.sl .nil []),(.bool false),(.sl .nil []),(.int .i64 0)] [(1,7,(.reg 2)),(13,1,(.reg 3))]),o_ (.mov (.loc 4)),o_ (.store 14 (.loc 2) (.reg 4)),s_ 3 (.mov (.reg 5))])
.ret)))⟩
theorem c22 : compFunc Tryd.prog opts a22 Tryd.f22 = some t22 := by kernel_rfl
def a23 : Ann := { slots := [0,1,2,3,5,6,8,9,10,11,12,14,15,16,19],lb := [6],mu := [],trunc := [],draws := [(9,⟨[0,0,2,0,8,31,63,127,255,511],[0,1,2,3],[(4,[0,2],[]),(5,[],[6,7,8]),(9,[],[])]⟩)] }
def t23 : TFunc := ⟨3,15,[.cell 5 7 true],
(.seq (.region [s_ 3 (.boxH 62 (.loc 0)),s_ 4 (.boxH 46 (.loc 2)),o_ (.allocL 5 [(.int .i64 0),(.int .i64 0),(.int .i64 0),(.int .i64 0),(.int .i64 0),(.sl .nil []),(.sl .nil [])])])
(.seq (.seq (.region [o_ (.mov (.loc 1)),s_ 11 (.call false false 44 [(.reg 0)])])
(.block 0
(.rangeFunc (.loc 11) [12,13]
(.region [s_ 6 (.allocH 68 [(.int .i64 0),(.int .i64 0),(.int .i64 0),(.int .i64 0),(.int .i64 0),(.int .i64 0),(.sl .nil []),(.sl .nil []),(.int .i64 0),(.int .i64 0),(.sl .nil []),(.bool false),(.sl .nil []),(.int .i64 0)]),o_ (.store 14 (.reg 0) (.loc 13))])
(.block 1
(.seq (.seq (.region [o_ (.fieldAddr 0 (.loc 6)),o_ (.load1 (.reg 0)),s_ 14 (.bin .eql (.reg 1) (i_ 0))])
(.cond (.loc 14)
(.seq (.region [o_ (.fieldAddr 1 (.loc 6)),o_ (.loadN 7 (.reg 0)),s_ 7 (.allocH 46 [(.int .i64 0),(.int .i64 0),(.int .i64 0),(.int .i64 0),(.int .i64 0),(.sl .nil []),(.sl .nil [])]),o_ (.store 7 (.reg 2) (.reg 1))])
(.seq (.region [o_ (.loadN 7 (.loc 4)),o_ (.lit false [(.int .i64 0),(.int .i64 0),(.int .i64 0),(.int .i64 0),(.int .i64 0),(.sl .nil []),(.sl .nil [])] 1 [(0,(.reg 0))]),o_ (.fieldAddr 6 (.loc 7)),o_ (.store 1 (.reg 2) (.reg 1))])
(.seq (.region [o_ (.loadN 7 (.loc 7)),o_ (.store 7 (.loc 4) (.reg 0))])
(.exit 1))))
.skip))
(.seq (.region [o_ (.load1 (.loc 3)),o_ (.fieldAddr 13 (.loc 6)),o_ (.load1 (.reg 1)),o_ (.lit false [(.int .i64 0)] 1 [(0,(.reg 2))]),o_ (.loadN 7 (.loc 4)),o_ (.build [(.sl .nil []),(.bool false),(.bool false),(.sl .nil []),(.int .i64 0),(.int .i64 0),(.int .i64 0),(.int .i64 0),(.int .i64 0),(.sl .nil []),(.sl .nil [])] [(0,1,(.reg 3)),(2,1,(.cst (.bool true))),(4,7,(.reg 4))]),o_ (.call false false 20 [(.reg 0),(.reg 5)]),s_ 8 (.mov (.reg 6))])
(.seq (.region [o_ (.load1 (.loc 3)),o_ (.mov (.loc 8)),o_ (.call false false 22 [(.reg 0),(.reg 1)]),o_ (.mov (.reg 2)),o_ (.extract 0 (.reg 3)),o_ (.extract 1 (.reg 3)),s_ 9 (.allocH 68 [(.int .i64 0),(.int .i64 0),(.int .i64 0),(.int .i64 0),(.int .i64 0),(.int .i64 0),(.sl .nil []),(.sl .nil []),(.int .i64 0),(.int .i64 0),(.sl .nil []),(.bool false),(.sl .nil []),(.int .i64 0)]),o_ (.store 14 (.reg 6) (.reg 4)),s_ 10 (.mov (.reg 5))])
(.seq (.draw [0,1,2,3] [(4,[0,2],[]),(5,[],[6,7,8]),(9,[],[])] [o_ (.load1 (.loc 3)),o_ (.fieldAddr 8 (.loc 6)),o_ (.loadN 5 (.reg 1)),o_ (.mov (.loc 10)),o_ (.call true false 25 [(.reg 3)]),o_ (.call false false 24 [(.reg 0),(.reg 2),(.reg 4)]),o_ (.lit false [(.int .i64 0),(.int .i64 0),(.int .i64 0),(.int .i64 0),(.int .i64 0),(.sl .nil []),(.sl .nil [])] 1 [(0,(.reg 5))]),o_ (.fieldAddr 1 (.loc 9)),o_ (.fieldAddr 6 (.reg 7)),o_ (.store 1 (.reg 8) (.reg 6))])
(.region [o_ (.fieldAddr 1 (.loc 9)),o_ (.loadN 7 (.reg 0)),o_ (.store 7 (.loc 4) (.reg 1))])))))))))
(.seq (.region [o_ (.loadN 7 (.loc 4)),o_ (.store 7 (.loc 5) (.reg 0))])
.ret)))⟩
theorem c23 : compFunc Tryd.prog opts a23 Tryd.f23 = some t23 := by kernel_rfl
def a24 : Ann := { slots := [0,1,2,4,5,6,7,8,9,10,11,12,13,15,16,37,70,77],lb := [13,10,6,5,4],mu := [],trunc := [],draws := [(4,⟨[0,0,0,4,0,16,0,64,252,508,1020,2047,4095],[0,1,2,3,4,5,6,7,8],[(9,[],[]),(10,[],[]),(11,[],[]),(12,[],[])]⟩),(7,⟨[0,0,2,6,14,0,63,0,0,256,768,1792,0,8191,16383,32767],[0,1,2,3,4,5,7,8,9,10,11,12],[(6,[9,11,12],[]),(13,[],[14,15])]⟩)] }
def t24 : TFunc := ⟨3,18,[.cell 5 7 true],
(.seq (.region [o_ (.boxL 3 (.loc 1)),o_ (.boxL 4 (.loc 2)),o_ (.allocL 5 [(.int .i64 0),(.int .i64 0),(.int .i64 0),(.int .i64 0),(.int .i64 0),(.sl .nil []),(.sl .nil [])])])
(.seq (.seq (.region [o_ (.fieldAddr 0 (.loc 3)),s_ 13 (.load1 (.reg 0))])
(.block 0
(.seq (.region [o_ (.bin .eql (.loc 13) (i_ 8)),s_ 14 (.mov (.reg 0))])
(.cond (.loc 14)
(.seq (.region [o_ (.mov (.loc 0)),o_ (.fieldAddr 4 (.loc 3)),o_ (.load1 (.reg 1)),o_ (.call false false 45 [(.reg 0),(.reg 2)]),o_ (.mov (.reg 3)),o_ (.extract 0 (.reg 4)),o_ (.extract 1 (.reg 4)),s_ 6 (.mov (.reg 5)),s_ 7 (.mov (.reg 6))])
(.seq (.draw [0,1,2,3,4,5,6,7,8] [(9,[],[]),(10,[],[]),(11,[],[]),(12,[],[])] [o_ (.mov (.loc 0)),o_ (.mov (.loc 6)),o_ (.mov (.loc 7)),o_ (.slice (.sl 2) (.reg 2) none (some (i_ 1)) none),o_ (.loadN 2 (.loc 4)),o_ (.lit false [(.int .i64 0),(.int .i64 0)] 1 [(0,(.reg 4))]),o_ (.mov (.loc 7)),o_ (.slice (.sl 2) (.reg 6) (some (i_ 1)) none none),o_ (.lit false [(.sl .nil [])] 3 [(0,(.reg 3)),(1,(.reg 5)),(2,(.reg 7))]),o_ (.call false false 47 [(.reg 8)]),o_ (.call false false 46 [(.reg 9)]),o_ (.call false false 23 [(.reg 0),(.reg 1),(.reg 10)]),o_ (.store 7 (.loc 5) (.reg 11))])
.ret))
(.seq (.region [o_ (.bin .eql (.loc 13) (i_ 6)),s_ 15 (.mov (.reg 0))])
(.cond (.loc 15)
(.seq (.region [o_ (.mov (.loc 0)),o_ (.fieldAddr 4 (.loc 3)),o_ (.load1 (.reg 1)),o_ (.indexAddrS 5 (.reg 2) (i_ 0)),o_ (.loadN 5 (.reg 3)),o_ (.call false false 48 [(.reg 0),(.reg 4)]),o_ (.mov (.reg 5)),o_ (.extract 0 (.reg 6)),o_ (.extract 1 (.reg 6)),o_ (.allocL 9 [(.int .i64 0),(.int .i64 0)]),s_ 8 (.mov (.reg 7)),o_ (.store 2 (.reg 9) (.reg 8))])
(.seq (.draw [0,1,2,3,4,5,7,8,9,10,11,12] [(6,[9,11,12],[]),(13,[],[14,15])] [o_ (.mov (.loc 0)),o_ (.fieldAddr 4 (.loc 3)),o_ (.load1 (.reg 1)),o_ (.indexAddrS 5 (.reg 2) (i_ 1)),o_ (.loadN 5 (.reg 3)),o_ (.loadN 2 (.loc 4)),o_ (.call false false 24 [(.reg 0),(.reg 4),(.reg 5)]),o_ (.mov (.loc 0)),o_ (.fieldAddr 4 (.loc 3)),o_ (.load1 (.reg 8)),o_ (.indexAddrS 5 (.reg 9) (i_ 2)),o_ (.loadN 5 (.reg 10)),o_ (.loadN 2 (.loc 4)),o_ (.call false false 24 [(.reg 7),(.reg 11),(.reg 12)]),o_ (.lit false [(.int .i64 0),(.int .i64 0),(.int .i64 0),(.int .i64 0),(.int .i64 0),(.sl .nil []),(.sl .nil [])] 2 [(0,(.reg 6)),(1,(.reg 13))]),s_ 10 (.mov (.reg 14))])
(.seq (.region [o_ (.mov (.loc 0)),o_ (.mov (.loc 8)),o_ (.loadN 2 (.loc 9)),o_ (.lit false [(.int .i64 0),(.int .i64 0)] 1 [(0,(.reg 2))]),o_ (.mov (.loc 10)),o_ (.build [(.int .i64 0),(.int .i64 0),(.int .i64 0),(.int .i64 0),(.int .i64 0),(.sl .nil []),(.sl .nil [])] [(0,1,(i_ 3)),(5,1,(.reg 3)),(6,1,(.reg 4))]),o_ (.call false false 23 [(.reg 0),(.reg 1),(.reg 5)]),o_ (.store 7 (.loc 5) (.reg 6))])
.ret)))
(.seq (.region [o_ (.bin .eql (.loc 13) (i_ 10)),s_ 16 (.mov (.reg 0))])
(.cond (.loc 16)
(.seq (.region [o_ (.mov (.loc 0)),o_ (.fieldAddr 4 (.loc 3)),o_ (.load1 (.reg 1)),o_ (.loadN 2 (.loc 4)),o_ (.call false false 49 [(.reg 0),(.reg 2),(.reg 3)]),o_ (.store 7 (.loc 5) (.reg 4))])
.ret)
(.seq (.region [o_ (.bin .eql (.loc 13) (i_ 11)),s_ 17 (.mov (.reg 0))])
(.cond (.loc 17)
(.seq (.region [o_ (.mov (.loc 0)),o_ (.loadN 5 (.loc 3)),o_ (.loadN 2 (.loc 4)),o_ (.call false false 50 [(.reg 0),(.reg 1),(.reg 2)]),o_ (.store 7 (.loc 5) (.reg 3))])
.ret)
.skip))))))))))
(.seq (.region [o_ (.mov (.loc 0)),o_ (.loadN 5 (.loc 3)),o_ (.call false false 48 [(.reg 0),(.reg 1)]),o_ (.mov (.reg 2)),o_ (.extract 0 (.reg 3)),o_ (.extract 1 (.reg 3)),o_ (.allocL 12 [(.int .i64 0),(.int .i64 0)]),s_ 11 (.mov (.reg 4)),o_ (.store 2 (.reg 6) (.reg 5))])
(.seq (.region [o_ (.mov (.loc 0)),o_ (.mov (.loc 11)),o_ (.loadN 2 (.loc 4)),o_ (.loadN 2 (.loc 12)),o_ (.lit false [(.int .i64 0),(.int .i64 0)] 2 [(0,(.reg 2)),(1,(.reg 3))]),o_ (.call false false 46 [(.reg 4)]),o_ (.call false false 23 [(.reg 0),(.reg 1),(.reg 5)]),o_ (.store 7 (.loc 5) (.reg 6))])
.ret))))⟩
theorem c24 : compFunc Tryd.prog opts a24 Tryd.f24 = some t24 := by kernel_rfl
def a25 : Ann := { slots := [0,2],lb := [2],mu := [],trunc := [],draws := [] }
def t25 : TFunc := ⟨1,2,[.cell 1 2 true],
(.seq (.region [o_ (.allocL 1 [(.int .i64 0),(.int .i64 0)])])
(.seq (.region [o_ (.mov (.loc 0)),o_ (.build [(.int .i64 0),(.int .i64 0)] [(0,1,(i_ 1)),(1,1,(.reg 0))]),o_ (.store 2 (.loc 1) (.reg 1))])
.ret))⟩
theorem c25 : compFunc Tryd.prog opts a25 Tryd.f25 = some t25 := by kernel_rfl
def a34 : Ann := { slots := [0,1,2,4,10,17],lb := [1],mu := [],trunc := [],draws := [] }
def t34L0 : TCode := (.seq (.seq (.region [o_ (.loadN 5 (.loc 1)),s_ 3 (.call false false 56 [(.reg 0)])])
(.cond (.loc 3)
.skip
(.exit 0)))
(.block 1
(.seq (.seq (.region [o_ (.fieldAddr 3 (.loc 1)),o_ (.load1 (.reg 0)),o_ (.indexAddrS 5 (.reg 1) (i_ 0)),o_ (.loadN 5 (.reg 2)),o_ (.call true false 34 [(.reg 3)]),s_ 4 (.un .not (.reg 4))])
(.cond (.loc 4)
(.seq (.region [s_ 2 (.mov (.cst (.bool false)))])
.ret)
.skip))
(.region [o_ (.fieldAddr 3 (.loc 1)),o_ (.load1 (.reg 0)),o_ (.indexAddrS 5 (.reg 1) (i_ 1)),o_ (.loadN 5 (.reg 2)),o_ (.store 5 (.loc 1) (.reg 3))]))))
def t34 : TFunc := ⟨1,6,[.loc 2],
(.seq (.region [o_ (.boxL 1 (.loc 0)),s_ 2 (.mov (.cst (.bool false)))])
(.seq (.block 0
(.loop t34L0))
(.seq (.seq (.region [o_ (.fieldAddr 0 (.loc 1)),o_ (.load1 (.reg 0)),s_ 5 (.bin .eql (.reg 1) (i_ 7))])
(.cond (.loc 5)
(.seq (.region [o_ (.fieldAddr 3 (.loc 1)),o_ (.load1 (.reg 0)),o_ (.call false false 57 [(.reg 1),(.fn 58)]),o_ (.un .not (.reg 2)),s_ 2 (.mov (.reg 3))])
.ret)
.skip))
(.seq (.region [o_ (.fieldAddr 3 (.loc 1)),o_ (.load1 (.reg 0)),o_ (.len .sl (.reg 1)),o_ (.bin .eql (.reg 2) (i_ 0)),o_ (.mov (.reg 3)),⟨.loadN 5 (.loc 1),none,(some (4,true))⟩,⟨.call true false 59 [(.reg 5)],none,(some (4,true))⟩,o_ (.pick (.reg 4) (.reg 6) (.cst (.bool false))),s_ 2 (.mov (.reg 7))])
.ret))))⟩
theorem c34 : compFunc Tryd.prog opts a34 Tryd.f34 = some t34 := by kernel_rfl
def a35 : Ann := { slots := [0,1,2,11,17,29],lb := [1],mu := [],trunc := [],draws := [] }
def t35L0 : TCode := (.seq (.seq (.region [o_ (.fieldAddr 0 (.loc 1)),o_ (.load1 (.reg 0)),o_ (.bin .eql (.reg 1) (i_ 6)),o_ (.mov (.reg 2)),⟨.fieldAddr 3 (.loc 1),none,(some (3,true))⟩,⟨.load1 (.reg 4),none,(some (3,true))⟩,⟨.len .sl (.reg 5),none,(some (3,true))⟩,⟨.bin .eql (.reg 6) (i_ 2),none,(some (3,true))⟩,s_ 3 (.pick (.reg 3) (.reg 7) (.cst (.bool false)))])
(.cond (.loc 3)
.skip
(.exit 0)))
(.block 1
(.seq (.seq (.region [o_ (.fieldAddr 3 (.loc 1)),o_ (.load1 (.reg 0)),o_ (.indexAddrS 5 (.reg 1) (i_ 0)),o_ (.loadN 5 (.reg 2)),o_ (.call true false 35 [(.reg 3)]),s_ 4 (.un .not (.reg 4))])
(.cond (.loc 4)
(.seq (.region [s_ 2 (.mov (.cst (.bool false)))])
.ret)
.skip))
(.region [o_ (.fieldAddr 3 (.loc 1)),o_ (.load1 (.reg 0)),o_ (.indexAddrS 5 (.reg 1) (i_ 1)),o_ (.loadN 5 (.reg 2)),o_ (.store 5 (.loc 1) (.reg 3))]))))
def t35 : TFunc := ⟨1,6,[.loc 2],
(.seq (.region [o_ (.boxL 1 (.loc 0)),s_ 2 (.mov (.cst (.bool false)))])
(.seq (.block 0
(.loop t35L0))
(.seq (.seq (.region [o_ (.fieldAddr 0 (.loc 1)),o_ (.load1 (.reg 0)),o_ (.bin .eql (.reg 1) (i_ 5)),o_ (.mov (.reg 2)),⟨.fieldAddr 1 (.loc 1),none,(some (3,true))⟩,⟨.load1 (.reg 4),none,(some (3,true))⟩,⟨.bin .neq (.reg 5) (i_ 0),none,(some (3,true))⟩,s_ 5 (.pick (.reg 3) (.reg 6) (.cst (.bool false)))])
(.cond (.loc 5)
(.seq (.region [s_ 2 (.mov (.cst (.bool false)))])
.ret)
.skip))
(.seq (.region [o_ (.fieldAddr 3 (.loc 1)),o_ (.load1 (.reg 0)),o_ (.call false false 57 [(.reg 1),(.fn 60)]),o_ (.un .not (.reg 2)),s_ 2 (.mov (.reg 3))])
.ret))))⟩
theorem c35 : compFunc Tryd.prog opts a35 Tryd.f35 = some t35 := by kernel_rfl
def a36 : Ann := { slots := [0,1,2,4,6,8,10,11,13,14,17,23,24,25,26,36,52,61,87,89,90,91,92,101,105,106,107,108],lb := [10,4],mu := [],trunc := [],draws := [(14,⟨[0,1,3,7,0,16,63,127,255],[0,1,2,3,4,5,6,7,8],[]⟩),(16,⟨[0,1,3,7,0,16,0,127],[0,1,2,3,4,5,6],[(7,[],[])]⟩),(17,⟨[0,1,3,7,15,31,63,127,255,511,1023,2047,4095,511,8703,32767,65535,131071,262143],[0,1,2,3,4,5,6,7,8,9,10,11,12,13,14,15,16,17,18],[]⟩)] }
def t36L0 : TCode := (.seq (.region [s_ 27 (.bin .lss (.loc 26) (.loc 25))])
(.seq (.cond (.loc 27)
.skip
(.exit 5))
(.seq (.block 6
(.seq (.region [o_ (.indexAddrS 1 (.loc 24) (.loc 26)),o_ (.load1 (.reg 0)),s_ 8 (.mov (.reg 1))])
(.region [o_ (.mov (.loc 0)),o_ (.nilCheck (.reg 0)),o_ (.fieldAddr 10 (.reg 1)),o_ (.load1 (.reg 2)),o_ (.mov (.loc 8)),o_ (.build [(.int .i64 0)] []),o_ (.update (.leaf .int) (.reg 3) (.reg 4) (.reg 5))])))
(.region [o_ (.bin .add (.loc 26) (i_ 1)),s_ 26 (.mov (.reg 0))]))))
def t36L1 : TCode := (.seq (.region [s_ 22 (.bin .lss (.loc 21) (.loc 20))])
(.seq (.cond (.loc 22)
.skip
(.exit 3))
(.seq (.block 4
(.seq (.region [o_ (.indexAddrS 5 (.loc 19) (.loc 21)),o_ (.loadN 5 (.reg 0)),o_ (.allocL 6 [(.int .i64 0),(.int .i64 0),(.sl .nil []),(.bool false),(.sl .nil [])]),o_ (.store 5 (.reg 2) (.reg 1))])
(.seq (.region [o_ (.mov (.loc 0)),o_ (.loadN 5 (.loc 6)),o_ (.mov (.loc 2)),o_ (.bin .add (.reg 2) (i_ 1)),o_ (.call false false 36 [(.reg 0),(.reg 1),(.reg 3)]),s_ 7 (.mov (.reg 4))])
(.seq (.region [o_ (.mov (.loc 7)),s_ 23 (.bin .neq (.reg 0) (i_ 0))])
(.cond (.loc 23)
(.seq (.region [o_ (.mov (.loc 7)),s_ 4 (.mov (.reg 0))])
.ret)
.skip)))))
(.region [o_ (.bin .add (.loc 21) (i_ 1)),s_ 21 (.mov (.reg 0))]))))
def t36L2 : TCode := (.seq (.region [s_ 14 (.bin .lss (.loc 13) (.loc 12))])
(.seq (.cond (.loc 14)
.skip
(.exit 1))
(.seq (.block 2
(.seq (.region [o_ (.indexAddrS 1 (.loc 11) (.loc 13)),o_ (.load1 (.reg 0)),s_ 5 (.mov (.reg 1))])
(.seq (.seq (.region [o_ (.mov (.loc 0)),o_ (.nilCheck (.reg 0)),o_ (.fieldAddr 8 (.reg 1)),o_ (.load1 (.reg 2)),o_ (.mov (.loc 5)),o_ (.lookup (.leaf .int) (.agg [(.int .i64 0)]) false (.reg 3) (.reg 4)),o_ (.field 0 1 false (.reg 5)),s_ 15 (.bin .gtr (.reg 6) (i_ 0))])
(.cond (.loc 15)
(.seq (.region [s_ 4 (.mov (i_ 14))])
.ret)
.skip))
(.seq (.region [o_ (.mov (.loc 0)),o_ (.nilCheck (.reg 0)),o_ (.fieldAddr 8 (.reg 1)),o_ (.load1 (.reg 2)),o_ (.mov (.loc 5)),o_ (.build [(.int .i64 0)] [(0,1,(i_ 1))]),o_ (.update (.leaf .int) (.reg 3) (.reg 4) (.reg 5))])
(.region [o_ (.mov (.loc 0)),o_ (.nilCheck (.reg 0)),o_ (.fieldAddr 10 (.reg 1)),o_ (.load1 (.reg 2)),o_ (.mov (.loc 5)),o_ (.build [(.int .i64 0)] [(0,1,(i_ 1))]),o_ (.update (.leaf .int) (.reg 3) (.reg 4) (.reg 5))])))))
(.region [o_ (.bin .add (.loc 13) (i_ 1)),s_ 13 (.mov (.reg 0))]))))
def t36 : TFunc := ⟨3,28,[.loc 4],
(.seq (.region [o_ (.boxL 3 (.loc 1)),s_ 4 (.mov (i_ 0))])
(.seq (.block 0
(.seq (.region [o_ (.mov (.loc 2)),o_ (.bin .geq (.reg 0) (i_ 4000)),s_ 9 (.mov (.reg 1))])
(.cond (.loc 9)
(.seq (.region [s_ 4 (.mov (i_ 5))])
.ret)
(.seq (.region [o_ (.mov (.loc 0)),o_ (.loadN 5 (.loc 3)),o_ (.call false false 61 [(.reg 0),(.reg 1)]),o_ (.un .not (.reg 2)),s_ 10 (.mov (.reg 3))])
(.cond (.loc 10)
(.seq (.region [s_ 4 (.mov (i_ 4))])
.ret)
.skip)))))
(.seq (.seq (.region [o_ (.fieldAddr 2 (.loc 3)),s_ 11 (.load1 (.reg 0)),s_ 12 (.len .sl (.reg 1)),s_ 13 (.mov (i_ 0))])
(.block 1
(.loop t36L2)))
(.seq (.seq (.region [o_ (.fieldAddr 0 (.loc 3)),o_ (.load1 (.reg 0)),s_ 16 (.bin .eql (.reg 1) (i_ 1))])
(.cond (.loc 16)
(.seq (.seq (.draw [0,1,2,3,4,5,6,7,8] [] [o_ (.mov (.loc 0)),o_ (.nilCheck (.reg 0)),o_ (.fieldAddr 9 (.reg 1)),o_ (.load1 (.reg 2)),o_ (.fieldAddr 1 (.loc 3)),o_ (.load1 (.reg 4)),o_ (.lookup (.leaf .int) (.agg [(.int .i64 0)]) false (.reg 3) (.reg 5)),o_ (.field 0 1 false (.reg 6)),s_ 17 (.bin .gtr (.reg 7) (i_ 0))])
(.cond (.loc 17)
(.seq (.region [s_ 4 (.mov (i_ 14))])
.ret)
.skip))
(.draw [0,1,2,3,4,5,6] [(7,[],[])] [o_ (.mov (.loc 0)),o_ (.nilCheck (.reg 0)),o_ (.fieldAddr 9 (.reg 1)),o_ (.load1 (.reg 2)),o_ (.fieldAddr 1 (.loc 3)),o_ (.load1 (.reg 4)),o_ (.build [(.int .i64 0)] [(0,1,(i_ 1))]),o_ (.update (.leaf .int) (.reg 3) (.reg 5) (.reg 6))]))
.skip))
(.seq (.seq (.draw [0,1,2,3,4,5,6,7,8,9,10,11,12,13,14,15,16,17,18] [] [o_ (.fieldAddr 0 (.loc 3)),o_ (.load1 (.reg 0)),o_ (.bin .eql (.reg 1) (i_ 2)),o_ (.mov (.reg 2)),⟨.fieldAddr 0 (.loc 3),none,(some (3,false))⟩,⟨.load1 (.reg 4),none,(some (3,false))⟩,⟨.bin .eql (.reg 5) (i_ 4),none,(some (3,false))⟩,o_ (.pick (.reg 3) (.cst (.bool true)) (.reg 6)),o_ (.mov (.reg 7)),⟨.mov (.loc 0),none,(some (8,true))⟩,⟨.nilCheck (.reg 9),none,(some (8,true))⟩,⟨.fieldAddr 10 (.reg 10),none,(some (8,true))⟩,⟨.load1 (.reg 11),none,(some (8,true))⟩,⟨.fieldAddr 1 (.loc 3),none,(some (8,true))⟩,⟨.load1 (.reg 13),none,(some (8,true))⟩,⟨.lookup (.leaf .int) (.agg [(.int .i64 0)]) false (.reg 12) (.reg 14),none,(some (8,true))⟩,⟨.field 0 1 false (.reg 15),none,(some (8,true))⟩,⟨.bin .eql (.reg 16) (i_ 0),none,(some (8,true))⟩,s_ 18 (.pick (.reg 8) (.reg 17) (.cst (.bool false)))])
(.cond (.loc 18)
(.seq (.region [s_ 4 (.mov (i_ 6))])
.ret)
.skip))
(.seq (.seq (.region [o_ (.fieldAddr 4 (.loc 3)),s_ 19 (.load1 (.reg 0)),s_ 20 (.len .sl (.reg 1)),s_ 21 (.mov (i_ 0))])
(.block 3
(.loop t36L1)))
(.seq (.seq (.region [o_ (.fieldAddr 2 (.loc 3)),s_ 24 (.load1 (.reg 0)),s_ 25 (.len .sl (.reg 1)),s_ 26 (.mov (i_ 0))])
(.block 5
(.loop t36L0)))
(.seq (.region [s_ 4 (.mov (i_ 0))])
.ret))))))))⟩
theorem c36 : compFunc Tryd.prog opts a36 Tryd.f36 = some t36 := by kernel_rfl
def a40 : Ann := { slots := [0,1,2,5,10,11,12,13],lb := [5,2],mu := [],trunc := [],draws := [] }
def t40L0 : TCode := (.seq (.region [s_ 7 (.bin .lss (.loc 6) (.loc 5))])
(.seq (.cond (.loc 7)
.skip
(.exit 0))
(.seq (.block 1
(.seq (.region [o_ (.indexAddrS 5 (.loc 4) (.loc 6)),o_ (.loadN 5 (.reg 0)),o_ (.allocL 3 [(.int .i64 0),(.int .i64 0),(.sl .nil []),(.bool false),(.sl .nil [])]),o_ (.store 5 (.reg 2) (.reg 1))])
(.region [o_ (.loadN 5 (.loc 3)),o_ (.mov (.loc 1)),o_ (.call false false 40 [(.reg 0),(.reg 1)])])))
(.region [o_ (.bin .add (.loc 6) (i_ 1)),s_ 6 (.mov (.reg 0))]))))
def t40 : TFunc := ⟨2,8,[],
(.seq (.region [o_ (.boxL 2 (.loc 0))])
(.seq (.region [o_ (.mov (.loc 1)),o_ (.loadN 5 (.loc 2)),o_ (.callv (.reg 0) [(.reg 1)])])
(.seq (.region [o_ (.fieldAddr 4 (.loc 2)),s_ 4 (.load1 (.reg 0)),s_ 5 (.len .sl (.reg 1)),s_ 6 (.mov (i_ 0))])
(.block 0
(.loop t40L0)))))⟩
theorem c40 : compFunc Tryd.prog opts a40 Tryd.f40 = some t40 := by kernel_rfl
def a41 : Ann := { slots := [0,1,2,4,6,7,8,9,14],lb := [2],mu := [],trunc := [],draws := [] }
def t41L0 : TCode := (.seq (.region [s_ 7 (.bin .lss (.loc 6) (.loc 5))])
(.seq (.cond (.loc 7)
.skip
(.exit 0))
(.seq (.block 1
(.seq (.region [o_ (.indexAddrS 1 (.loc 4) (.loc 6)),o_ (.load1 (.reg 0)),s_ 3 (.mov (.reg 1))])
(.seq (.region [o_ (.fieldAddr 0 (.loc 2)),o_ (.load1 (.reg 0)),s_ 8 (.bin .eql (.reg 1) (i_ 7))])
(.cond (.loc 8)
(.region [o_ (.load1 (.loc 1)),o_ (.mov (.loc 3)),o_ (.build [(.int .i64 0)] []),o_ (.update (.leaf .int) (.reg 0) (.reg 1) (.reg 2))])
.skip))))
(.region [o_ (.bin .add (.loc 6) (i_ 1)),s_ 6 (.mov (.reg 0))]))))
def t41 : TFunc := ⟨2,9,[],
(.seq (.region [o_ (.boxL 2 (.loc 0))])
(.seq (.region [o_ (.fieldAddr 2 (.loc 2)),s_ 4 (.load1 (.reg 0)),s_ 5 (.len .sl (.reg 1)),s_ 6 (.mov (i_ 0))])
(.block 0
(.loop t41L0))))⟩
theorem c41 : compFunc Tryd.prog opts a41 Tryd.f41 = some t41 := by kernel_rfl
def a43 : Ann := { slots := [0,1,4],lb := [],mu := [],trunc := [],draws := [] }
def t43 : TFunc := ⟨2,3,[.loc 2],
(.seq (.region [s_ 2 (.mov (.cst (.bool false)))])
(.seq (.region [o_ (.mov (.loc 0)),o_ (.mov (.loc 1)),o_ (.call false false 70 [(.reg 0),(.reg 1)]),o_ (.bin .geq (.reg 2) (i_ 0)),s_ 2 (.mov (.reg 3))])
.ret))⟩
theorem c43 : compFunc Tryd.prog opts a43 Tryd.f43 = some t43 := by kernel_rfl
def a44 : Ann := { slots := [0,1,2],lb := [],mu := [],trunc := [],draws := [] }
def t44 : TFunc := ⟨1,3,[.loc 2],
(.seq (.region [s_ 1 (.boxH 72 (.loc 0)),s_ 2 (.mov (.cst .nilf))])
(.seq (.region [o_ (.mkFn 71 [] [(.loc 1)]),s_ 2 (.mov (.reg 0))])
.ret))⟩
theorem c44 : compFunc Tryd.prog opts a44 Tryd.f44 = some t44 := by kernel_rfl
def a45 : Ann := { slots := [0,1,4,5,7,8,9,10,11,12,13],lb := [9,7],mu := [],trunc := [],draws := [(5,⟨[0,0,3,0,0,16,63,127,255],[0,1,3,4,5],[(2,[4],[]),(6,[],[7,8])]⟩)] }
def t45L0 : TCode := (.seq (.region [s_ 10 (.bin .lss (.loc 9) (.loc 8))])
(.seq (.cond (.loc 10)
.skip
(.exit 0))
(.seq (.block 1
(.seq (.region [o_ (.indexAddrS 5 (.loc 7) (.loc 9)),o_ (.loadN 5 (.reg 0)),o_ (.allocL 4 [(.int .i64 0),(.int .i64 0),(.sl .nil []),(.bool false),(.sl .nil [])]),o_ (.store 5 (.reg 2) (.reg 1))])
(.seq (.region [o_ (.mov (.loc 0)),o_ (.loadN 5 (.loc 4)),o_ (.call false false 48 [(.reg 0),(.reg 1)]),o_ (.mov (.reg 2)),o_ (.extract 0 (.reg 3)),o_ (.extract 1 (.reg 3)),o_ (.allocL 6 [(.int .i64 0),(.int .i64 0)]),s_ 5 (.mov (.reg 4)),o_ (.store 2 (.reg 6) (.reg 5))])
(.draw [0,1,3,4,5] [(2,[4],[]),(6,[],[7,8])] [o_ (.mov (.loc 2)),o_ (.mov (.loc 5)),o_ (.append false 14 176 67 (.reg 0) (.reg 1)),o_ (.mov (.loc 3)),o_ (.loadN 2 (.loc 6)),o_ (.lit false [(.int .i64 0),(.int .i64 0)] 1 [(0,(.reg 4))]),o_ (.append false 2 16 53 (.reg 3) (.reg 5)),s_ 2 (.mov (.reg 2)),s_ 3 (.mov (.reg 6))]))))
(.region [o_ (.bin .add (.loc 9) (i_ 1)),s_ 9 (.mov (.reg 0))]))))
def t45 : TFunc := ⟨2,11,[.loc 2,.loc 3],
(.seq (.region [s_ 2 (.mov (.cst (.sl .nil []))),s_ 3 (.mov (.cst (.sl .nil [])))])
(.seq (.seq (.region [s_ 7 (.mov (.loc 1)),s_ 8 (.len .sl (.reg 0)),s_ 9 (.mov (i_ 0))])
(.block 0
(.loop t45L0)))
(.seq (.region [o_ (.mov (.loc 2)),o_ (.mov (.loc 3)),s_ 2 (.mov (.reg 0)),s_ 3 (.mov (.reg 1))])
.ret)))⟩
theorem c45 : compFunc Tryd.prog opts a45 Tryd.f45 = some t45 := by kernel_rfl
def a46 : Ann := { slots := [0,2],lb := [2],mu := [],trunc := [],draws := [] }
def t46 : TFunc := ⟨1,2,[.cell 1 7 true],
(.seq (.region [o_ (.allocL 1 [(.int .i64 0),(.int .i64 0),(.int .i64 0),(.int .i64 0),(.int .i64 0),(.sl .nil []),(.sl .nil [])])])
(.seq (.region [o_ (.mov (.loc 0)),o_ (.build [(.int .i64 0),(.int .i64 0),(.int .i64 0),(.int .i64 0),(.int .i64 0),(.sl .nil []),(.sl .nil [])] [(0,1,(i_ 4)),(5,1,(.reg 0))]),o_ (.store 7 (.loc 1) (.reg 1))])
.ret))⟩
theorem c46 : compFunc Tryd.prog opts a46 Tryd.f46 = some t46 := by kernel_rfl
def a47 : Ann := { slots := [0,2,3,5,6,8,9,10,11,12,20,25,26,27,28],lb := [],mu := [],trunc := [],draws := [] }
def t47L0 : TCode := (.seq (.region [s_ 14 (.bin .lss (.loc 13) (.loc 12))])
(.seq (.cond (.loc 14)
.skip
(.exit 2))
(.seq (.block 3
(.seq (.region [o_ (.indexAddrS 1 (.loc 11) (.loc 13)),o_ (.load1 (.reg 0)),s_ 5 (.mov (.reg 1))])
(.region [o_ (.mov (.loc 4)),o_ (.mov (.loc 5)),o_ (.append false 2 16 53 (.reg 0) (.reg 1)),s_ 4 (.mov (.reg 2))])))
(.region [o_ (.bin .add (.loc 13) (i_ 1)),s_ 13 (.mov (.reg 0))]))))
def t47L1 : TCode := (.seq (.region [s_ 9 (.bin .lss (.loc 8) (.loc 7))])
(.seq (.cond (.loc 9)
.skip
(.exit 0))
(.seq (.block 1
(.seq (.region [o_ (.indexAddrS 1 (.loc 6) (.loc 8)),o_ (.load1 (.reg 0)),s_ 3 (.mov (.reg 1))])
(.seq (.region [o_ (.mov (.loc 2)),o_ (.mov (.loc 3)),o_ (.len .sl (.reg 1)),o_ (.bin .add (.reg 0) (.reg 2)),s_ 2 (.mov (.reg 3))])
(.seq (.region [o_ (.mov (.loc 2)),s_ 10 (.bin .lss (.reg 0) (i_ 0))])
(.cond (.loc 10)
(.region [o_ (.bad),o_ (.bad)])
.skip)))))
(.region [o_ (.bin .add (.loc 8) (i_ 1)),s_ 8 (.mov (.reg 0))]))))
def t47 : TFunc := ⟨1,15,[.loc 1],
(.seq (.region [s_ 1 (.mov (.cst (.sl .nil [])))])
(.seq (.region [s_ 2 (.mov (i_ 0))])
(.seq (.seq (.region [s_ 6 (.mov (.loc 0)),s_ 7 (.len .sl (.reg 0)),s_ 8 (.mov (i_ 0))])
(.block 0
(.loop t47L1)))
(.seq (.region [o_ (.mov (.loc 2)),o_ (.call false false 72 [(.cst (.sl .nil [])),(.reg 0)]),s_ 4 (.mov (.reg 1))])
(.seq (.seq (.region [s_ 11 (.mov (.loc 0)),s_ 12 (.len .sl (.reg 0)),s_ 13 (.mov (i_ 0))])
(.block 2
(.loop t47L0)))
(.seq (.region [o_ (.mov (.loc 4)),s_ 1 (.mov (.reg 0))])
.ret))))))⟩
theorem c47 : compFunc Tryd.prog opts a47 Tryd.f47 = some t47 := by kernel_rfl
def a48 : Ann := { slots := [0,1,3,4,5,6,7,8,9,10,11,12,13,14,16,17,22,27,41,46,66],lb := [6,5,3],mu := [],trunc := [],draws := [(3,⟨[0,1,3,0,15],[0,1,2,3],[(4,[],[])]⟩),(8,⟨[0,1,0,4,15,31],[0,1,2],[(3,[0],[4]),(5,[],[])]⟩),(12,⟨[0,0,0,4,12,30,62,1,255],[0,1,2,3,4,5,6,7],[(8,[],[])]⟩)] }
def t48 : TFunc := ⟨2,21,[.loc 3,.cell 4 2 true],
(.seq (.region [o_ (.boxL 2 (.loc 1)),s_ 3 (.mov (.cst (.sl .nil []))),o_ (.allocL 4 [(.int .i64 0),(.int .i64 0)])])
(.seq (.seq (.region [o_ (.fieldAddr 0 (.loc 2)),s_ 14 (.load1 (.reg 0))])
(.block 0
(.seq (.region [o_ (.bin .eql (.loc 14) (i_ 1)),s_ 15 (.mov (.reg 0))])
(.cond (.loc 15)
(.seq (.draw [0,1,2,3] [(4,[],[])] [o_ (.fieldAddr 1 (.loc 2)),o_ (.load1 (.reg 0)),o_ (.build [(.int .i64 0),(.int .i64 0)] [(0,1,(i_ 2)),(1,1,(.reg 1))]),s_ 3 (.mov (.cst (.sl .nil []))),o_ (.store 2 (.loc 4) (.reg 2))])
.ret)
(.seq (.region [o_ (.bin .eql (.loc 14) (i_ 2)),s_ 16 (.mov (.reg 0))])
(.cond (.loc 16)
(.seq (.region [o_ (.fieldAddr 1 (.loc 2)),o_ (.load1 (.reg 0)),o_ (.call true false 25 [(.reg 1)]),s_ 3 (.mov (.cst (.sl .nil []))),o_ (.store 2 (.loc 4) (.reg 2))])
.ret)
(.seq (.region [o_ (.bin .eql (.loc 14) (i_ 7)),s_ 17 (.mov (.reg 0))])
(.cond (.loc 17)
(.seq (.region [o_ (.mov (.loc 0)),o_ (.mov (.loc 0)),o_ (.loadN 5 (.loc 2)),o_ (.call false false 73 [(.reg 1),(.reg 2)]),o_ (.call false false 22 [(.reg 0),(.reg 3)]),o_ (.mov (.reg 4)),o_ (.extract 0 (.reg 5)),o_ (.extract 1 (.reg 5)),o_ (.allocL 5 [(.int .i64 0),(.int .i64 0),(.int .i64 0),(.int .i64 0),(.int .i64 0),(.int .i64 0),(.sl .nil []),(.sl .nil []),(.int .i64 0),(.int .i64 0),(.sl .nil []),(.bool false),(.sl .nil []),(.int .i64 0)]),o_ (.store 14 (.reg 8) (.reg 6)),s_ 6 (.mov (.reg 7))])
(.seq (.draw [0,1,2] [(3,[0],[4]),(5,[],[])] [o_ (.loadN 14 (.loc 5)),o_ (.lit false [(.int .i64 0),(.int .i64 0),(.int .i64 0),(.int .i64 0),(.int .i64 0),(.int .i64 0),(.sl .nil []),(.sl .nil []),(.int .i64 0),(.int .i64 0),(.sl .nil []),(.bool false),(.sl .nil []),(.int .i64 0)] 1 [(0,(.reg 0))]),o_ (.mov (.loc 6)),o_ (.call true false 25 [(.reg 2)]),s_ 3 (.mov (.reg 1)),o_ (.store 2 (.loc 4) (.reg 3))])
.ret))
(.seq (.region [o_ (.bin .eql (.loc 14) (i_ 10)),s_ 18 (.mov (.reg 0))])
(.cond (.loc 18)
(.seq (.seq (.region [o_ (.fieldAddr 4 (.loc 2)),o_ (.load1 (.reg 0)),o_ (.len .sl (.reg 1)),s_ 19 (.bin .leq (.reg 2) (i_ 64))])
(.cond (.loc 19)
(.seq (.region [o_ (.mov (.loc 0)),o_ (.fieldAddr 4 (.loc 2)),o_ (.load1 (.reg 1)),o_ (.call false false 45 [(.reg 0),(.reg 2)]),o_ (.mov (.reg 3)),o_ (.extract 0 (.reg 4)),o_ (.extract 1 (.reg 4)),s_ 7 (.mov (.reg 5)),s_ 8 (.mov (.reg 6))])
(.seq (.draw [0,1,2,3,4,5,6,7] [(8,[],[])] [o_ (.mov (.loc 7)),o_ (.mov (.loc 8)),o_ (.mov (.loc 8)),o_ (.len .sl (.reg 2)),o_ (.bin .sub (.reg 3) (i_ 1)),o_ (.indexAddrS 2 (.reg 1) (.reg 4)),o_ (.loadN 2 (.reg 5)),s_ 3 (.mov (.reg 0)),o_ (.store 2 (.loc 4) (.reg 6))])
.ret))
.skip))
(.seq (.region [o_ (.mov (.loc 0)),o_ (.loadN 5 (.loc 2)),o_ (.call false false 74 [(.reg 0),(.reg 1)]),o_ (.extract 0 (.reg 2)),o_ (.extract 1 (.reg 2)),s_ 3 (.mov (.reg 3)),o_ (.store 2 (.loc 4) (.reg 4))])
.ret))
(.seq (.seq (.region [o_ (.bin .eql (.loc 14) (i_ 8)),s_ 20 (.mov (.reg 0))])
(.cond (.loc 20)
.skip
(.seq (.region [o_ (.bin .eql (.loc 14) (i_ 6)),s_ 20 (.mov (.reg 0))])
(.cond (.loc 20)
.skip
(.region [o_ (.bin .eql (.loc 14) (i_ 11)),s_ 20 (.mov (.reg 0))])))))
(.cond (.loc 20)
(.seq (.region [o_ (.mov (.loc 0)),o_ (.loadN 5 (.loc 2)),o_ (.call false false 74 [(.reg 0),(.reg 1)]),o_ (.extract 0 (.reg 2)),o_ (.extract 1 (.reg 2)),s_ 3 (.mov (.reg 3)),o_ (.store 2 (.loc 4) (.reg 4))])
.ret)
.skip))))))))))))
(.seq (.region [o_ (.mov (.loc 0)),o_ (.fieldAddr 4 (.loc 2)),o_ (.load1 (.reg 1)),o_ (.call false false 45 [(.reg 0),(.reg 2)]),o_ (.mov (.reg 3)),o_ (.extract 0 (.reg 4)),o_ (.extract 1 (.reg 4)),s_ 9 (.mov (.reg 5)),s_ 10 (.mov (.reg 6))])
(.seq (.region [o_ (.loadN 5 (.loc 2)),o_ (.call false false 75 [(.reg 0)]),o_ (.mov (.reg 1)),o_ (.extract 0 (.reg 2)),o_ (.extract 1 (.reg 2)),s_ 11 (.mov (.reg 3)),s_ 12 (.mov (.reg 4))])
(.seq (.region [o_ (.mov (.loc 0)),o_ (.call false false 21 [(.reg 0)]),s_ 13 (.mov (.reg 1))])
(.seq (.region [o_ (.mov (.loc 9)),o_ (.mov (.loc 13)),o_ (.mov (.loc 11)),o_ (.mov (.loc 12)),o_ (.mov (.loc 10)),o_ (.build [(.int .i64 0),(.int .i64 0),(.int .i64 0),(.int .i64 0),(.int .i64 0),(.sl .nil []),(.sl .nil [])] [(0,1,(i_ 1)),(1,1,(.reg 1)),(2,1,(.reg 2)),(3,1,(.reg 3)),(5,1,(.reg 4))]),o_ (.mov (.loc 13)),o_ (.build [(.int .i64 0),(.int .i64 0),(.int .i64 0),(.int .i64 0),(.int .i64 0),(.int .i64 0),(.sl .nil []),(.sl .nil []),(.int .i64 0),(.int .i64 0),(.sl .nil []),(.bool false),(.sl .nil []),(.int .i64 0)] [(1,7,(.reg 5)),(13,1,(.reg 6))]),o_ (.lit false [(.int .i64 0),(.int .i64 0),(.int .i64 0),(.int .i64 0),(.int .i64 0),(.int .i64 0),(.sl .nil []),(.sl .nil []),(.int .i64 0),(.int .i64 0),(.sl .nil []),(.bool false),(.sl .nil []),(.int .i64 0)] 1 [(0,(.reg 7))]),o_ (.append false 14 176 67 (.reg 0) (.reg 8)),o_ (.mov (.loc 13)),o_ (.call true false 25 [(.reg 10)]),s_ 3 (.mov (.reg 9)),o_ (.store 2 (.loc 4) (.reg 11))])
.ret))))))⟩
theorem c48 : compFunc Tryd.prog opts a48 Tryd.f48 = some t48 := by kernel_rfl
def a49 : Ann := { slots := [0,1,2,3,4,5,6,7,8,9,10,12,14,15,16,17,23,57,58,59],lb := [6,5],mu := [],trunc := [],draws := [(7,⟨[0,0,0,0,8,24,62,127,255,511,511,1023,4095],[0,1,2,3,4,5,6],[(7,[],[8,9,10,11,12])]⟩),(8,⟨[0,0,0,0,0,16,48,120,248,0,1020,2047,0,8191],[0,1,2,3,4,5,6,7,8,9,12],[(10,[0],[]),(11,[],[]),(13,[],[])]⟩),(11,⟨[0,0,0,4,12,0,60,126,255,511,1023,1023,0,6143,16383],[0,1,2,5,12],[(3,[0,1,5],[4,6]),(7,[0],[]),(8,[],[9,10,11]),(13,[],[14])]⟩),(12,⟨[0,0,0,0,8,30,63,127,255,255,511,2047],[0,1,2,3,4,5],[(6,[],[7,8,9,10,11])]⟩),(13,⟨[0,0,2,0,14,0,62,126,254,511,1023],[0,1,2,3,5],[(4,[0],[]),(6,[0],[7]),(8,[0],[]),(9,[],[]),(10,[],[])]⟩)] }
def t49L0 : TCode := (.seq (.seq (.region [o_ (.load1 (.loc 4)),o_ (.len .sl (.reg 0)),o_ (.mov (.loc 8)),o_ (.bin .sub (.reg 1) (.reg 2)),s_ 16 (.bin .gtr (.reg 3) (i_ 64))])
(.cond (.loc 16)
.skip
(.exit 0)))
(.seq (.block 1
(.region [o_ (.mov (.loc 7)),o_ (.mov (.loc 8)),o_ (.lit false [(.int .i64 0)] 1 [(0,(.reg 1))]),o_ (.append false 1 8 3 (.reg 0) (.reg 2)),s_ 7 (.mov (.reg 3))]))
(.region [o_ (.mov (.loc 8)),o_ (.bin .add (.reg 0) (i_ 64)),s_ 8 (.mov (.reg 1))])))
def t49 : TFunc := ⟨3,20,[.cell 6 7 true],
(.seq (.region [s_ 3 (.boxH 62 (.loc 0)),s_ 4 (.boxH 24 (.loc 1)),o_ (.boxL 5 (.loc 2)),o_ (.allocL 6 [(.int .i64 0),(.int .i64 0),(.int .i64 0),(.int .i64 0),(.int .i64 0),(.sl .nil []),(.sl .nil [])])])
(.seq (.region [s_ 7 (.mov (.cst (.sl .nil [])))])
(.seq (.seq (.region [s_ 8 (.mov (i_ 0))])
(.block 0
(.loop t49L0)))
(.seq (.region [o_ (.mov (.loc 7)),o_ (.len .sl (.reg 0)),o_ (.bin .mul (i_ 64) (.reg 1)),s_ 9 (.mov (.reg 2))])
(.seq (.draw [0,1,2,3,4,5,6] [(7,[],[8,9,10,11,12])] [o_ (.load1 (.loc 3)),o_ (.load1 (.loc 4)),o_ (.mov (.loc 9)),o_ (.load1 (.loc 4)),o_ (.len .sl (.reg 3)),o_ (.bin .sub (.reg 4) (i_ 1)),o_ (.slice (.sl 5) (.reg 1) (some (.reg 2)) (some (.reg 5)) none),o_ (.call false false 45 [(.reg 0),(.reg 6)]),o_ (.mov (.reg 7)),o_ (.extract 0 (.reg 8)),o_ (.extract 1 (.reg 8)),s_ 10 (.mov (.reg 9)),o_ (.mov (.reg 10))])
(.seq (.draw [0,1,2,3,4,5,6,7,8,9,12] [(10,[0],[]),(11,[],[]),(13,[],[])] [o_ (.load1 (.loc 3)),o_ (.mov (.loc 10)),o_ (.load1 (.loc 3)),o_ (.load1 (.loc 4)),o_ (.load1 (.loc 4)),o_ (.len .sl (.reg 4)),o_ (.bin .sub (.reg 5) (i_ 1)),o_ (.indexAddrS 5 (.reg 3) (.reg 6)),o_ (.loadN 5 (.reg 7)),o_ (.loadN 2 (.loc 5)),o_ (.call false false 24 [(.reg 2),(.reg 8),(.reg 9)]),o_ (.call false false 23 [(.reg 0),(.reg 1),(.reg 10)]),s_ 11 (.allocH 46 [(.int .i64 0),(.int .i64 0),(.int .i64 0),(.int .i64 0),(.int .i64 0),(.sl .nil []),(.sl .nil [])]),o_ (.store 7 (.reg 12) (.reg 11))])
(.seq (.seq (.region [o_ (.mov (.loc 7)),s_ 17 (.call false false 76 [(.reg 0)])])
(.block 2
(.rangeFunc (.loc 17) [18,19]
(.region [s_ 12 (.mov (.loc 19))])
(.block 3
(.seq (.draw [0,1,2,5,12] [(3,[0,1,5],[4,6]),(7,[0],[]),(8,[],[9,10,11]),(13,[],[14])] [o_ (.load1 (.loc 3)),o_ (.load1 (.loc 3)),o_ (.load1 (.loc 3)),o_ (.call false false 21 [(.reg 2)]),o_ (.lit false [(.int .i64 0)] 1 [(0,(.reg 3))]),o_ (.loadN 7 (.loc 11)),o_ (.build [(.sl .nil []),(.bool false),(.bool false),(.sl .nil []),(.int .i64 0),(.int .i64 0),(.int .i64 0),(.int .i64 0),(.int .i64 0),(.sl .nil []),(.sl .nil [])] [(0,1,(.reg 4)),(1,1,(.cst (.bool true))),(2,1,(.cst (.bool true))),(4,7,(.reg 5))]),o_ (.call false false 20 [(.reg 1),(.reg 6)]),o_ (.call false false 22 [(.reg 0),(.reg 7)]),o_ (.mov (.reg 8)),o_ (.extract 0 (.reg 9)),o_ (.extract 1 (.reg 9)),s_ 13 (.allocH 68 [(.int .i64 0),(.int .i64 0),(.int .i64 0),(.int .i64 0),(.int .i64 0),(.int .i64 0),(.sl .nil []),(.sl .nil []),(.int .i64 0),(.int .i64 0),(.sl .nil []),(.bool false),(.sl .nil []),(.int .i64 0)]),o_ (.store 14 (.reg 12) (.reg 10)),s_ 14 (.mov (.reg 11))])
(.seq (.draw [0,1,2,3,4,5] [(6,[],[7,8,9,10,11])] [o_ (.load1 (.loc 3)),o_ (.load1 (.loc 4)),o_ (.mov (.loc 12)),o_ (.mov (.loc 12)),o_ (.bin .add (.reg 3) (i_ 64)),o_ (.slice (.sl 5) (.reg 1) (some (.reg 2)) (some (.reg 4)) none),o_ (.call false false 45 [(.reg 0),(.reg 5)]),o_ (.mov (.reg 6)),o_ (.extract 0 (.reg 7)),o_ (.extract 1 (.reg 7)),s_ 15 (.mov (.reg 8)),o_ (.mov (.reg 9))])
(.draw [0,1,2,3,5] [(4,[0],[]),(6,[0],[7]),(8,[0],[]),(9,[],[]),(10,[],[])] [o_ (.load1 (.loc 3)),o_ (.loadN 14 (.loc 13)),o_ (.lit false [(.int .i64 0),(.int .i64 0),(.int .i64 0),(.int .i64 0),(.int .i64 0),(.int .i64 0),(.sl .nil []),(.sl .nil []),(.int .i64 0),(.int .i64 0),(.sl .nil []),(.bool false),(.sl .nil []),(.int .i64 0)] 1 [(0,(.reg 1))]),o_ (.mov (.loc 15)),o_ (.append false 14 176 67 (.reg 2) (.reg 3)),o_ (.mov (.loc 14)),o_ (.call true false 25 [(.reg 5)]),o_ (.lit false [(.int .i64 0),(.int .i64 0)] 1 [(0,(.reg 6))]),o_ (.call false false 46 [(.reg 7)]),o_ (.call false false 23 [(.reg 0),(.reg 4),(.reg 8)]),o_ (.store 7 (.loc 11) (.reg 9))])))))))
(.seq (.region [o_ (.loadN 7 (.loc 11)),o_ (.store 7 (.loc 6) (.reg 0))])
.ret))))))))⟩
theorem c49 : compFunc Tryd.prog opts a49 Tryd.f49 = some t49 := by kernel_rfl
def a50 : Ann := { slots := [0,1,2,4,5,6,7,8,9,10,11,12,13,14,15,24,25,39],lb := [14,11,6,5,4],mu := [],trunc := [],draws := [(4,⟨[0,0,0,4,12,0,0,64,192,508,1020,2047,4095],[0,1,2,3,4,5,6,7,8,9],[(10,[],[]),(11,[],[]),(12,[],[])]⟩),(7,⟨[0,0,0,0,12,0,0,64,224,480,1020,2046,4095,8191,16383,16383,0,98303,262143],[0,1,2,3,4,5,6,16],[(7,[5],[8]),(9,[],[10]),(11,[],[]),(12,[],[13,14,15]),(17,[],[18])]⟩),(8,⟨[0,0,0,4,14,0,32,96,0,0,542,2046,4094,8191,16383],[0,1,2,3,5,6,7,8,9],[(4,[7,8],[]),(10,[7,8],[11]),(12,[],[]),(13,[],[]),(14,[],[])]⟩),(10,⟨[0,0,0,4,0,16,48,0,0,256,1008,2032,4092,8190,16383,32767,65535,65535,0,393215,1048575],[0,1,2,3,4,5,6,7,8,18],[(9,[6,7],[10]),(11,[],[12]),(13,[],[]),(14,[],[15,16,17]),(19,[],[20])]⟩),(11,⟨[0,0,0,4,14,0,32,96,0,286,1022,2046,4095,8191],[0,1,2,3,5,6,7,8],[(4,[7],[]),(9,[7],[10]),(11,[],[]),(12,[],[]),(13,[],[])]⟩)] }
def t50 : TFunc := ⟨3,18,[.cell 5 7 true],
(.seq (.region [o_ (.boxL 3 (.loc 1)),o_ (.boxL 4 (.loc 2)),o_ (.allocL 5 [(.int .i64 0),(.int .i64 0),(.int .i64 0),(.int .i64 0),(.int .i64 0),(.sl .nil []),(.sl .nil [])])])
(.seq (.region [o_ (.mov (.loc 0)),o_ (.fieldAddr 4 (.loc 3)),o_ (.load1 (.reg 1)),o_ (.call false false 45 [(.reg 0),(.reg 2)]),o_ (.mov (.reg 3)),o_ (.extract 0 (.reg 4)),o_ (.extract 1 (.reg 4)),s_ 6 (.mov (.reg 5)),s_ 7 (.mov (.reg 6))])
(.seq (.seq (.region [o_ (.fieldAddr 1 (.loc 3)),s_ 15 (.load1 (.reg 0))])
(.block 0
(.seq (.region [o_ (.bin .eql (.loc 15) (i_ 1)),s_ 16 (.mov (.reg 0))])
(.cond (.loc 16)
(.seq (.draw [0,1,2,3,4,5,6,7,8,9] [(10,[],[]),(11,[],[]),(12,[],[])] [o_ (.mov (.loc 0)),o_ (.mov (.loc 6)),o_ (.mov (.loc 7)),o_ (.indexAddrS 2 (.reg 2) (i_ 0)),o_ (.loadN 2 (.reg 3)),o_ (.loadN 2 (.loc 4)),o_ (.mov (.loc 7)),o_ (.indexAddrS 2 (.reg 6) (i_ 1)),o_ (.loadN 2 (.reg 7)),o_ (.lit false [(.int .i64 0),(.int .i64 0)] 3 [(0,(.reg 4)),(1,(.reg 5)),(2,(.reg 8))]),o_ (.call false false 77 [(.reg 9)]),o_ (.call false false 23 [(.reg 0),(.reg 1),(.reg 10)]),o_ (.store 7 (.loc 5) (.reg 11))])
.ret)
(.seq (.region [o_ (.bin .eql (.loc 15) (i_ 0)),s_ 17 (.mov (.reg 0))])
(.cond (.loc 17)
(.seq (.region [o_ (.mov (.loc 0)),o_ (.call false false 21 [(.reg 0)]),o_ (.mov (.loc 0)),o_ (.call false false 21 [(.reg 2)]),s_ 8 (.mov (.reg 1)),s_ 9 (.mov (.reg 3))])
(.seq (.draw [0,1,2,3,4,5,6,16] [(7,[5],[8]),(9,[],[10]),(11,[],[]),(12,[],[13,14,15]),(17,[],[18])] [o_ (.mov (.loc 0)),o_ (.mov (.loc 0)),o_ (.mov (.loc 8)),o_ (.mov (.loc 9)),o_ (.lit false [(.int .i64 0)] 2 [(0,(.reg 2)),(1,(.reg 3))]),o_ (.loadN 2 (.loc 4)),o_ (.mov (.loc 9)),o_ (.call true false 25 [(.reg 6)]),o_ (.lit false [(.int .i64 0),(.int .i64 0)] 2 [(0,(.reg 5)),(1,(.reg 7))]),o_ (.call false false 77 [(.reg 8)]),o_ (.build [(.sl .nil []),(.bool false),(.bool false),(.sl .nil []),(.int .i64 0),(.int .i64 0),(.int .i64 0),(.int .i64 0),(.int .i64 0),(.sl .nil []),(.sl .nil [])] [(0,1,(.reg 4)),(1,1,(.cst (.bool true))),(4,7,(.reg 9))]),o_ (.call false false 20 [(.reg 1),(.reg 10)]),o_ (.call false false 22 [(.reg 0),(.reg 11)]),o_ (.mov (.reg 12)),o_ (.extract 0 (.reg 13)),o_ (.extract 1 (.reg 13)),s_ 10 (.allocH 68 [(.int .i64 0),(.int .i64 0),(.int .i64 0),(.int .i64 0),(.int .i64 0),(.int .i64 0),(.sl .nil []),(.sl .nil []),(.int .i64 0),(.int .i64 0),(.sl .nil []),(.bool false),(.sl .nil []),(.int .i64 0)]),o_ (.store 14 (.reg 16) (.reg 14)),s_ 11 (.mov (.reg 15))])
(.seq (.draw [0,1,2,3,5,6,7,8,9] [(4,[7,8],[]),(10,[7,8],[11]),(12,[],[]),(13,[],[]),(14,[],[])] [o_ (.mov (.loc 0)),o_ (.mov (.loc 6)),o_ (.loadN 14 (.loc 10)),o_ (.lit false [(.int .i64 0),(.int .i64 0),(.int .i64 0),(.int .i64 0),(.int .i64 0),(.int .i64 0),(.sl .nil []),(.sl .nil []),(.int .i64 0),(.int .i64 0),(.sl .nil []),(.bool false),(.sl .nil []),(.int .i64 0)] 1 [(0,(.reg 2))]),o_ (.append false 14 176 67 (.reg 1) (.reg 3)),o_ (.mov (.loc 7)),o_ (.indexAddrS 2 (.reg 5) (i_ 0)),o_ (.loadN 2 (.reg 6)),o_ (.loadN 2 (.loc 4)),o_ (.mov (.loc 11)),o_ (.call true false 25 [(.reg 9)]),o_ (.lit false [(.int .i64 0),(.int .i64 0)] 3 [(0,(.reg 7)),(1,(.reg 8)),(2,(.reg 10))]),o_ (.call false false 46 [(.reg 11)]),o_ (.call false false 23 [(.reg 0),(.reg 4),(.reg 12)]),o_ (.store 7 (.loc 5) (.reg 13))])
.ret)))
.skip))))))
(.seq (.region [o_ (.mov (.loc 0)),o_ (.call false false 21 [(.reg 0)]),s_ 12 (.mov (.reg 1))])
(.seq (.draw [0,1,2,3,4,5,6,7,8,18] [(9,[6,7],[10]),(11,[],[12]),(13,[],[]),(14,[],[15,16,17]),(19,[],[20])] [o_ (.mov (.loc 0)),o_ (.mov (.loc 0)),o_ (.mov (.loc 12)),o_ (.lit false [(.int .i64 0)] 1 [(0,(.reg 2))]),o_ (.mov (.loc 7)),o_ (.indexAddrS 2 (.reg 4) (i_ 1)),o_ (.loadN 2 (.reg 5)),o_ (.loadN 2 (.loc 4)),o_ (.mov (.loc 12)),o_ (.call true false 25 [(.reg 8)]),o_ (.lit false [(.int .i64 0),(.int .i64 0)] 3 [(0,(.reg 6)),(1,(.reg 7)),(2,(.reg 9))]),o_ (.call false false 77 [(.reg 10)]),o_ (.build [(.sl .nil []),(.bool false),(.bool false),(.sl .nil []),(.int .i64 0),(.int .i64 0),(.int .i64 0),(.int .i64 0),(.int .i64 0),(.sl .nil []),(.sl .nil [])] [(0,1,(.reg 3)),(1,1,(.cst (.bool true))),(2,1,(.cst (.bool true))),(4,7,(.reg 11))]),o_ (.call false false 20 [(.reg 1),(.reg 12)]),o_ (.call false false 22 [(.reg 0),(.reg 13)]),o_ (.mov (.reg 14)),o_ (.extract 0 (.reg 15)),o_ (.extract 1 (.reg 15)),s_ 13 (.allocH 68 [(.int .i64 0),(.int .i64 0),(.int .i64 0),(.int .i64 0),(.int .i64 0),(.int .i64 0),(.sl .nil []),(.sl .nil []),(.int .i64 0),(.int .i64 0),(.sl .nil []),(.bool false),(.sl .nil []),(.int .i64 0)]),o_ (.store 14 (.reg 18) (.reg 16)),s_ 14 (.mov (.reg 17))])
(.seq (.draw [0,1,2,3,5,6,7,8] [(4,[7],[]),(9,[7],[10]),(11,[],[]),(12,[],[]),(13,[],[])] [o_ (.mov (.loc 0)),o_ (.mov (.loc 6)),o_ (.loadN 14 (.loc 13)),o_ (.lit false [(.int .i64 0),(.int .i64 0),(.int .i64 0),(.int .i64 0),(.int .i64 0),(.int .i64 0),(.sl .nil []),(.sl .nil []),(.int .i64 0),(.int .i64 0),(.sl .nil []),(.bool false),(.sl .nil []),(.int .i64 0)] 1 [(0,(.reg 2))]),o_ (.append false 14 176 67 (.reg 1) (.reg 3)),o_ (.mov (.loc 7)),o_ (.indexAddrS 2 (.reg 5) (i_ 0)),o_ (.loadN 2 (.reg 6)),o_ (.mov (.loc 14)),o_ (.call true false 25 [(.reg 8)]),o_ (.lit false [(.int .i64 0),(.int .i64 0)] 2 [(0,(.reg 7)),(1,(.reg 9))]),o_ (.call false false 46 [(.reg 10)]),o_ (.call false false 23 [(.reg 0),(.reg 4),(.reg 11)]),o_ (.store 7 (.loc 5) (.reg 12))])
.ret))))))⟩
theorem c50 : compFunc Tryd.prog opts a50 Tryd.f50 = some t50 := by kernel_rfl
def a56 : Ann := { slots := [0,1,2],lb := [1],mu := [],trunc := [],draws := [] }
def t56 : TFunc := ⟨1,3,[.loc 2],
(.seq (.region [o_ (.boxL 1 (.loc 0)),s_ 2 (.mov (.cst (.bool false)))])
(.seq (.region [o_ (.fieldAddr 0 (.loc 1)),o_ (.load1 (.reg 0)),o_ (.bin .eql (.reg 1) (i_ 6)),o_ (.mov (.reg 2)),⟨.fieldAddr 3 (.loc 1),none,(some (3,true))⟩,⟨.load1 (.reg 4),none,(some (3,true))⟩,⟨.len .sl (.reg 5),none,(some (3,true))⟩,⟨.bin .eql (.reg 6) (i_ 2),none,(some (3,true))⟩,o_ (.pick (.reg 3) (.reg 7) (.cst (.bool false))),s_ 2 (.mov (.reg 8))])
.ret))⟩
theorem c56 : compFunc Tryd.prog opts a56 Tryd.f56 = some t56 := by kernel_rfl
def a57 : Ann := { slots := [0,1,4],lb := [],mu := [],trunc := [],draws := [] }
def t57 : TFunc := ⟨2,3,[.loc 2],
(.seq (.region [s_ 2 (.mov (.cst (.bool false)))])
(.seq (.region [o_ (.mov (.loc 0)),o_ (.mov (.loc 1)),o_ (.call false false 84 [(.reg 0),(.reg 1)]),o_ (.bin .geq (.reg 2) (i_ 0)),s_ 2 (.mov (.reg 3))])
.ret))⟩
theorem c57 : compFunc Tryd.prog opts a57 Tryd.f57 = some t57 := by kernel_rfl
def a58 : Ann := { slots := [0,1,2],lb := [1],mu := [],trunc := [],draws := [] }
def t58 : TFunc := ⟨1,3,[.loc 2],
(.seq (.region [o_ (.boxL 1 (.loc 0)),s_ 2 (.mov (.cst (.bool false)))])
(.seq (.region [o_ (.loadN 5 (.loc 1)),o_ (.call true false 34 [(.reg 0)]),o_ (.un .not (.reg 1)),s_ 2 (.mov (.reg 2))])
.ret))⟩
theorem c58 : compFunc Tryd.prog opts a58 Tryd.f58 = some t58 := by kernel_rfl
def a59 : Ann := { slots := [0,1,2,4,6,7,12,22,27,32],lb := [1],mu := [],trunc := [],draws := [] }
def t59 : TFunc := ⟨1,10,[.loc 2],
(.seq (.region [o_ (.boxL 1 (.loc 0)),s_ 2 (.mov (.cst (.bool false)))])
(.seq (.seq (.region [o_ (.fieldAddr 0 (.loc 1)),s_ 4 (.load1 (.reg 0))])
(.block 0
(.seq (.seq (.region [o_ (.bin .eql (.loc 4) (i_ 0)),s_ 5 (.mov (.reg 0))])
(.cond (.loc 5)
.skip
(.seq (.region [o_ (.bin .eql (.loc 4) (i_ 8)),s_ 5 (.mov (.reg 0))])
(.cond (.loc 5)
.skip
(.seq (.region [o_ (.bin .eql (.loc 4) (i_ 9)),s_ 5 (.mov (.reg 0))])
(.cond (.loc 5)
.skip
(.region [o_ (.bin .eql (.loc 4) (i_ 10)),s_ 5 (.mov (.reg 0))])))))))
(.cond (.loc 5)
(.seq (.region [s_ 2 (.mov (.cst (.bool true)))])
.ret)
(.seq (.region [o_ (.bin .eql (.loc 4) (i_ 1)),s_ 6 (.mov (.reg 0))])
(.cond (.loc 6)
(.seq (.region [o_ (.fieldAddr 1 (.loc 1)),o_ (.load1 (.reg 0)),o_ (.bin .eql (.reg 1) (i_ 0)),o_ (.mov (.reg 2)),⟨.fieldAddr 1 (.loc 1),none,(some (3,false))⟩,⟨.load1 (.reg 4),none,(some (3,false))⟩,⟨.bin .eql (.reg 5) (i_ 1),none,(some (3,false))⟩,o_ (.pick (.reg 3) (.cst (.bool true)) (.reg 6)),s_ 2 (.mov (.reg 7))])
.ret)
(.seq (.region [o_ (.bin .eql (.loc 4) (i_ 2)),s_ 7 (.mov (.reg 0))])
(.cond (.loc 7)
(.seq (.region [o_ (.fieldAddr 2 (.loc 1)),o_ (.load1 (.reg 0)),o_ (.call true false 85 [(.reg 1)]),s_ 2 (.mov (.reg 2))])
.ret)
(.seq (.region [o_ (.bin .eql (.loc 4) (i_ 3)),s_ 8 (.mov (.reg 0))])
(.cond (.loc 8)
(.seq (.region [o_ (.fieldAddr 1 (.loc 1)),o_ (.load1 (.reg 0)),o_ (.call true false 86 [(.reg 1)]),s_ 2 (.mov (.reg 2))])
.ret)
(.seq (.seq (.region [o_ (.bin .eql (.loc 4) (i_ 4)),s_ 9 (.mov (.reg 0))])
(.cond (.loc 9)
.skip
(.region [o_ (.bin .eql (.loc 4) (i_ 5)),s_ 9 (.mov (.reg 0))])))
(.cond (.loc 9)
(.seq (.region [o_ (.fieldAddr 2 (.loc 1)),o_ (.load1 (.reg 0)),o_ (.call true false 87 [(.reg 1)]),o_ (.mov (.reg 2)),o_ (.extract 0 (.reg 3)),o_ (.extract 1 (.reg 3)),o_ (.mov (.reg 4)),s_ 3 (.mov (.reg 5))])
(.seq (.region [o_ (.mov (.loc 3)),o_ (.bin .eql (.reg 0) (i_ 0)),o_ (.mov (.reg 1)),⟨.fieldAddr 0 (.loc 1),none,(some (2,true))⟩,⟨.load1 (.reg 3),none,(some (2,true))⟩,⟨.bin .eql (.reg 4) (i_ 4),none,(some (2,true))⟩,⟨.mov (.reg 5),none,(some (2,true))⟩,⟨.fieldAddr 2 (.loc 1),none,(some (6,false))⟩,⟨.load1 (.reg 7),none,(some (6,false))⟩,⟨.bin .neq (.reg 8) (.cst (.str [])),none,(some (6,false))⟩,⟨.pick (.reg 6) (.cst (.bool true)) (.reg 9),none,(some (2,true))⟩,o_ (.pick (.reg 2) (.reg 10) (.cst (.bool false))),s_ 2 (.mov (.reg 11))])
.ret))
.skip))))))))))))
(.seq (.region [s_ 2 (.mov (.cst (.bool false)))])
.ret)))⟩
theorem c59 : compFunc Tryd.prog opts a59 Tryd.f59 = some t59 := by kernel_rfl
def a60 : Ann := { slots := [0,1,2],lb := [1],mu := [],trunc := [],draws := [] }
def t60 : TFunc := ⟨1,3,[.loc 2],
(.seq (.region [o_ (.boxL 1 (.loc 0)),s_ 2 (.mov (.cst (.bool false)))])
(.seq (.region [o_ (.loadN 5 (.loc 1)),o_ (.call true false 35 [(.reg 0)]),o_ (.un .not (.reg 1)),s_ 2 (.mov (.reg 2))])
.ret))⟩
theorem c60 : compFunc Tryd.prog opts a60 Tryd.f60 = some t60 := by kernel_rfl
def a61 : Ann := { slots := [0,1,2,3,4,5,6,7,8,73,75,76,88,100],lb := [5,3],mu := [],trunc := [],draws := [(8,⟨[0,0,2,0,8,24,56,120,248,511,1023],[0,1,2,3,4,5,6,7,8],[(9,[],[10])]⟩),(11,⟨[0,0,2,0,8,24,56,120,255,511],[0,1,2,3,4,5,6,7],[(8,[],[9])]⟩),(14,⟨[0,0,2,0,8,24,56,120,255,511],[0,1,2,3,4,5,6,7],[(8,[],[9])]⟩)] }
def t61 : TFunc := ⟨2,14,[.loc 4],
(.seq (.region [s_ 2 (.boxH 86 (.loc 0)),o_ (.boxL 3 (.loc 1)),s_ 4 (.mov (.cst (.bool false)))])
(.seq (.region [o_ (.loadN 5 (.loc 3)),o_ (.call true false 88 [(.reg 0)]),o_ (.mov (.reg 1)),o_ (.extract 0 (.reg 2)),o_ (.extract 1 (.reg 2)),o_ (.allocL 5 [(.bool false),(.int .i64 0),(.bool false),(.str [])]),o_ (.store 4 (.reg 5) (.reg 3)),s_ 6 (.mov (.reg 4))])
(.seq (.region [o_ (.fieldAddr 0 (.loc 3)),o_ (.load1 (.reg 0)),o_ (.bin .eql (.reg 1) (i_ 7)),s_ 7 (.mov (.reg 2))])
(.seq (.seq (.region [o_ (.mov (.loc 6)),o_ (.un .not (.reg 0)),o_ (.mov (.reg 1)),⟨.fieldAddr 4 (.loc 3),none,(some (2,false))⟩,⟨.load1 (.reg 3),none,(some (2,false))⟩,⟨.len .sl (.reg 4),none,(some (2,false))⟩,⟨.fieldAddr 1 (.loc 5),none,(some (2,false))⟩,⟨.load1 (.reg 6),none,(some (2,false))⟩,⟨.bin .lss (.reg 5) (.reg 7),none,(some (2,false))⟩,o_ (.pick (.reg 2) (.cst (.bool true)) (.reg 8)),o_ (.mov (.reg 9)),⟨.fieldAddr 4 (.loc 3),none,(some (10,false))⟩,⟨.load1 (.reg 11),none,(some (10,false))⟩,⟨.len .sl (.reg 12),none,(some (10,false))⟩,⟨.fieldAddr 1 (.loc 5),none,(some (10,false))⟩,⟨.load1 (.reg 14),none,(some (10,false))⟩,⟨.bin .gtr (.reg 13) (.reg 15),none,(some (10,false))⟩,⟨.mov (.reg 16),none,(some (10,false))⟩,⟨.fieldAddr 2 (.loc 5),none,(some (17,true))⟩,⟨.load1 (.reg 18),none,(some (17,true))⟩,⟨.un .not (.reg 19),none,(some (17,true))⟩,⟨.pick (.reg 17) (.reg 20) (.cst (.bool false)),none,(some (10,false))⟩,o_ (.pick (.reg 10) (.cst (.bool true)) (.reg 21)),o_ (.mov (.reg 22)),⟨.fieldAddr 0 (.loc 5),none,(some (23,false))⟩,⟨.load1 (.reg 24),none,(some (23,false))⟩,⟨.un .not (.reg 25),none,(some (23,false))⟩,⟨.mov (.reg 26),none,(some (23,false))⟩,⟨.fieldAddr 1 (.loc 3),none,(some (27,true))⟩,⟨.load1 (.reg 28),none,(some (27,true))⟩,⟨.bin .neq (.reg 29) (i_ 0),none,(some (27,true))⟩,⟨.pick (.reg 27) (.reg 30) (.cst (.bool false)),none,(some (23,false))⟩,o_ (.pick (.reg 23) (.cst (.bool true)) (.reg 31)),o_ (.mov (.reg 32)),⟨.mov (.loc 7),none,(some (33,false))⟩,⟨.un .not (.reg 34),none,(some (33,false))⟩,⟨.mov (.reg 35),none,(some (33,false))⟩,⟨.fieldAddr 2 (.loc 3),none,(some (36,true))⟩,⟨.load1 (.reg 37),none,(some (36,true))⟩,⟨.len .sl (.reg 38),none,(some (36,true))⟩,⟨.bin .gtr (.reg 39) (i_ 0),none,(some (36,true))⟩,⟨.mov (.reg 40),none,(some (36,true))⟩,⟨.fieldAddr 3 (.loc 3),none,(some (41,false))⟩,⟨.load1 (.reg 42),none,(some (41,false))⟩,⟨.pick (.reg 41) (.cst (.bool true)) (.reg 43),none,(some (36,true))⟩,⟨.pick (.reg 36) (.reg 44) (.cst (.bool false)),none,(some (33,false))⟩,o_ (.pick (.reg 33) (.cst (.bool true)) (.reg 45)),o_ (.mov (.reg 46)),⟨.fieldAddr 3 (.loc 3),none,(some (47,false))⟩,⟨.load1 (.reg 48),none,(some (47,false))⟩,⟨.mov (.reg 49),none,(some (47,false))⟩,⟨.fieldAddr 2 (.loc 3),none,(some (50,true))⟩,⟨.load1 (.reg 51),none,(some (50,true))⟩,⟨.len .sl (.reg 52),none,(some (50,true))⟩,⟨.bin .eql (.reg 53) (i_ 0),none,(some (50,true))⟩,⟨.pick (.reg 50) (.reg 54) (.cst (.bool false)),none,(some (47,false))⟩,s_ 9 (.pick (.reg 47) (.cst (.bool true)) (.reg 55))])
(.cond (.loc 9)
(.seq (.region [s_ 4 (.mov (.cst (.bool false)))])
.ret)
.skip))
(.seq (.region [s_ 8 (.allocH 154 [.nilf]),o_ (.store 1 (.reg 0) (.fn 89))])
(.seq (.seq (.region [o_ (.fieldAddr 0 (.loc 3)),s_ 10 (.load1 (.reg 0))])
(.block 0
(.seq (.region [o_ (.bin .eql (.loc 10) (i_ 1)),s_ 11 (.mov (.reg 0))])
(.cond (.loc 11)
(.seq (.draw [0,1,2,3,4,5,6,7,8] [(9,[],[10])] [o_ (.load1 (.loc 8)),o_ (.fieldAddr 1 (.loc 3)),o_ (.load1 (.reg 1)),o_ (.load1 (.loc 2)),o_ (.nilCheck (.reg 3)),o_ (.fieldAddr 0 (.reg 4)),o_ (.fieldAddr 7 (.reg 5)),o_ (.load1 (.reg 6)),o_ (.len .sl (.reg 7)),o_ (.callv (.reg 0) [(.reg 2),(.reg 8)]),s_ 4 (.mov (.reg 9))])
.ret)
(.seq (.seq (.region [o_ (.bin .eql (.loc 10) (i_ 2)),s_ 12 (.mov (.reg 0))])
(.cond (.loc 12)
.skip
(.region [o_ (.bin .eql (.loc 10) (i_ 4)),s_ 12 (.mov (.reg 0))])))
(.cond (.loc 12)
(.seq (.draw [0,1,2,3,4,5,6,7] [(8,[],[9])] [o_ (.load1 (.loc 8)),o_ (.fieldAddr 1 (.loc 3)),o_ (.load1 (.reg 1)),o_ (.load1 (.loc 2)),o_ (.nilCheck (.reg 3)),o_ (.fieldAddr 0 (.reg 4)),o_ (.fieldAddr 6 (.reg 5)),o_ (.load1 (.reg 6)),o_ (.callv (.reg 0) [(.reg 2),(.reg 7)]),s_ 4 (.mov (.reg 8))])
.ret)
(.seq (.seq (.region [o_ (.bin .eql (.loc 10) (i_ 3)),s_ 13 (.mov (.reg 0))])
(.cond (.loc 13)
.skip
(.region [o_ (.bin .eql (.loc 10) (i_ 5)),s_ 13 (.mov (.reg 0))])))
(.cond (.loc 13)
(.seq (.draw [0,1,2,3,4,5,6,7] [(8,[],[9])] [o_ (.load1 (.loc 8)),o_ (.fieldAddr 1 (.loc 3)),o_ (.load1 (.reg 1)),o_ (.load1 (.loc 2)),o_ (.nilCheck (.reg 3)),o_ (.fieldAddr 0 (.reg 4)),o_ (.fieldAddr 5 (.reg 5)),o_ (.load1 (.reg 6)),o_ (.callv (.reg 0) [(.reg 2),(.reg 7)]),s_ 4 (.mov (.reg 8))])
.ret)
.skip))))))))
(.seq (.region [o_ (.fieldAddr 2 (.loc 3)),o_ (.load1 (.reg 0)),o_ (.mkFn 91 [] [(.loc 8),(.loc 2)]),o_ (.call false false 90 [(.reg 1),(.reg 2)]),o_ (.un .not (.reg 3)),s_ 4 (.mov (.reg 4))])
.ret)))))))⟩
theorem c61 : compFunc Tryd.prog opts a61 Tryd.f61 = some t61 := by kernel_rfl
end Go.Proofs.YtageemgcnoblnaaDoor
