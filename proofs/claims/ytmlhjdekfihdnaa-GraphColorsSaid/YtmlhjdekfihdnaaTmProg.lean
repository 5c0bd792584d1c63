/- The functions of this seat, compiled for the evaluator TM; each held against the translation by the kernel. By program. Condition: none. -/
import Derived.Test.YtmlhjdekfihdnaaRows
import Derived.Test.YtmlhjdekfihdnaaTmD
set_option maxRecDepth 100000
set_option linter.unusedVariables false
namespace Go.Proofs.Ytmlhjdekfihdnaa
open Go Go.TM
abbrev o_ (x : TOp) : TOper := ⟨x,none,none⟩
abbrev s_ (n : Nat) (x : TOp) : TOper := ⟨x,some n,none⟩
abbrev i_ (n : Int) : TOpd := .cst (.int .i64 n)
def opts : Opts := ⟨fun f => ([17,18,19,20,21,22,25,28,29,30,31,32,33,36,39,40,42,43,53,54,55,56,57,58,59] : List Nat).contains f,fun f => ([] : List Nat).contains f⟩
def a3 : Ann := { slots := [0,1,2,3,4,5,6,9,17,27,31],lb := [4,1],mu := [],trunc := [],draws := [] }
def t3L0 : TCode := (.seq (.seq (.region [o_ (.mov (.loc 6)),o_ (.mov (.loc 3)),o_ (.len .sl (.reg 1)),s_ 10 (.bin .lss (.reg 0) (.reg 2))])
(.cond (.loc 10)
.skip
(.exit 0)))
(.seq (.block 1
(.region [o_ (.mov (.loc 5)),o_ (.mov (.reg 0)),⟨.mov (.loc 3),none,(some (1,false))⟩,⟨.mov (.loc 6),none,(some (1,false))⟩,⟨.indexAddrS 1 (.reg 2) (.reg 3),none,(some (1,false))⟩,⟨.load1 (.reg 4),none,(some (1,false))⟩,⟨.bin .lss (.reg 5) (i_ 0),none,(some (1,false))⟩,o_ (.pick (.reg 1) (.cst (.bool true)) (.reg 6)),s_ 5 (.mov (.reg 7))]))
(.region [o_ (.mov (.loc 6)),o_ (.bin .add (.reg 0) (i_ 1)),s_ 6 (.mov (.reg 1))])))
def t3 : TFunc := ⟨1,11,[.loc 2],
(.seq (.region [o_ (.boxL 1 (.loc 0)),s_ 2 (.mov (.cst (.bool false)))])
(.seq (.seq (.region [o_ (.loadN 3 (.loc 1)),o_ (.call true false 7 [(.reg 0)]),s_ 7 (.un .not (.reg 1))])
(.cond (.loc 7)
(.seq (.region [o_ (.call true false 8 []),s_ 2 (.mov (.reg 0))])
.ret)
.skip))
(.seq (.region [o_ (.loadN 3 (.loc 1)),o_ (.call true false 9 [(.reg 0)]),s_ 3 (.mov (.reg 1))])
(.seq (.region [o_ (.loadN 3 (.loc 1)),o_ (.call true false 10 [(.reg 0)]),o_ (.allocL 4 [(.int .i64 0),(.sl .nil []),(.sl .nil [])]),o_ (.store 3 (.reg 2) (.reg 1))])
(.seq (.seq (.region [o_ (.loadN 3 (.loc 4)),o_ (.call true false 11 [(.reg 0)]),s_ 8 (.un .not (.reg 1))])
(.cond (.loc 8)
(.seq (.region [o_ (.mov (.loc 3)),o_ (.len .sl (.reg 0)),o_ (.bin .eql (.reg 1) (i_ 0)),o_ (.mov (.reg 2)),⟨.call true false 8 [],none,(some (3,true))⟩,o_ (.pick (.reg 3) (.reg 4) (.cst (.bool false))),s_ 2 (.mov (.reg 5))])
.ret)
.skip))
(.seq (.seq (.region [o_ (.loadN 3 (.loc 4)),o_ (.mov (.loc 3)),o_ (.call true false 12 [(.reg 0),(.reg 1)]),s_ 9 (.un .not (.reg 2))])
(.cond (.loc 9)
(.seq (.region [s_ 2 (.mov (.cst (.bool false)))])
.ret)
.skip))
(.seq (.region [s_ 5 (.mov (.cst (.bool false)))])
(.seq (.seq (.region [s_ 6 (.mov (i_ 0))])
(.block 0
(.loop t3L0)))
(.seq (.region [o_ (.mov (.loc 5)),o_ (.un .not (.reg 0)),o_ (.mov (.reg 1)),⟨.loadN 3 (.loc 4),none,(some (2,false))⟩,⟨.call true false 13 [(.reg 3)],none,(some (2,false))⟩,⟨.un .not (.reg 4),none,(some (2,false))⟩,o_ (.pick (.reg 2) (.cst (.bool true)) (.reg 5)),o_ (.mov (.reg 6)),⟨.call true false 8 [],none,(some (7,true))⟩,o_ (.pick (.reg 7) (.reg 8) (.cst (.bool false))),s_ 2 (.mov (.reg 9))])
.ret)))))))))⟩
theorem c3 : compFunc Try.prog opts a3 Try.f3 = some t3 := by kernel_rfl
def a5 : Ann := { slots := [0,1,2,4,5,6,7,8,9,10,13,19,31,35,48,56,66,87,91,98],lb := [7,2],mu := [],trunc := [],draws := [(18,⟨[0,1,0,4,0,28,60,124,255,511,1023],[0,1,2,3,4,5,6,7],[(8,[],[9]),(10,[],[])]⟩)] }
def t5L0 : TCode := (.seq (.seq (.region [o_ (.mov (.loc 9)),o_ (.fieldAddr 0 (.loc 2)),o_ (.load1 (.reg 1)),s_ 18 (.bin .lss (.reg 0) (.reg 2))])
(.cond (.loc 18)
.skip
(.exit 4)))
(.seq (.block 5
(.seq (.region [o_ (.mov (.loc 8)),o_ (.mov (.loc 9)),o_ (.indexAddrS 1 (.reg 0) (.reg 1)),o_ (.load1 (.reg 2)),s_ 19 (.bin .lss (.reg 3) (i_ 1))])
(.cond (.loc 19)
(.seq (.region [s_ 3 (.mov (.cst (.bool false)))])
.ret)
.skip)))
(.region [o_ (.mov (.loc 9)),o_ (.bin .add (.reg 0) (i_ 1)),s_ 9 (.mov (.reg 1))])))
def t5L1 : TCode := (.seq (.seq (.region [o_ (.mov (.loc 7)),o_ (.fieldAddr 1 (.loc 2)),o_ (.load1 (.reg 1)),o_ (.len .sl (.reg 2)),s_ 15 (.bin .lss (.reg 0) (.reg 3))])
(.cond (.loc 15)
.skip
(.exit 2)))
(.seq (.block 3
(.seq (.region [o_ (.mov (.loc 7)),o_ (.mov (.loc 1)),o_ (.conv (.toInt .i64) (.reg 1)),o_ (.fieldAddr 1 (.loc 2)),o_ (.load1 (.reg 3)),o_ (.len .sl (.reg 4)),o_ (.bin .rem (.reg 2) (.reg 5)),s_ 16 (.bin .neq (.reg 0) (.reg 6))])
(.cond (.loc 16)
(.draw [0,1,2,3,4,5,6,7] [(8,[],[9]),(10,[],[])] [o_ (.fieldAddr 1 (.loc 6)),o_ (.load1 (.reg 0)),o_ (.fieldAddr 1 (.loc 2)),o_ (.load1 (.reg 2)),o_ (.mov (.loc 7)),o_ (.indexAddrS 2 (.reg 3) (.reg 4)),o_ (.loadN 2 (.reg 5)),o_ (.lit false [(.int .i64 0),(.int .i64 0)] 1 [(0,(.reg 6))]),o_ (.append false 2 16 37 (.reg 1) (.reg 7)),o_ (.fieldAddr 1 (.loc 6)),o_ (.store 1 (.reg 9) (.reg 8))])
.skip)))
(.region [o_ (.mov (.loc 7)),o_ (.bin .add (.reg 0) (i_ 1)),s_ 7 (.mov (.reg 1))])))
def t5L2 : TCode := (.seq (.seq (.region [o_ (.mov (.loc 5)),o_ (.fieldAddr 0 (.loc 2)),o_ (.load1 (.reg 1)),s_ 13 (.bin .lss (.reg 0) (.reg 2))])
(.cond (.loc 13)
.skip
(.exit 0)))
(.seq (.block 1
(.seq (.region [o_ (.mov (.loc 4)),o_ (.mov (.loc 5)),o_ (.indexAddrS 1 (.reg 0) (.reg 1)),o_ (.load1 (.reg 2)),o_ (.bin .lss (.reg 3) (i_ 0)),o_ (.mov (.reg 4)),⟨.loadN 3 (.loc 2),none,(some (5,true))⟩,⟨.mov (.loc 5),none,(some (5,true))⟩,⟨.call true false 15 [(.reg 6),(.reg 7)],none,(some (5,true))⟩,⟨.bin .lss (.reg 8) (i_ 24),none,(some (5,true))⟩,s_ 14 (.pick (.reg 5) (.reg 9) (.cst (.bool false)))])
(.cond (.loc 14)
(.seq (.region [s_ 3 (.mov (.cst (.bool false)))])
.ret)
.skip)))
(.region [o_ (.mov (.loc 5)),o_ (.bin .add (.reg 0) (i_ 1)),s_ 5 (.mov (.reg 1))])))
def t5 : TFunc := ⟨2,20,[.loc 3],
(.seq (.region [o_ (.boxL 2 (.loc 0)),s_ 3 (.mov (.cst (.bool false)))])
(.seq (.seq (.region [o_ (.loadN 3 (.loc 2)),o_ (.call true false 7 [(.reg 0)]),s_ 10 (.un .not (.reg 1))])
(.cond (.loc 10)
(.seq (.region [o_ (.call true false 8 []),s_ 3 (.mov (.reg 0))])
.ret)
.skip))
(.seq (.region [o_ (.loadN 3 (.loc 2)),o_ (.call true false 9 [(.reg 0)]),s_ 4 (.mov (.reg 1))])
(.seq (.seq (.region [o_ (.mov (.loc 4)),o_ (.len .sl (.reg 0)),s_ 11 (.bin .eql (.reg 1) (i_ 0))])
(.cond (.loc 11)
(.seq (.region [o_ (.call true false 8 []),s_ 3 (.mov (.reg 0))])
.ret)
.skip))
(.seq (.seq (.region [o_ (.mov (.loc 4)),o_ (.len .sl (.reg 0)),o_ (.fieldAddr 0 (.loc 2)),o_ (.load1 (.reg 2)),o_ (.bin .neq (.reg 1) (.reg 3)),o_ (.mov (.reg 4)),⟨.loadN 3 (.loc 2),none,(some (5,false))⟩,⟨.mov (.loc 4),none,(some (5,false))⟩,⟨.call true false 14 [(.reg 6),(.reg 7)],none,(some (5,false))⟩,⟨.un .not (.reg 8),none,(some (5,false))⟩,s_ 12 (.pick (.reg 5) (.cst (.bool true)) (.reg 9))])
(.cond (.loc 12)
(.seq (.region [s_ 3 (.mov (.cst (.bool false)))])
.ret)
.skip))
(.seq (.seq (.region [s_ 5 (.mov (i_ 32))])
(.block 0
(.loop t5L2)))
(.seq (.region [o_ (.fieldAddr 0 (.loc 2)),o_ (.load1 (.reg 0)),o_ (.build [(.int .i64 0),(.sl .nil []),(.sl .nil [])] [(0,1,(.reg 1))]),o_ (.allocL 6 [(.int .i64 0),(.sl .nil []),(.sl .nil [])]),o_ (.store 3 (.reg 3) (.reg 2))])
(.seq (.seq (.region [s_ 7 (.mov (i_ 0))])
(.block 2
(.loop t5L1)))
(.seq (.region [o_ (.fieldAddr 0 (.loc 2)),o_ (.load1 (.reg 0)),o_ (.fieldAddr 2 (.loc 2)),o_ (.load1 (.reg 2)),o_ (.build [(.int .i64 0),(.sl .nil []),(.sl .nil [])] [(0,1,(.reg 1)),(2,1,(.reg 3))]),o_ (.call true false 9 [(.reg 4)]),s_ 8 (.mov (.reg 5))])
(.seq (.seq (.region [o_ (.mov (.loc 8)),o_ (.len .sl (.reg 0)),o_ (.fieldAddr 0 (.loc 2)),o_ (.load1 (.reg 2)),s_ 17 (.bin .neq (.reg 1) (.reg 3))])
(.cond (.loc 17)
(.seq (.region [s_ 3 (.mov (.cst (.bool false)))])
.ret)
.skip))
(.seq (.seq (.region [s_ 9 (.mov (i_ 32))])
(.block 4
(.loop t5L0)))
(.seq (.region [o_ (.loadN 3 (.loc 6)),o_ (.mov (.loc 4)),o_ (.call true false 14 [(.reg 0),(.reg 1)]),o_ (.mov (.reg 2)),⟨.call true false 8 [],none,(some (3,true))⟩,o_ (.pick (.reg 3) (.reg 4) (.cst (.bool false))),s_ 3 (.mov (.reg 5))])
.ret))))))))))))⟩
theorem c5 : compFunc Try.prog opts a5 Try.f5 = some t5 := by kernel_rfl
def a6 : Ann := { slots := [0,1,2,3,4,5,6,7,9],lb := [],mu := [],trunc := [],draws := [] }
def t6L0 : TCode := (.seq (.seq (.region [o_ (.mov (.loc 2)),s_ 8 (.bin .leq (.reg 0) (i_ 24))])
(.cond (.loc 8)
.skip
(.exit 0)))
(.seq (.block 1
(.region [o_ (.mov (.loc 1)),o_ (.mov (.loc 2)),o_ (.build [(.int .i64 0),(.int .i64 0)] [(0,1,(.reg 1)),(1,1,(i_ 32))]),o_ (.lit false [(.int .i64 0),(.int .i64 0)] 1 [(0,(.reg 2))]),o_ (.append false 2 16 37 (.reg 0) (.reg 3)),s_ 1 (.mov (.reg 4))]))
(.region [o_ (.mov (.loc 2)),o_ (.bin .add (.reg 0) (i_ 1)),s_ 2 (.mov (.reg 1))])))
def t6 : TFunc := ⟨0,9,[.loc 0],
(.seq (.region [s_ 0 (.mov (.cst (.bool false)))])
(.seq (.region [s_ 1 (.mov (.cst (.sl .nil [])))])
(.seq (.seq (.region [s_ 2 (.mov (i_ 1))])
(.block 0
(.loop t6L0)))
(.seq (.region [o_ (.mov (.loc 1)),o_ (.build [(.int .i64 0),(.sl .nil []),(.sl .nil [])] [(0,1,(i_ 33)),(1,1,(.reg 0))]),o_ (.call true false 9 [(.reg 1)]),s_ 3 (.mov (.reg 2))])
(.seq (.region [o_ (.mov (.loc 1)),o_ (.slice (.sl 2) (.reg 0) (some (i_ 1)) none none),o_ (.build [(.int .i64 0),(.int .i64 0)] [(0,1,(i_ 4)),(1,1,(i_ 33))]),o_ (.lit false [(.int .i64 0),(.int .i64 0)] 1 [(0,(.reg 2))]),o_ (.build [(.int .i64 0),(.sl .nil []),(.sl .nil [])] [(0,1,(i_ 34)),(1,1,(.reg 1)),(2,1,(.reg 3))]),o_ (.call true false 9 [(.reg 4)]),s_ 4 (.mov (.reg 5))])
(.seq (.region [o_ (.build [(.int .i64 0),(.sl .nil []),(.sl .nil [])] [(0,1,(i_ 31))]),o_ (.call true false 9 [(.reg 0)]),s_ 5 (.mov (.reg 1))])
(.seq (.region [o_ (.build [(.int .i64 0),(.int .i64 0)] [(0,1,(i_ 0)),(1,1,(i_ 32))]),o_ (.lit false [(.int .i64 0),(.int .i64 0)] 1 [(0,(.reg 0))]),o_ (.build [(.int .i64 0),(.sl .nil []),(.sl .nil [])] [(0,1,(i_ 33)),(1,1,(.reg 1))]),o_ (.call true false 9 [(.reg 2)]),s_ 6 (.mov (.reg 3))])
(.seq (.region [o_ (.build [(.int .i64 0),(.int .i64 0)] [(0,1,(i_ 32)),(1,1,(i_ 32))]),o_ (.lit false [(.int .i64 0),(.int .i64 0)] 1 [(0,(.reg 0))]),o_ (.build [(.int .i64 0),(.sl .nil []),(.sl .nil [])] [(0,1,(i_ 33)),(2,1,(.reg 1))]),o_ (.call true false 9 [(.reg 2)]),s_ 7 (.mov (.reg 3))])
(.seq (.region [o_ (.mov (.loc 3)),o_ (.len .sl (.reg 0)),o_ (.bin .eql (.reg 1) (i_ 33)),o_ (.mov (.reg 2)),⟨.mov (.loc 3),none,(some (3,true))⟩,⟨.indexAddrS 1 (.reg 4) (i_ 32),none,(some (3,true))⟩,⟨.load1 (.reg 5),none,(some (3,true))⟩,⟨.bin .eql (.reg 6) (i_ (-1)),none,(some (3,true))⟩,o_ (.pick (.reg 3) (.reg 7) (.cst (.bool false))),o_ (.mov (.reg 8)),⟨.mov (.loc 4),none,(some (9,true))⟩,⟨.len .sl (.reg 10),none,(some (9,true))⟩,⟨.bin .eql (.reg 11) (i_ 34),none,(some (9,true))⟩,o_ (.pick (.reg 9) (.reg 12) (.cst (.bool false))),o_ (.mov (.reg 13)),⟨.mov (.loc 4),none,(some (14,true))⟩,⟨.indexAddrS 1 (.reg 15) (i_ 32),none,(some (14,true))⟩,⟨.load1 (.reg 16),none,(some (14,true))⟩,⟨.bin .eql (.reg 17) (i_ 1),none,(some (14,true))⟩,o_ (.pick (.reg 14) (.reg 18) (.cst (.bool false))),o_ (.mov (.reg 19)),⟨.mov (.loc 4),none,(some (20,true))⟩,⟨.indexAddrS 1 (.reg 21) (i_ 33),none,(some (20,true))⟩,⟨.load1 (.reg 22),none,(some (20,true))⟩,⟨.bin .geq (.reg 23) (i_ 1),none,(some (20,true))⟩,o_ (.pick (.reg 20) (.reg 24) (.cst (.bool false))),o_ (.mov (.reg 25)),⟨.mov (.loc 5),none,(some (26,true))⟩,⟨.len .sl (.reg 27),none,(some (26,true))⟩,⟨.bin .eql (.reg 28) (i_ 0),none,(some (26,true))⟩,o_ (.pick (.reg 26) (.reg 29) (.cst (.bool false))),o_ (.mov (.reg 30)),⟨.mov (.loc 6),none,(some (31,true))⟩,⟨.len .sl (.reg 32),none,(some (31,true))⟩,⟨.bin .eql (.reg 33) (i_ 0),none,(some (31,true))⟩,o_ (.pick (.reg 31) (.reg 34) (.cst (.bool false))),o_ (.mov (.reg 35)),⟨.mov (.loc 7),none,(some (36,true))⟩,⟨.len .sl (.reg 37),none,(some (36,true))⟩,⟨.bin .eql (.reg 38) (i_ 0),none,(some (36,true))⟩,o_ (.pick (.reg 36) (.reg 39) (.cst (.bool false))),o_ (.mov (.reg 40)),⟨.call true false 8 [],none,(some (41,true))⟩,o_ (.pick (.reg 41) (.reg 42) (.cst (.bool false))),s_ 0 (.mov (.reg 43))])
.ret)))))))))⟩
theorem c6 : compFunc Try.prog opts a6 Try.f6 = some t6 := by kernel_rfl
def a7 : Ann := { slots := [0,1,2],lb := [1],mu := [],trunc := [],draws := [] }
def t7 : TFunc := ⟨1,3,[.loc 2],
(.seq (.region [o_ (.boxL 1 (.loc 0)),s_ 2 (.mov (.cst (.bool false)))])
(.seq (.region [o_ (.fieldAddr 0 (.loc 1)),o_ (.load1 (.reg 0)),o_ (.bin .leq (.reg 1) (i_ 70)),o_ (.mov (.reg 2)),⟨.fieldAddr 1 (.loc 1),none,(some (3,true))⟩,⟨.load1 (.reg 4),none,(some (3,true))⟩,⟨.len .sl (.reg 5),none,(some (3,true))⟩,⟨.bin .leq (.reg 6) (i_ 400),none,(some (3,true))⟩,o_ (.pick (.reg 3) (.reg 7) (.cst (.bool false))),o_ (.mov (.reg 8)),⟨.fieldAddr 2 (.loc 1),none,(some (9,true))⟩,⟨.load1 (.reg 10),none,(some (9,true))⟩,⟨.len .sl (.reg 11),none,(some (9,true))⟩,⟨.bin .leq (.reg 12) (i_ 400),none,(some (9,true))⟩,o_ (.pick (.reg 9) (.reg 13) (.cst (.bool false))),s_ 2 (.mov (.reg 14))])
.ret))⟩
theorem c7 : compFunc Try.prog opts a7 Try.f7 = some t7 := by kernel_rfl
def a8 : Ann := { slots := [0,1],lb := [],mu := [],trunc := [],draws := [(2,⟨[0,1,3,7,15,31,63,15,143,399,1023,2047,4095,8191,16383,32767,65535,131071,262143,524287,1048575,2097151,4194303,8388607,16777215,33554431,67108863,134217727,268435455,536870911,1073741823,2147483647,4294967295,8589934591,17179869183,34359738367],[0,1,2,3,4,5,6,7,8,9,10,11,12,13,14,15,16,17,18,19,20,21,22,23,24,25,26,27,28,29,30,31],[(32,[],[33,34,35])]⟩)] }
def t8 : TFunc := ⟨0,2,[.loc 0],
(.seq (.region [s_ 0 (.mov (.cst (.bool false)))])
(.seq (.region [o_ (.build [(.int .i64 0),(.int .i64 0)] [(0,1,(i_ 32)),(1,1,(i_ 33))]),o_ (.lit false [(.int .i64 0),(.int .i64 0)] 1 [(0,(.reg 0))]),o_ (.build [(.int .i64 0),(.sl .nil []),(.sl .nil [])] [(0,1,(i_ 34)),(1,1,(.reg 1))]),o_ (.call true false 9 [(.reg 2)]),s_ 1 (.mov (.reg 3))])
(.seq (.draw [0,1,2,3,4,5,6,7,8,9,10,11,12,13,14,15,16,17,18,19,20,21,22,23,24,25,26,27,28,29,30,31] [(32,[],[33,34,35])] [o_ (.mov (.loc 1)),o_ (.len .sl (.reg 0)),o_ (.bin .eql (.reg 1) (i_ 34)),o_ (.mov (.reg 2)),⟨.mov (.loc 1),none,(some (3,true))⟩,⟨.indexAddrS 1 (.reg 4) (i_ 32),none,(some (3,true))⟩,⟨.load1 (.reg 5),none,(some (3,true))⟩,⟨.mov (.loc 1),none,(some (3,true))⟩,⟨.indexAddrS 1 (.reg 7) (i_ 33),none,(some (3,true))⟩,⟨.load1 (.reg 8),none,(some (3,true))⟩,⟨.bin .neq (.reg 6) (.reg 9),none,(some (3,true))⟩,o_ (.pick (.reg 3) (.reg 10) (.cst (.bool false))),o_ (.mov (.reg 11)),⟨.mov (.loc 1),none,(some (12,true))⟩,⟨.indexAddrS 1 (.reg 13) (i_ 32),none,(some (12,true))⟩,⟨.load1 (.reg 14),none,(some (12,true))⟩,⟨.bin .geq (.reg 15) (i_ 1),none,(some (12,true))⟩,o_ (.pick (.reg 12) (.reg 16) (.cst (.bool false))),o_ (.mov (.reg 17)),⟨.mov (.loc 1),none,(some (18,true))⟩,⟨.indexAddrS 1 (.reg 19) (i_ 33),none,(some (18,true))⟩,⟨.load1 (.reg 20),none,(some (18,true))⟩,⟨.bin .geq (.reg 21) (i_ 1),none,(some (18,true))⟩,o_ (.pick (.reg 18) (.reg 22) (.cst (.bool false))),o_ (.mov (.reg 23)),⟨.mov (.loc 1),none,(some (24,true))⟩,⟨.indexAddrS 1 (.reg 25) (i_ 5),none,(some (24,true))⟩,⟨.load1 (.reg 26),none,(some (24,true))⟩,⟨.bin .eql (.reg 27) (i_ 5),none,(some (24,true))⟩,o_ (.pick (.reg 24) (.reg 28) (.cst (.bool false))),o_ (.mov (.reg 29)),⟨.build [(.int .i64 0),(.sl .nil []),(.sl .nil [])] [(0,1,(i_ 34))],none,(some (30,true))⟩,⟨.call true false 14 [(.reg 31),(.cst (.sl .nil []))],none,(some (30,true))⟩,⟨.un .not (.reg 32),none,(some (30,true))⟩,o_ (.pick (.reg 30) (.reg 33) (.cst (.bool false))),s_ 0 (.mov (.reg 34))])
.ret)))⟩
theorem c8 : compFunc Try.prog opts a8 Try.f8 = some t8 := by kernel_rfl
def a9 : Ann := { slots := [0,1,2,3,4,6,8,11,16,17,28,29,30,31,45,46,47],lb := [1],mu := [],trunc := [],draws := [(17,⟨[0,0,0,6,15],[0,1,2],[(3,[0],[]),(4,[],[])]⟩)] }
def t9L0 : TCode := (.seq (.region [s_ 13 (.bin .lss (.loc 12) (.loc 11))])
(.seq (.cond (.loc 13)
.skip
(.exit 2))
(.seq (.block 3
(.seq (.region [o_ (.indexAddrS 1 (.loc 10) (.loc 12)),o_ (.load1 (.reg 0)),s_ 5 (.mov (.reg 1))])
(.region [o_ (.load1 (.loc 3)),o_ (.nilCheck (.reg 0)),o_ (.fieldAddr 6 (.reg 1)),o_ (.load1 (.reg 2)),o_ (.mov (.loc 5)),o_ (.mov (.loc 4)),o_ (.indexAddrS 1 (.reg 3) (.reg 4)),o_ (.store 1 (.reg 6) (.reg 5))])))
(.region [o_ (.bin .add (.loc 12) (i_ 1)),s_ 12 (.mov (.reg 0))]))))
def t9L1 : TCode := (.seq (.region [s_ 9 (.bin .lss (.loc 8) (i_ 32))])
(.seq (.cond (.loc 9)
.skip
(.exit 0))
(.seq (.block 1
(.seq (.region [o_ (.mov (.loc 8)),s_ 4 (.mov (.reg 0))])
(.seq (.region [o_ (.load1 (.loc 3)),o_ (.nilCheck (.reg 0)),o_ (.fieldAddr 6 (.reg 1)),o_ (.load1 (.reg 2)),o_ (.mov (.loc 4)),o_ (.mov (.loc 4)),o_ (.indexAddrS 1 (.reg 3) (.reg 4)),o_ (.store 1 (.reg 6) (.reg 5))])
(.seq (.region [o_ (.load1 (.loc 3)),o_ (.mov (.loc 4)),s_ 10 (.call false false 19 [(.reg 0),(.reg 1)]),s_ 11 (.len .sl (.reg 2)),s_ 12 (.mov (i_ 0))])
(.block 2
(.loop t9L0))))))
(.region [o_ (.bin .add (.loc 8) (i_ 1)),s_ 8 (.mov (.reg 0))]))))
def t9 : TFunc := ⟨1,17,[.loc 2],
(.seq (.region [o_ (.boxL 1 (.loc 0)),s_ 2 (.mov (.cst (.sl .nil [])))])
(.seq (.seq (.region [o_ (.loadN 3 (.loc 1)),o_ (.call true false 16 [(.reg 0)]),s_ 7 (.un .not (.reg 1))])
(.cond (.loc 7)
(.seq (.region [s_ 2 (.mov (.cst (.sl .nil [])))])
.ret)
.skip))
(.seq (.region [o_ (.loadN 3 (.loc 1)),o_ (.call false false 17 [(.reg 0)]),s_ 3 (.allocH 40 [.nilp]),o_ (.store 1 (.reg 2) (.reg 1))])
(.seq (.region [o_ (.load1 (.loc 3)),o_ (.call false false 18 [(.reg 0)])])
(.seq (.seq (.region [s_ 8 (.mov (i_ 0))])
(.block 0
(.loop t9L1)))
(.seq (.seq (.region [o_ (.load1 (.loc 3)),o_ (.call false false 21 [(.reg 0)]),s_ 14 (.call false false 20 [(.reg 1)])])
(.block 4
(.rangeFunc (.loc 14) [15,16]
(.region [s_ 6 (.mov (.loc 16))])
(.block 5
(.draw [0,1,2] [(3,[0],[]),(4,[],[])] [o_ (.load1 (.loc 3)),o_ (.load1 (.loc 3)),o_ (.mov (.loc 6)),o_ (.call false false 19 [(.reg 1),(.reg 2)]),o_ (.call false false 22 [(.reg 0),(.reg 3)])])))))
(.seq (.region [o_ (.load1 (.loc 3)),o_ (.nilCheck (.reg 0)),o_ (.fieldAddr 6 (.reg 1)),o_ (.load1 (.reg 2)),s_ 2 (.mov (.reg 3))])
.ret)))))))⟩
theorem c9 : compFunc Try.prog opts a9 Try.f9 = some t9 := by kernel_rfl
def a10 : Ann := { slots := [0,1,2],lb := [2,1],mu := [],trunc := [],draws := [] }
def t10 : TFunc := ⟨1,3,[.cell 2 3 true],
(.seq (.region [o_ (.boxL 1 (.loc 0)),o_ (.allocL 2 [(.int .i64 0),(.sl .nil []),(.sl .nil [])])])
(.seq (.region [o_ (.fieldAddr 0 (.loc 1)),o_ (.load1 (.reg 0)),o_ (.fieldAddr 1 (.loc 1)),o_ (.load1 (.reg 2)),o_ (.fieldAddr 2 (.loc 1)),o_ (.load1 (.reg 4)),o_ (.build [(.int .i64 0),(.sl .nil []),(.sl .nil [])] [(0,1,(.reg 1)),(1,1,(.reg 3)),(2,1,(.reg 5))]),o_ (.store 3 (.loc 2) (.reg 6))])
.ret))⟩
theorem c10 : compFunc Try.prog opts a10 Try.f10 = some t10 := by kernel_rfl
def a11 : Ann := { slots := [0,1,2,3,4,5,6,18,53],lb := [1],mu := [],trunc := [],draws := [] }
def t11L0 : TCode := (.seq (.seq (.region [o_ (.mov (.loc 4)),o_ (.mov (.loc 3)),o_ (.len .sl (.reg 1)),s_ 7 (.bin .lss (.reg 0) (.reg 2))])
(.cond (.loc 7)
.skip
(.exit 0)))
(.seq (.block 1
(.seq (.region [o_ (.mov (.loc 3)),o_ (.mov (.loc 4)),o_ (.indexAddrS 2 (.reg 0) (.reg 1)),o_ (.indexAddrA 2 1 (.reg 2) (i_ 0)),o_ (.load1 (.reg 3)),s_ 5 (.mov (.reg 4))])
(.seq (.region [o_ (.mov (.loc 3)),o_ (.mov (.loc 4)),o_ (.indexAddrS 2 (.reg 0) (.reg 1)),o_ (.indexAddrA 2 1 (.reg 2) (i_ 1)),o_ (.load1 (.reg 3)),s_ 6 (.mov (.reg 4))])
(.seq (.region [o_ (.mov (.loc 5)),o_ (.bin .lss (.reg 0) (i_ 1)),o_ (.mov (.reg 1)),⟨.mov (.loc 6),none,(some (2,false))⟩,⟨.bin .lss (.reg 3) (i_ 1),none,(some (2,false))⟩,o_ (.pick (.reg 2) (.cst (.bool true)) (.reg 4)),o_ (.mov (.reg 5)),⟨.mov (.loc 5),none,(some (6,false))⟩,⟨.fieldAddr 0 (.loc 1),none,(some (6,false))⟩,⟨.load1 (.reg 8),none,(some (6,false))⟩,⟨.bin .geq (.reg 7) (.reg 9),none,(some (6,false))⟩,o_ (.pick (.reg 6) (.cst (.bool true)) (.reg 10)),o_ (.mov (.reg 11)),⟨.mov (.loc 6),none,(some (12,false))⟩,⟨.fieldAddr 0 (.loc 1),none,(some (12,false))⟩,⟨.load1 (.reg 14),none,(some (12,false))⟩,⟨.bin .geq (.reg 13) (.reg 15),none,(some (12,false))⟩,o_ (.pick (.reg 12) (.cst (.bool true)) (.reg 16)),o_ (.mov (.reg 17)),⟨.mov (.loc 5),none,(some (18,false))⟩,⟨.mov (.loc 6),none,(some (18,false))⟩,⟨.bin .eql (.reg 19) (.reg 20),none,(some (18,false))⟩,s_ 8 (.pick (.reg 18) (.cst (.bool true)) (.reg 21))])
(.cond (.loc 8)
(.seq (.region [s_ 2 (.mov (.cst (.bool false)))])
.ret)
.skip)))))
(.region [o_ (.mov (.loc 4)),o_ (.bin .add (.reg 0) (i_ 1)),s_ 4 (.mov (.reg 1))])))
def t11 : TFunc := ⟨1,9,[.loc 2],
(.seq (.region [o_ (.boxL 1 (.loc 0)),s_ 2 (.mov (.cst (.bool false)))])
(.seq (.region [s_ 3 (.mov (.cst (.sl .nil [])))])
(.seq (.region [o_ (.mov (.loc 3)),o_ (.fieldAddr 1 (.loc 1)),o_ (.load1 (.reg 1)),o_ (.append false 2 16 37 (.reg 0) (.reg 2)),s_ 3 (.mov (.reg 3))])
(.seq (.region [o_ (.mov (.loc 3)),o_ (.fieldAddr 2 (.loc 1)),o_ (.load1 (.reg 1)),o_ (.append false 2 16 37 (.reg 0) (.reg 2)),s_ 3 (.mov (.reg 3))])
(.seq (.seq (.region [s_ 4 (.mov (i_ 0))])
(.block 0
(.loop t11L0)))
(.seq (.region [o_ (.fieldAddr 0 (.loc 1)),o_ (.load1 (.reg 0)),o_ (.bin .geq (.reg 1) (i_ 32)),s_ 2 (.mov (.reg 2))])
.ret))))))⟩
theorem c11 : compFunc Try.prog opts a11 Try.f11 = some t11 := by kernel_rfl
def a12 : Ann := { slots := [0,1,2,4,5,6,7,17,21,58,63,89],lb := [2],mu := [],trunc := [],draws := [] }
def t12L0 : TCode := (.seq (.seq (.region [o_ (.mov (.loc 5)),o_ (.fieldAddr 1 (.loc 2)),o_ (.load1 (.reg 1)),o_ (.len .sl (.reg 2)),s_ 10 (.bin .lss (.reg 0) (.reg 3))])
(.cond (.loc 10)
.skip
(.exit 2)))
(.seq (.block 3
(.seq (.region [o_ (.mov (.loc 1)),o_ (.fieldAddr 1 (.loc 2)),o_ (.load1 (.reg 1)),o_ (.mov (.loc 5)),o_ (.indexAddrS 2 (.reg 2) (.reg 3)),o_ (.indexAddrA 2 1 (.reg 4) (i_ 0)),o_ (.load1 (.reg 5)),o_ (.indexAddrS 1 (.reg 0) (.reg 6)),o_ (.load1 (.reg 7)),s_ 6 (.mov (.reg 8))])
(.seq (.region [o_ (.mov (.loc 6)),o_ (.mov (.loc 1)),o_ (.fieldAddr 1 (.loc 2)),o_ (.load1 (.reg 2)),o_ (.mov (.loc 5)),o_ (.indexAddrS 2 (.reg 3) (.reg 4)),o_ (.indexAddrA 2 1 (.reg 5) (i_ 1)),o_ (.load1 (.reg 6)),o_ (.indexAddrS 1 (.reg 1) (.reg 7)),o_ (.load1 (.reg 8)),o_ (.bin .eql (.reg 0) (.reg 9)),o_ (.mov (.reg 10)),⟨.mov (.loc 6),none,(some (11,true))⟩,⟨.bin .neq (.reg 12) (i_ (-1)),none,(some (11,true))⟩,s_ 11 (.pick (.reg 11) (.reg 13) (.cst (.bool false)))])
(.cond (.loc 11)
(.seq (.region [s_ 3 (.mov (.cst (.bool false)))])
.ret)
.skip))))
(.region [o_ (.mov (.loc 5)),o_ (.bin .add (.reg 0) (i_ 1)),s_ 5 (.mov (.reg 1))])))
def t12L1 : TCode := (.seq (.seq (.region [o_ (.mov (.loc 4)),o_ (.fieldAddr 0 (.loc 2)),o_ (.load1 (.reg 1)),s_ 8 (.bin .lss (.reg 0) (.reg 2))])
(.cond (.loc 8)
.skip
(.exit 0)))
(.seq (.block 1
(.seq (.region [o_ (.mov (.loc 4)),o_ (.bin .lss (.reg 0) (i_ 32)),o_ (.mov (.reg 1)),⟨.mov (.loc 1),none,(some (2,true))⟩,⟨.mov (.loc 4),none,(some (2,true))⟩,⟨.indexAddrS 1 (.reg 3) (.reg 4),none,(some (2,true))⟩,⟨.load1 (.reg 5),none,(some (2,true))⟩,⟨.mov (.loc 4),none,(some (2,true))⟩,⟨.bin .neq (.reg 6) (.reg 7),none,(some (2,true))⟩,o_ (.pick (.reg 2) (.reg 8) (.cst (.bool false))),o_ (.mov (.reg 9)),⟨.mov (.loc 4),none,(some (10,false))⟩,⟨.bin .geq (.reg 11) (i_ 32),none,(some (10,false))⟩,⟨.mov (.reg 12),none,(some (10,false))⟩,⟨.mov (.loc 1),none,(some (13,true))⟩,⟨.mov (.loc 4),none,(some (13,true))⟩,⟨.indexAddrS 1 (.reg 14) (.reg 15),none,(some (13,true))⟩,⟨.load1 (.reg 16),none,(some (13,true))⟩,⟨.bin .neq (.reg 17) (i_ (-1)),none,(some (13,true))⟩,⟨.pick (.reg 13) (.reg 18) (.cst (.bool false)),none,(some (10,false))⟩,⟨.mov (.reg 19),none,(some (10,false))⟩,⟨.mov (.loc 1),none,(some (20,true))⟩,⟨.mov (.loc 4),none,(some (20,true))⟩,⟨.indexAddrS 1 (.reg 21) (.reg 22),none,(some (20,true))⟩,⟨.load1 (.reg 23),none,(some (20,true))⟩,⟨.bin .lss (.reg 24) (i_ 1),none,(some (20,true))⟩,⟨.mov (.reg 25),none,(some (20,true))⟩,⟨.mov (.loc 1),none,(some (26,false))⟩,⟨.mov (.loc 4),none,(some (26,false))⟩,⟨.indexAddrS 1 (.reg 27) (.reg 28),none,(some (26,false))⟩,⟨.load1 (.reg 29),none,(some (26,false))⟩,⟨.bin .gtr (.reg 30) (i_ 24),none,(some (26,false))⟩,⟨.pick (.reg 26) (.cst (.bool true)) (.reg 31),none,(some (20,true))⟩,⟨.pick (.reg 20) (.reg 32) (.cst (.bool false)),none,(some (10,false))⟩,s_ 9 (.pick (.reg 10) (.cst (.bool true)) (.reg 33))])
(.cond (.loc 9)
(.seq (.region [s_ 3 (.mov (.cst (.bool false)))])
.ret)
.skip)))
(.region [o_ (.mov (.loc 4)),o_ (.bin .add (.reg 0) (i_ 1)),s_ 4 (.mov (.reg 1))])))
def t12 : TFunc := ⟨2,12,[.loc 3],
(.seq (.region [o_ (.boxL 2 (.loc 0)),s_ 3 (.mov (.cst (.bool false)))])
(.seq (.seq (.region [o_ (.loadN 3 (.loc 2)),o_ (.call true false 11 [(.reg 0)]),o_ (.un .not (.reg 1)),o_ (.mov (.reg 2)),⟨.mov (.loc 1),none,(some (3,false))⟩,⟨.len .sl (.reg 4),none,(some (3,false))⟩,⟨.fieldAddr 0 (.loc 2),none,(some (3,false))⟩,⟨.load1 (.reg 6),none,(some (3,false))⟩,⟨.bin .neq (.reg 5) (.reg 7),none,(some (3,false))⟩,s_ 7 (.pick (.reg 3) (.cst (.bool true)) (.reg 8))])
(.cond (.loc 7)
(.seq (.region [s_ 3 (.mov (.cst (.bool false)))])
.ret)
.skip))
(.seq (.seq (.region [s_ 4 (.mov (i_ 0))])
(.block 0
(.loop t12L1)))
(.seq (.seq (.region [s_ 5 (.mov (i_ 0))])
(.block 2
(.loop t12L0)))
(.seq (.region [s_ 3 (.mov (.cst (.bool true)))])
.ret)))))⟩
theorem c12 : compFunc Try.prog opts a12 Try.f12 = some t12 := by kernel_rfl
def a13 : Ann := { slots := [0,1,2,3,4,5,6,7,11,18,22,36],lb := [1],mu := [],trunc := [],draws := [(13,⟨[0,1,3,7,7,7,55,119,7,511,1023,2047],[0,1,2,3,4,5,6,7,8],[(9,[],[10,11])]⟩)] }
def t13L0 : TCode := (.seq (.seq (.region [o_ (.mov (.loc 7)), o_ (.mov (.loc 3)), o_ (.len .sl (.reg 1)), s_ 10 (.bin .lss (.reg 0) (.reg 2))])
(.cond (.loc 10)
.skip
(.exit 4)))
(.seq (.block 5
(.seq (.seq (.draw [0,1,2,3,4,5,6,7,8] [(9,[],[10,11])] [o_ (.mov (.loc 5)),o_ (.un .not (.reg 0)),o_ (.mov (.reg 1)),⟨.loadN 3 (.loc 1),none,(some (2,true))⟩,⟨.mov (.loc 3),none,(some (2,true))⟩,⟨.mov (.loc 7),none,(some (2,true))⟩,⟨.indexAddrS 1 (.reg 4) (.reg 5),none,(some (2,true))⟩,⟨.load1 (.reg 6),none,(some (2,true))⟩,⟨.mov (.loc 3),none,(some (2,true))⟩,⟨.call true false 23 [(.reg 3),(.reg 7),(.reg 8)],none,(some (2,true))⟩,⟨.bin .lss (.reg 9) (i_ 24),none,(some (2,true))⟩,s_ 11 (.pick (.reg 2) (.reg 10) (.cst (.bool false)))])
(.cond (.loc 11)
(.seq (.region [s_ 5 (.mov (.cst (.bool true)))])
(.exit 5))
.skip))
(.region [o_ (.mov (.loc 6)),o_ (.mov (.loc 3)),o_ (.mov (.loc 7)),o_ (.indexAddrS 1 (.reg 1) (.reg 2)),o_ (.load1 (.reg 3)),o_ (.lit false [(.int .i64 0)] 1 [(0,(.reg 4))]),o_ (.append false 1 8 3 (.reg 0) (.reg 5)),s_ 6 (.mov (.reg 6))])))
(.region [o_ (.mov (.loc 7)),o_ (.bin .add (.reg 0) (i_ 1)),s_ 7 (.mov (.reg 1))])))
def t13L1 : TCode := (.seq (.seq (.region [s_ 9 (.mov (.loc 5))])
(.cond (.loc 9)
.skip
(.exit 2)))
(.block 3
(.seq (.region [s_ 5 (.mov (.cst (.bool false)))])
(.seq (.region [s_ 6 (.mov (.cst (.sl .nil [])))])
(.seq (.seq (.region [s_ 7 (.mov (i_ 0))])
(.block 4
(.loop t13L0)))
(.region [o_ (.mov (.loc 6)),s_ 3 (.mov (.reg 0))]))))))
def t13L2 : TCode := (.seq (.seq (.region [o_ (.mov (.loc 4)),o_ (.fieldAddr 0 (.loc 1)),o_ (.load1 (.reg 1)),s_ 8 (.bin .lss (.reg 0) (.reg 2))])
(.cond (.loc 8)
.skip
(.exit 0)))
(.seq (.block 1
(.region [o_ (.mov (.loc 3)),o_ (.mov (.loc 4)),o_ (.lit false [(.int .i64 0)] 1 [(0,(.reg 1))]),o_ (.append false 1 8 3 (.reg 0) (.reg 2)),s_ 3 (.mov (.reg 3))]))
(.region [o_ (.mov (.loc 4)),o_ (.bin .add (.reg 0) (i_ 1)),s_ 4 (.mov (.reg 1))])))
def t13 : TFunc := ⟨1,12,[.loc 2],
(.seq (.region [o_ (.boxL 1 (.loc 0)),s_ 2 (.mov (.cst (.bool false)))])
(.seq (.region [s_ 3 (.mov (.cst (.sl .nil [])))])
(.seq (.seq (.region [s_ 4 (.mov (i_ 32))])
(.block 0
(.loop t13L2)))
(.seq (.region [s_ 5 (.mov (.cst (.bool true)))])
(.seq (.block 2
(.loop t13L1))
(.seq (.region [o_ (.mov (.loc 3)),o_ (.len .sl (.reg 0)),o_ (.bin .eql (.reg 1) (i_ 0)),s_ 2 (.mov (.reg 2))])
.ret))))))⟩
theorem c13 : compFunc Try.prog opts a13 Try.f13 = some t13 := by kernel_rfl
def a14 : Ann := { slots := [0,1,2,3,4,5,6,16,17,18,19,20,43],lb := [2],mu := [],trunc := [],draws := [] }
def t14L0 : TCode := (.seq (.region [s_ 11 (.bin .lss (.loc 10) (.loc 9))])
(.seq (.cond (.loc 11)
.skip
(.exit 0))
(.seq (.block 1
(.seq (.region [o_ (.mov (.loc 10)),o_ (.indexAddrS 1 (.loc 8) (.loc 10)),o_ (.load1 (.reg 1)),s_ 5 (.mov (.reg 0)),s_ 6 (.mov (.reg 2))])
(.seq (.region [o_ (.mov (.loc 5)),o_ (.bin .lss (.reg 0) (i_ 32)),o_ (.mov (.reg 1)),⟨.mov (.loc 6),none,(some (2,true))⟩,⟨.mov (.loc 5),none,(some (2,true))⟩,⟨.bin .neq (.reg 3) (.reg 4),none,(some (2,true))⟩,o_ (.pick (.reg 2) (.reg 5) (.cst (.bool false))),o_ (.mov (.reg 6)),⟨.mov (.loc 5),none,(some (7,false))⟩,⟨.bin .geq (.reg 8) (i_ 32),none,(some (7,false))⟩,⟨.mov (.reg 9),none,(some (7,false))⟩,⟨.mov (.loc 6),none,(some (10,true))⟩,⟨.bin .neq (.reg 11) (i_ (-1)),none,(some (10,true))⟩,⟨.pick (.reg 10) (.reg 12) (.cst (.bool false)),none,(some (7,false))⟩,⟨.mov (.reg 13),none,(some (7,false))⟩,⟨.mov (.loc 6),none,(some (14,true))⟩,⟨.call true false 24 [(.reg 15)],none,(some (14,true))⟩,⟨.un .not (.reg 16),none,(some (14,true))⟩,⟨.pick (.reg 14) (.reg 17) (.cst (.bool false)),none,(some (7,false))⟩,s_ 12 (.pick (.reg 7) (.cst (.bool true)) (.reg 18))])
(.cond (.loc 12)
(.seq (.region [s_ 4 (.mov (.cst (.bool false)))])
.ret)
.skip))))
(.region [o_ (.bin .add (.loc 10) (i_ 1)),s_ 10 (.mov (.reg 0))]))))
def t14 : TFunc := ⟨2,13,[.loc 4],
(.seq (.region [o_ (.boxL 2 (.loc 0)),s_ 3 (.boxH 28 (.loc 1)),s_ 4 (.mov (.cst (.bool false)))])
(.seq (.seq (.region [o_ (.loadN 3 (.loc 2)),o_ (.call true false 16 [(.reg 0)]),o_ (.un .not (.reg 1)),o_ (.mov (.reg 2)),⟨.load1 (.loc 3),none,(some (3,false))⟩,⟨.len .sl (.reg 4),none,(some (3,false))⟩,⟨.fieldAddr 0 (.loc 2),none,(some (3,false))⟩,⟨.load1 (.reg 6),none,(some (3,false))⟩,⟨.bin .neq (.reg 5) (.reg 7),none,(some (3,false))⟩,s_ 7 (.pick (.reg 3) (.cst (.bool true)) (.reg 8))])
(.cond (.loc 7)
(.seq (.region [s_ 4 (.mov (.cst (.bool false)))])
.ret)
.skip))
(.seq (.seq (.region [s_ 8 (.load1 (.loc 3)),s_ 9 (.len .sl (.reg 0)),s_ 10 (.mov (i_ 0))])
(.block 0
(.loop t14L0)))
(.seq (.region [o_ (.fieldAddr 1 (.loc 2)),o_ (.load1 (.reg 0)),o_ (.mkFn 26 [] [(.loc 3)]),o_ (.call false false 25 [(.reg 1),(.reg 2)]),o_ (.un .not (.reg 3)),s_ 4 (.mov (.reg 4))])
.ret))))⟩
theorem c14 : compFunc Try.prog opts a14 Try.f14 = some t14 := by kernel_rfl
def a15 : Ann := { slots := [0,1,2,4,5,6,7,8,9,14,24,38,50,63],lb := [2],mu := [],trunc := [],draws := [] }
def t15L0 : TCode := (.seq (.seq (.region [o_ (.mov (.loc 8)), o_ (.mov (.loc 4)), o_ (.len .sl (.reg 1)), s_ 12 (.bin .lss (.reg 0) (.reg 2))])
(.cond (.loc 12)
.skip
(.exit 2)))
(.seq (.block 3
(.region [o_ (.mov (.loc 7)),o_ (.mov (.reg 0)),⟨.mov (.loc 4),none,(some (1,false))⟩,⟨.mov (.loc 8),none,(some (1,false))⟩,⟨.indexAddrS 1 (.reg 2) (.reg 3),none,(some (1,false))⟩,⟨.load1 (.reg 4),none,(some (1,false))⟩,⟨.mov (.loc 6),none,(some (1,false))⟩,⟨.bin .eql (.reg 5) (.reg 6),none,(some (1,false))⟩,o_ (.pick (.reg 1) (.cst (.bool true)) (.reg 7)),s_ 7 (.mov (.reg 8))]))
(.region [o_ (.mov (.loc 8)),o_ (.bin .add (.reg 0) (i_ 1)),s_ 8 (.mov (.reg 1))])))
def t15L1 : TCode := (.seq (.seq (.region [o_ (.mov (.loc 5)),o_ (.fieldAddr 1 (.loc 2)),o_ (.load1 (.reg 1)),o_ (.len .sl (.reg 2)),s_ 9 (.bin .lss (.reg 0) (.reg 3))])
(.cond (.loc 9)
.skip
(.exit 0)))
(.seq (.block 1
(.seq (.region [s_ 6 (.mov (i_ (-1)))])
(.seq (.seq (.region [o_ (.fieldAddr 1 (.loc 2)),o_ (.load1 (.reg 0)),o_ (.mov (.loc 5)),o_ (.indexAddrS 2 (.reg 1) (.reg 2)),o_ (.indexAddrA 2 1 (.reg 3) (i_ 0)),o_ (.load1 (.reg 4)),o_ (.mov (.loc 1)),s_ 10 (.bin .eql (.reg 5) (.reg 6))])
(.cond (.loc 10)
(.region [o_ (.fieldAddr 1 (.loc 2)),o_ (.load1 (.reg 0)),o_ (.mov (.loc 5)),o_ (.indexAddrS 2 (.reg 1) (.reg 2)),o_ (.indexAddrA 2 1 (.reg 3) (i_ 1)),o_ (.load1 (.reg 4)),s_ 6 (.mov (.reg 5))])
.skip))
(.seq (.seq (.region [o_ (.fieldAddr 1 (.loc 2)),o_ (.load1 (.reg 0)),o_ (.mov (.loc 5)),o_ (.indexAddrS 2 (.reg 1) (.reg 2)),o_ (.indexAddrA 2 1 (.reg 3) (i_ 1)),o_ (.load1 (.reg 4)),o_ (.mov (.loc 1)),s_ 11 (.bin .eql (.reg 5) (.reg 6))])
(.cond (.loc 11)
(.region [o_ (.fieldAddr 1 (.loc 2)),o_ (.load1 (.reg 0)),o_ (.mov (.loc 5)),o_ (.indexAddrS 2 (.reg 1) (.reg 2)),o_ (.indexAddrA 2 1 (.reg 3) (i_ 0)),o_ (.load1 (.reg 4)),s_ 6 (.mov (.reg 5))])
.skip))
(.seq (.region [o_ (.mov (.loc 6)),o_ (.bin .lss (.reg 0) (i_ 0)),s_ 7 (.mov (.reg 1))])
(.seq (.seq (.region [s_ 8 (.mov (i_ 0))])
(.block 2
(.loop t15L0)))
(.seq (.region [o_ (.mov (.loc 7)),s_ 13 (.un .not (.reg 0))])
(.cond (.loc 13)
(.region [o_ (.mov (.loc 4)),o_ (.mov (.loc 6)),o_ (.lit false [(.int .i64 0)] 1 [(0,(.reg 1))]),o_ (.append false 1 8 3 (.reg 0) (.reg 2)),s_ 4 (.mov (.reg 3))])
.skip))))))))
(.region [o_ (.mov (.loc 5)),o_ (.bin .add (.reg 0) (i_ 1)),s_ 5 (.mov (.reg 1))])))
def t15 : TFunc := ⟨2,14,[.loc 3],
(.seq (.region [o_ (.boxL 2 (.loc 0)),s_ 3 (.mov (i_ 0))])
(.seq (.region [s_ 4 (.mov (.cst (.sl .nil [])))])
(.seq (.seq (.region [s_ 5 (.mov (i_ 0))])
(.block 0
(.loop t15L1)))
(.seq (.region [o_ (.mov (.loc 4)),o_ (.len .sl (.reg 0)),s_ 3 (.mov (.reg 1))])
.ret))))⟩
theorem c15 : compFunc Try.prog opts a15 Try.f15 = some t15 := by kernel_rfl
def a16 : Ann := { slots := [0,1,2,3],lb := [],mu := [],trunc := [],draws := [] }
def t16 : TFunc := ⟨1,4,[.loc 2],
(.seq (.region [s_ 1 (.boxH 25 (.loc 0)),s_ 2 (.mov (.cst (.bool false)))])
(.seq (.region [o_ (.mkFn 27 [] [(.loc 1)]),s_ 3 (.mov (.reg 0))])
(.seq (.region [o_ (.fieldAddr 0 (.loc 1)),o_ (.load1 (.reg 0)),o_ (.bin .geq (.reg 1) (i_ 32)),o_ (.mov (.reg 2)),⟨.fieldAddr 1 (.loc 1),none,(some (3,true))⟩,⟨.load1 (.reg 4),none,(some (3,true))⟩,⟨.mov (.loc 3),none,(some (3,true))⟩,⟨.call false false 25 [(.reg 5),(.reg 6)],none,(some (3,true))⟩,⟨.un .not (.reg 7),none,(some (3,true))⟩,o_ (.pick (.reg 3) (.reg 8) (.cst (.bool false))),o_ (.mov (.reg 9)),⟨.fieldAddr 2 (.loc 1),none,(some (10,true))⟩,⟨.load1 (.reg 11),none,(some (10,true))⟩,⟨.mov (.loc 3),none,(some (10,true))⟩,⟨.call false false 25 [(.reg 12),(.reg 13)],none,(some (10,true))⟩,⟨.un .not (.reg 14),none,(some (10,true))⟩,o_ (.pick (.reg 10) (.reg 15) (.cst (.bool false))),s_ 2 (.mov (.reg 16))])
.ret)))⟩
theorem c16 : compFunc Try.prog opts a16 Try.f16 = some t16 := by kernel_rfl
def a17 : Ann := { slots := [0,1,2,3,4,6,14,15,16,50,51,52,53,73],lb := [6,1],mu := [(5,23)],trunc := [],draws := [(1,⟨[0,0,2,6,15,31,63],[0,1,2,3,4,5,6],[]⟩),(5,⟨[0,0,0,0,8,24,56,0,128,504,0,1024,3072,7168,0,16384,65528,0,131072,393216,917504,0,2097152,8388600,16777209,33554425,67108857,134217723,268435451,536870907,1073741823,2147483647,4294967295],[0,1,2,3,4,5,6,7,8,10,11,12,13,14,15,17,18,19,20,21,22],[(9,[13,20],[]),(16,[20],[]),(23,[],[24,25]),(26,[],[27,28]),(29,[],[30,31]),(32,[],[])]⟩),(12,⟨[0,1,3,7,0,16,63,127,0,256,1023,2047,4095],[0,1,2,3,4,5,6,7,8,9,10,11],[(12,[],[])]⟩),(13,⟨[0,1,3,7,0,16,63,127,0,256,1023,2047,4095],[0,1,2,3,4,5,6,7,8,9,10,11],[(12,[],[])]⟩)] }
def t17L0 : TCode := (.seq (.region [s_ 12 (.bin .lss (.loc 11) (.loc 10))])
(.seq (.cond (.loc 12)
.skip
(.exit 2))
(.seq (.block 3
(.seq (.region [o_ (.indexAddrS 2 (.loc 9) (.loc 11)),o_ (.loadN 2 (.reg 0)),o_ (.allocL 5 [(.int .i64 0),(.int .i64 0)]),o_ (.store 2 (.reg 2) (.reg 1))])
(.seq (.region [o_ (.indexAddrA 2 1 (.loc 5) (i_ 0)),o_ (.load1 (.reg 0)),o_ (.call true false 24 [(.reg 1)]),o_ (.mov (.reg 2)),⟨.indexAddrA 2 1 (.loc 5) (i_ 0),none,(some (3,false))⟩,⟨.load1 (.reg 4),none,(some (3,false))⟩,⟨.bin .geq (.reg 5) (i_ 32),none,(some (3,false))⟩,o_ (.pick (.reg 3) (.cst (.bool true)) (.reg 6)),o_ (.mov (.reg 7)),⟨.indexAddrA 2 1 (.loc 5) (i_ 1),none,(some (8,true))⟩,⟨.load1 (.reg 9),none,(some (8,true))⟩,⟨.call true false 24 [(.reg 10)],none,(some (8,true))⟩,⟨.mov (.reg 11),none,(some (8,true))⟩,⟨.indexAddrA 2 1 (.loc 5) (i_ 1),none,(some (12,false))⟩,⟨.load1 (.reg 13),none,(some (12,false))⟩,⟨.bin .geq (.reg 14) (i_ 32),none,(some (12,false))⟩,⟨.pick (.reg 12) (.cst (.bool true)) (.reg 15),none,(some (8,true))⟩,s_ 13 (.pick (.reg 8) (.reg 16) (.cst (.bool false)))])
(.cond (.loc 13)
(.seq (.region [o_ (.mov (.loc 3)),o_ (.indexAddrA 2 1 (.loc 5) (i_ 0)),o_ (.load1 (.reg 1)),o_ (.indexAddrA 2 1 (.loc 5) (i_ 1)),o_ (.load1 (.reg 3)),o_ (.call false false 28 [(.reg 0),(.reg 2),(.reg 4)])])
(.seq (.draw [0,1,2,3,4,5,6,7,8,9,10,11] [(12,[],[])] [o_ (.mov (.loc 3)),o_ (.nilCheck (.reg 0)),o_ (.fieldAddr 4 (.reg 1)),o_ (.load1 (.reg 2)),o_ (.indexAddrA 2 1 (.loc 5) (i_ 0)),o_ (.load1 (.reg 4)),o_ (.indexAddrS 1 (.reg 3) (.reg 5)),o_ (.load1 (.reg 6)),o_ (.indexAddrA 2 1 (.loc 5) (i_ 1)),o_ (.load1 (.reg 8)),o_ (.lookup (.leaf .int) (.int .i64 0) false (.reg 7) (.reg 9)),o_ (.bin .add (.reg 10) (i_ 1)),o_ (.update (.leaf .int) (.reg 7) (.reg 9) (.reg 11))])
(.draw [0,1,2,3,4,5,6,7,8,9,10,11] [(12,[],[])] [o_ (.mov (.loc 3)),o_ (.nilCheck (.reg 0)),o_ (.fieldAddr 4 (.reg 1)),o_ (.load1 (.reg 2)),o_ (.indexAddrA 2 1 (.loc 5) (i_ 1)),o_ (.load1 (.reg 4)),o_ (.indexAddrS 1 (.reg 3) (.reg 5)),o_ (.load1 (.reg 6)),o_ (.indexAddrA 2 1 (.loc 5) (i_ 0)),o_ (.load1 (.reg 8)),o_ (.lookup (.leaf .int) (.int .i64 0) false (.reg 7) (.reg 9)),o_ (.bin .add (.reg 10) (i_ 1)),o_ (.update (.leaf .int) (.reg 7) (.reg 9) (.reg 11))])))
.skip))))
(.region [o_ (.bin .add (.loc 11) (i_ 1)),s_ 11 (.mov (.reg 0))]))))
def t17L1 : TCode := (.seq (.region [s_ 8 (.bin .lss (.loc 7) (.loc 6))])
(.seq (.cond (.loc 8)
.skip
(.exit 0))
(.seq (.block 1
(.seq (.region [o_ (.mov (.loc 7)),s_ 4 (.mov (.reg 0))])
(.draw [0,1,2,3,4,5,6,7,8,10,11,12,13,14,15,17,18,19,20,21,22] [(9,[13,20],[]),(16,[20],[]),(23,[],[24,25]),(26,[],[27,28]),(29,[],[30,31]),(32,[],[])] [o_ (.mov (.loc 3)),o_ (.mov (.loc 3)),o_ (.mov (.loc 3)),o_ (.mov (.loc 3)),o_ (.nilCheck (.reg 3)),o_ (.fieldAddr 3 (.reg 4)),o_ (.load1 (.reg 5)),o_ (.mkMap),o_ (.lit false [.nilm] 1 [(0,(.reg 7))]),o_ (.append false 1 8 54 (.reg 6) (.reg 8)),o_ (.mov (.loc 3)),o_ (.nilCheck (.reg 10)),o_ (.fieldAddr 4 (.reg 11)),o_ (.load1 (.reg 12)),o_ (.mkMap),o_ (.lit false [.nilm] 1 [(0,(.reg 14))]),o_ (.append false 1 8 54 (.reg 13) (.reg 15)),o_ (.mov (.loc 3)),o_ (.nilCheck (.reg 17)),o_ (.fieldAddr 5 (.reg 18)),o_ (.load1 (.reg 19)),o_ (.mov (.loc 4)),o_ (.lit false [(.int .i64 0)] 1 [(0,(.reg 21))]),o_ (.append true 1 8 3 (.reg 20) (.reg 22)),o_ (.nilCheck (.reg 0)),o_ (.fieldAddr 3 (.reg 24)),o_ (.store 1 (.reg 25) (.reg 9)),o_ (.nilCheck (.reg 1)),o_ (.fieldAddr 4 (.reg 27)),o_ (.store 1 (.reg 28) (.reg 16)),o_ (.nilCheck (.reg 2)),o_ (.fieldAddr 5 (.reg 30)),o_ (.store 1 (.reg 31) (.reg 23))])))
(.region [o_ (.bin .add (.loc 7) (i_ 1)),s_ 7 (.mov (.reg 0))]))))
def t17 : TFunc := ⟨1,14,[.loc 2],
(.seq (.region [o_ (.boxL 1 (.loc 0)),s_ 2 (.mov (.cst .nilp))])
(.seq (.draw [0,1,2,3,4,5,6] [] [o_ (.loadN 3 (.loc 1)),o_ (.fieldAddr 0 (.loc 1)),o_ (.load1 (.reg 1)),o_ (.mkSlice [(.int .i64 0)] 8 (.reg 2) (.reg 2)),o_ (.build [(.int .i64 0),(.sl .nil []),(.sl .nil []),(.sl .nil []),(.sl .nil []),(.sl .nil []),(.sl .nil [])] [(0,3,(.reg 0)),(6,1,(.reg 3))]),o_ (.boxH 44 (.reg 4)),s_ 3 (.mov (.reg 5))])
(.seq (.seq (.region [o_ (.fieldAddr 0 (.loc 1)),s_ 6 (.load1 (.reg 0)),s_ 7 (.mov (i_ 0))])
(.block 0
(.loop t17L1)))
(.seq (.seq (.region [o_ (.fieldAddr 1 (.loc 1)),s_ 9 (.load1 (.reg 0)),s_ 10 (.len .sl (.reg 1)),s_ 11 (.mov (i_ 0))])
(.block 2
(.loop t17L0)))
(.seq (.region [o_ (.mov (.loc 3)),s_ 2 (.mov (.reg 0))])
.ret)))))⟩
theorem c17 : compFunc Try.prog opts a17 Try.f17 = some t17 := by kernel_rfl
def a18 : Ann := { slots := [0,2,4,5,6,8,9,14,15,16,17,30,70],lb := [4],mu := [],trunc := [],draws := [(6,⟨[0,0,2,7,0,0,32,127,255,511],[0,1,2,4,5,6],[(3,[6],[]),(7,[],[8,9])]⟩)] }
def t18L0 : TCode := (.seq (.region [s_ 10 (.bin .lss (.loc 9) (.loc 8))])
(.seq (.cond (.loc 10)
.skip
(.exit 2))
(.seq (.block 3
(.seq (.region [o_ (.indexAddrS 2 (.loc 7) (.loc 9)),o_ (.loadN 2 (.reg 0)),o_ (.allocL 2 [(.int .i64 0),(.int .i64 0)]),o_ (.store 2 (.reg 2) (.reg 1))])
(.seq (.draw [0,1,2,4,5,6] [(3,[6],[]),(7,[],[8,9])] [o_ (.mov (.loc 0)),o_ (.indexAddrA 2 1 (.loc 2) (i_ 0)),o_ (.load1 (.reg 1)),o_ (.call false false 29 [(.reg 0),(.reg 2)]),o_ (.mov (.loc 0)),o_ (.indexAddrA 2 1 (.loc 2) (i_ 1)),o_ (.load1 (.reg 5)),o_ (.call false false 29 [(.reg 4),(.reg 6)]),s_ 3 (.mov (.reg 3)),s_ 4 (.mov (.reg 7))])
(.seq (.seq (.region [o_ (.mov (.loc 3)),o_ (.mov (.loc 4)),s_ 11 (.bin .gtr (.reg 0) (.reg 1))])
(.cond (.loc 11)
(.region [o_ (.mov (.loc 4)),o_ (.mov (.loc 3)),s_ 3 (.mov (.reg 0)),s_ 4 (.mov (.reg 1))])
.skip))
(.seq (.region [o_ (.mov (.loc 0)),o_ (.nilCheck (.reg 0)),o_ (.fieldAddr 3 (.reg 1)),o_ (.load1 (.reg 2)),o_ (.mov (.loc 3)),o_ (.indexAddrS 1 (.reg 3) (.reg 4)),o_ (.load1 (.reg 5)),o_ (.mov (.loc 4)),o_ (.lookup (.leaf .int) (.int .i64 0) true (.reg 6) (.reg 7)),o_ (.mov (.reg 8)),o_ (.extract 0 (.reg 9)),o_ (.extract 1 (.reg 9)),o_ (.mov (.reg 10)),s_ 5 (.mov (.reg 11))])
(.seq (.seq (.region [o_ (.mov (.loc 3)),o_ (.mov (.loc 4)),o_ (.bin .eql (.reg 0) (.reg 1)),o_ (.mov (.reg 2)),⟨.mov (.loc 4),none,(some (3,false))⟩,⟨.bin .lss (.reg 4) (i_ 32),none,(some (3,false))⟩,o_ (.pick (.reg 3) (.cst (.bool true)) (.reg 5)),o_ (.mov (.reg 6)),⟨.mov (.loc 3),none,(some (7,false))⟩,⟨.bin .lss (.reg 8) (i_ 32),none,(some (7,false))⟩,⟨.mov (.reg 9),none,(some (7,false))⟩,⟨.mov (.loc 3),none,(some (10,true))⟩,⟨.call true false 24 [(.reg 11)],none,(some (10,true))⟩,⟨.un .not (.reg 12),none,(some (10,true))⟩,⟨.pick (.reg 10) (.reg 13) (.cst (.bool false)),none,(some (7,false))⟩,o_ (.pick (.reg 7) (.cst (.bool true)) (.reg 14)),o_ (.mov (.reg 15)),⟨.mov (.loc 5),none,(some (16,false))⟩,o_ (.pick (.reg 16) (.cst (.bool true)) (.reg 17)),o_ (.mov (.reg 18)),⟨.mov (.loc 0),none,(some (19,false))⟩,⟨.mov (.loc 3),none,(some (19,false))⟩,⟨.mov (.loc 4),none,(some (19,false))⟩,⟨.call false false 30 [(.reg 20),(.reg 21),(.reg 22)],none,(some (19,false))⟩,⟨.un .not (.reg 23),none,(some (19,false))⟩,s_ 12 (.pick (.reg 19) (.cst (.bool true)) (.reg 24))])
(.cond (.loc 12)
(.exit 3)
.skip))
(.seq (.region [o_ (.mov (.loc 0)),o_ (.mov (.loc 3)),o_ (.mov (.loc 4)),o_ (.call false false 31 [(.reg 0),(.reg 1),(.reg 2)])])
(.region [s_ 1 (.mov (.cst (.bool true)))]))))))))
(.region [o_ (.bin .add (.loc 9) (i_ 1)),s_ 9 (.mov (.reg 0))]))))
def t18L1 : TCode := (.seq (.seq (.region [s_ 6 (.mov (.loc 1))])
(.cond (.loc 6)
.skip
(.exit 0)))
(.block 1
(.seq (.region [s_ 1 (.mov (.cst (.bool false)))])
(.seq (.region [o_ (.mov (.loc 0)),o_ (.nilCheck (.reg 0)),o_ (.fieldAddr 0 (.reg 1)),o_ (.fieldAddr 2 (.reg 2)),s_ 7 (.load1 (.reg 3)),s_ 8 (.len .sl (.reg 4)),s_ 9 (.mov (i_ 0))])
(.block 2
(.loop t18L0))))))
def t18 : TFunc := ⟨1,13,[],
(.seq (.region [s_ 1 (.mov (.cst (.bool true)))])
(.block 0
(.loop t18L1)))⟩
theorem c18 : compFunc Try.prog opts a18 Try.f18 = some t18 := by kernel_rfl
def a19 : Ann := { slots := [0,1,4,5,6,13,20],lb := [],mu := [],trunc := [],draws := [] }
def t19L0 : TCode := (.seq (.seq (.region [o_ (.mov (.loc 4)),o_ (.mov (.loc 0)),o_ (.nilCheck (.reg 1)),o_ (.fieldAddr 0 (.reg 2)),o_ (.fieldAddr 0 (.reg 3)),o_ (.load1 (.reg 4)),s_ 5 (.bin .lss (.reg 0) (.reg 5))])
(.cond (.loc 5)
.skip
(.exit 0)))
(.seq (.block 1
(.seq (.region [o_ (.mov (.loc 0)),o_ (.mov (.loc 4)),o_ (.call false false 29 [(.reg 0),(.reg 1)]),o_ (.mov (.loc 1)),s_ 6 (.bin .eql (.reg 2) (.reg 3))])
(.cond (.loc 6)
(.region [o_ (.mov (.loc 3)),o_ (.mov (.loc 4)),o_ (.lit false [(.int .i64 0)] 1 [(0,(.reg 1))]),o_ (.append false 1 8 3 (.reg 0) (.reg 2)),s_ 3 (.mov (.reg 3))])
.skip)))
(.region [o_ (.mov (.loc 4)),o_ (.bin .add (.reg 0) (i_ 1)),s_ 4 (.mov (.reg 1))])))
def t19 : TFunc := ⟨2,7,[.loc 2],
(.seq (.region [s_ 2 (.mov (.cst (.sl .nil [])))])
(.seq (.region [s_ 3 (.mov (.cst (.sl .nil [])))])
(.seq (.seq (.region [s_ 4 (.mov (i_ 32))])
(.block 0
(.loop t19L0)))
(.seq (.region [o_ (.mov (.loc 3)),s_ 2 (.mov (.reg 0))])
.ret))))⟩
theorem c19 : compFunc Try.prog opts a19 Try.f19 = some t19 := by kernel_rfl
def a20 : Ann := { slots := [0,1,2],lb := [],mu := [],trunc := [],draws := [] }
def t20 : TFunc := ⟨1,3,[.loc 2],
(.seq (.region [s_ 1 (.boxH 28 (.loc 0)),s_ 2 (.mov (.cst .nilf))])
(.seq (.region [o_ (.mkFn 32 [] [(.loc 1)]),s_ 2 (.mov (.reg 0))])
.ret))⟩
theorem c20 : compFunc Try.prog opts a20 Try.f20 = some t20 := by kernel_rfl
def a21 : Ann := { slots := [0,2,3,4,5,6,7,8,9,10,29,40,58,63,92,94,101],lb := [],mu := [(9,3)],trunc := [],draws := [(10,⟨[0,0,0,4,12,28,0,124,252,508,1023,2047],[0,1,2,3,4,5,6,7,8,9,10],[(11,[],[])]⟩)] }
def t21L0 : TCode := (.seq (.region [o_ (.nextM (.loc 14)), s_ 15 (.extract 0 (.reg 0))])
(.seq (.cond (.loc 15)
.skip
(.exit 4))
(.block 5
(.seq (.region [o_ (.entryM (.loc 14)),o_ (.extract 0 (.reg 0)),s_ 9 (.mov (.reg 1))])
(.seq (.region [o_ (.mov (.loc 3)),o_ (.mov (.loc 9)),o_ (.indexAddrS 1 (.reg 0) (.reg 1)),o_ (.load1 (.reg 2)),s_ 16 (.un .not (.reg 3))])
(.cond (.loc 16)
(.region [o_ (.load1 (.loc 4)),o_ (.mov (.loc 9)),o_ (.indexAddrS 1 (.reg 0) (.reg 1)),o_ (.load1 (.reg 2)),o_ (.bin .sub (.reg 3) (i_ 1)),o_ (.indexAddrS 1 (.reg 0) (.reg 1)),o_ (.store 1 (.reg 5) (.reg 4))])
.skip))))))
def t21L1 : TCode := (.seq (.seq (.region [o_ (.mov (.loc 5)),o_ (.len .sl (.reg 0)),s_ 12 (.bin .gtr (.reg 1) (i_ 0))])
(.cond (.loc 12)
.skip
(.exit 2)))
(.block 3
(.seq (.region [o_ (.mov (.loc 5)),o_ (.mkFn 34 [] [(.loc 4)]),o_ (.call false false 33 [(.reg 0),(.reg 1)]),s_ 7 (.mov (.reg 2))])
(.seq (.seq (.region [o_ (.mov (.loc 7)),s_ 13 (.bin .lss (.reg 0) (i_ 0))])
(.cond (.loc 13)
(.region [o_ (.mov (.loc 5)),o_ (.mov (.loc 5)),o_ (.mkFn 37 [] [(.loc 4)]),o_ (.call false false 36 [(.reg 1),(.reg 2)]),o_ (.call true false 35 [(.reg 0),(.reg 3)]),s_ 7 (.mov (.reg 4))])
.skip))
(.seq (.region [o_ (.mov (.loc 5)),o_ (.mov (.loc 7)),o_ (.indexAddrS 1 (.reg 0) (.reg 1)),o_ (.load1 (.reg 2)),s_ 8 (.mov (.reg 3))])
(.seq (.region [o_ (.mov (.loc 5)),o_ (.mov (.loc 7)),o_ (.mov (.loc 7)),o_ (.bin .add (.reg 2) (i_ 1)),o_ (.call false false 39 [(.reg 0),(.reg 1),(.reg 3)]),s_ 5 (.mov (.reg 4))])
(.seq (.region [o_ (.mov (.loc 3)),o_ (.mov (.loc 8)),o_ (.indexAddrS 1 (.reg 0) (.reg 1)),o_ (.store 1 (.reg 2) (.cst (.bool true)))])
(.seq (.region [o_ (.mov (.loc 2)),o_ (.mov (.loc 8)),o_ (.lit false [(.int .i64 0)] 1 [(0,(.reg 1))]),o_ (.append false 1 8 3 (.reg 0) (.reg 2)),s_ 2 (.mov (.reg 3))])
(.seq (.region [o_ (.mov (.loc 0)),o_ (.nilCheck (.reg 0)),o_ (.fieldAddr 3 (.reg 1)),o_ (.load1 (.reg 2)),o_ (.mov (.loc 8)),o_ (.indexAddrS 1 (.reg 3) (.reg 4)),o_ (.load1 (.reg 5)),s_ 14 (.range false (.reg 6))])
(.block 4
(.loop t21L0)))))))))))
def t21L2 : TCode := (.seq (.seq (.region [o_ (.mov (.loc 6)),o_ (.mov (.loc 0)),o_ (.nilCheck (.reg 1)),o_ (.fieldAddr 0 (.reg 2)),o_ (.fieldAddr 0 (.reg 3)),o_ (.load1 (.reg 4)),s_ 10 (.bin .lss (.reg 0) (.reg 5))])
(.cond (.loc 10)
.skip
(.exit 0)))
(.seq (.block 1
(.seq (.region [o_ (.mov (.loc 0)),o_ (.nilCheck (.reg 0)),o_ (.fieldAddr 5 (.reg 1)),o_ (.load1 (.reg 2)),o_ (.mov (.loc 6)),o_ (.indexAddrS 1 (.reg 3) (.reg 4)),o_ (.load1 (.reg 5)),o_ (.mov (.loc 6)),s_ 11 (.bin .eql (.reg 6) (.reg 7))])
(.cond (.loc 11)
(.seq (.region [o_ (.mov (.loc 5)),o_ (.mov (.loc 6)),o_ (.lit false [(.int .i64 0)] 1 [(0,(.reg 1))]),o_ (.append true 1 8 3 (.reg 0) (.reg 2)),s_ 5 (.mov (.reg 3))])
(.draw [0,1,2,3,4,5,6,7,8,9,10] [(11,[],[])] [o_ (.load1 (.loc 4)),o_ (.mov (.loc 6)),o_ (.mov (.loc 0)),o_ (.nilCheck (.reg 2)),o_ (.fieldAddr 3 (.reg 3)),o_ (.load1 (.reg 4)),o_ (.mov (.loc 6)),o_ (.indexAddrS 1 (.reg 5) (.reg 6)),o_ (.load1 (.reg 7)),o_ (.len .mp (.reg 8)),o_ (.indexAddrS 1 (.reg 0) (.reg 1)),o_ (.store 1 (.reg 10) (.reg 9))]))
.skip)))
(.region [o_ (.mov (.loc 6)),o_ (.bin .add (.reg 0) (i_ 1)),s_ 6 (.mov (.reg 1))])))
def t21 : TFunc := ⟨1,17,[.loc 1],
(.seq (.region [s_ 1 (.mov (.cst (.sl .nil [])))])
(.seq (.region [s_ 2 (.mov (.cst (.sl .nil [])))])
(.seq (.region [o_ (.mov (.loc 0)),o_ (.nilCheck (.reg 0)),o_ (.fieldAddr 0 (.reg 1)),o_ (.fieldAddr 0 (.reg 2)),o_ (.load1 (.reg 3)),o_ (.mkSlice [(.bool false)] 1 (.reg 4) (.reg 4)),s_ 3 (.mov (.reg 5))])
(.seq (.region [o_ (.mov (.loc 0)),o_ (.nilCheck (.reg 0)),o_ (.fieldAddr 0 (.reg 1)),o_ (.fieldAddr 0 (.reg 2)),o_ (.load1 (.reg 3)),o_ (.mkSlice [(.int .i64 0)] 8 (.reg 4) (.reg 4)),s_ 4 (.allocH 28 [(.sl .nil [])]),o_ (.store 1 (.reg 6) (.reg 5))])
(.seq (.region [s_ 5 (.mov (.cst (.sl .nil [])))])
(.seq (.seq (.region [s_ 6 (.mov (i_ 32))])
(.block 0
(.loop t21L2)))
(.seq (.block 2
(.loop t21L1))
(.seq (.region [o_ (.mov (.loc 2)),s_ 1 (.mov (.reg 0))])
.ret))))))))⟩
theorem c21 : compFunc Try.prog opts a21 Try.f21 = some t21 := by kernel_rfl
def a22 : Ann := { slots := [0,1,4,6,10,11,12,13,17],lb := [],mu := [],trunc := [],draws := [(5,⟨[0,1,3,7,0,0,0,64,224,511,1023],[0,1,2,3,4,5,6,7],[(8,[3],[9]),(10,[],[])]⟩)] }
def t22L0 : TCode := (.seq (.region [s_ 7 (.bin .lss (.loc 6) (.loc 5))])
(.seq (.cond (.loc 7)
.skip
(.exit 0))
(.seq (.block 1
(.seq (.region [o_ (.indexAddrS 1 (.loc 4) (.loc 6)),o_ (.load1 (.reg 0)),s_ 3 (.mov (.reg 1))])
(.seq (.region [o_ (.mov (.loc 2)),s_ 8 (.bin .eql (.reg 0) (i_ (-1)))])
(.cond (.loc 8)
(.draw [0,1,2,3,4,5,6,7] [(8,[3],[9]),(10,[],[])] [o_ (.mov (.loc 0)),o_ (.nilCheck (.reg 0)),o_ (.fieldAddr 6 (.reg 1)),o_ (.load1 (.reg 2)),o_ (.mov (.loc 3)),o_ (.mov (.loc 0)),o_ (.mov (.loc 3)),o_ (.lit false [(.int .i64 0)] 1 [(0,(.reg 6))]),o_ (.call false false 40 [(.reg 5),(.reg 7)]),o_ (.indexAddrS 1 (.reg 3) (.reg 4)),o_ (.store 1 (.reg 9) (.reg 8))])
(.region [o_ (.mov (.loc 0)),o_ (.nilCheck (.reg 0)),o_ (.fieldAddr 6 (.reg 1)),o_ (.load1 (.reg 2)),o_ (.mov (.loc 3)),o_ (.mov (.loc 2)),o_ (.indexAddrS 1 (.reg 3) (.reg 4)),o_ (.store 1 (.reg 6) (.reg 5))])))))
(.region [o_ (.bin .add (.loc 6) (i_ 1)),s_ 6 (.mov (.reg 0))]))))
def t22 : TFunc := ⟨2,9,[],
(.seq (.region [o_ (.mov (.loc 0)),o_ (.mov (.loc 1)),o_ (.call false false 40 [(.reg 0),(.reg 1)]),s_ 2 (.mov (.reg 2))])
(.seq (.region [s_ 4 (.mov (.loc 1)),s_ 5 (.len .sl (.reg 0)),s_ 6 (.mov (i_ 0))])
(.block 0
(.loop t22L0))))⟩
theorem c22 : compFunc Try.prog opts a22 Try.f22 = some t22 := by kernel_rfl
def a23 : Ann := { slots := [0,1,2,3,6,7,8,9,14,24,38,61],lb := [3],mu := [],trunc := [],draws := [] }
def t23L0 : TCode := (.seq (.seq (.region [o_ (.mov (.loc 6)),o_ (.fieldAddr 1 (.loc 3)),o_ (.load1 (.reg 1)),o_ (.len .sl (.reg 2)),s_ 8 (.bin .lss (.reg 0) (.reg 3))])
(.cond (.loc 8)
.skip
(.exit 0)))
(.seq (.block 1
(.seq (.region [s_ 7 (.mov (i_ 0))])
(.seq (.seq (.region [o_ (.fieldAddr 1 (.loc 3)),o_ (.load1 (.reg 0)),o_ (.mov (.loc 6)),o_ (.indexAddrS 2 (.reg 1) (.reg 2)),o_ (.indexAddrA 2 1 (.reg 3) (i_ 0)),o_ (.load1 (.reg 4)),o_ (.mov (.loc 1)),s_ 9 (.bin .eql (.reg 5) (.reg 6))])
(.cond (.loc 9)
(.region [o_ (.fieldAddr 1 (.loc 3)),o_ (.load1 (.reg 0)),o_ (.mov (.loc 6)),o_ (.indexAddrS 2 (.reg 1) (.reg 2)),o_ (.indexAddrA 2 1 (.reg 3) (i_ 1)),o_ (.load1 (.reg 4)),s_ 7 (.mov (.reg 5))])
.skip))
(.seq (.seq (.region [o_ (.fieldAddr 1 (.loc 3)),o_ (.load1 (.reg 0)),o_ (.mov (.loc 6)),o_ (.indexAddrS 2 (.reg 1) (.reg 2)),o_ (.indexAddrA 2 1 (.reg 3) (i_ 1)),o_ (.load1 (.reg 4)),o_ (.mov (.loc 1)),s_ 10 (.bin .eql (.reg 5) (.reg 6))])
(.cond (.loc 10)
(.region [o_ (.fieldAddr 1 (.loc 3)),o_ (.load1 (.reg 0)),o_ (.mov (.loc 6)),o_ (.indexAddrS 2 (.reg 1) (.reg 2)),o_ (.indexAddrA 2 1 (.reg 3) (i_ 0)),o_ (.load1 (.reg 4)),s_ 7 (.mov (.reg 5))])
.skip))
(.seq (.region [o_ (.mov (.loc 5)),o_ (.mov (.loc 7)),o_ (.call true false 41 [(.reg 0),(.reg 1)]),o_ (.un .not (.reg 2)),o_ (.mov (.reg 3)),⟨.mov (.loc 7),none,(some (4,true))⟩,⟨.bin .geq (.reg 5) (i_ 1),none,(some (4,true))⟩,⟨.mov (.reg 6),none,(some (4,true))⟩,⟨.mov (.loc 7),none,(some (7,true))⟩,⟨.bin .leq (.reg 8) (i_ 24),none,(some (7,true))⟩,⟨.pick (.reg 7) (.reg 9) (.cst (.bool false)),none,(some (4,true))⟩,⟨.mov (.reg 10),none,(some (4,true))⟩,⟨.mov (.loc 2),none,(some (11,false))⟩,⟨.mov (.loc 7),none,(some (11,false))⟩,⟨.call true false 41 [(.reg 12),(.reg 13)],none,(some (11,false))⟩,⟨.pick (.reg 11) (.cst (.bool true)) (.reg 14),none,(some (4,true))⟩,s_ 11 (.pick (.reg 4) (.reg 15) (.cst (.bool false)))])
(.cond (.loc 11)
(.region [o_ (.mov (.loc 5)),o_ (.mov (.loc 7)),o_ (.lit false [(.int .i64 0)] 1 [(0,(.reg 1))]),o_ (.append false 1 8 3 (.reg 0) (.reg 2)),s_ 5 (.mov (.reg 3))])
.skip))))))
(.region [o_ (.mov (.loc 6)),o_ (.bin .add (.reg 0) (i_ 1)),s_ 6 (.mov (.reg 1))])))
def t23 : TFunc := ⟨3,12,[.loc 4],
(.seq (.region [o_ (.boxL 3 (.loc 0)),s_ 4 (.mov (i_ 0))])
(.seq (.region [s_ 5 (.mov (.cst (.sl .nil [])))])
(.seq (.seq (.region [s_ 6 (.mov (i_ 0))])
(.block 0
(.loop t23L0)))
(.seq (.region [o_ (.mov (.loc 5)),o_ (.len .sl (.reg 0)),s_ 4 (.mov (.reg 1))])
.ret))))⟩
theorem c23 : compFunc Try.prog opts a23 Try.f23 = some t23 := by kernel_rfl
def a24 : Ann := { slots := [0,2],lb := [],mu := [],trunc := [],draws := [] }
def t24 : TFunc := ⟨1,2,[.loc 1],
(.seq (.region [s_ 1 (.mov (.cst (.bool false)))])
(.seq (.region [o_ (.mov (.loc 0)),o_ (.bin .geq (.reg 0) (i_ 1)),o_ (.mov (.reg 1)),⟨.mov (.loc 0),none,(some (2,true))⟩,⟨.bin .leq (.reg 3) (i_ 24),none,(some (2,true))⟩,o_ (.pick (.reg 2) (.reg 4) (.cst (.bool false))),s_ 1 (.mov (.reg 5))])
.ret))⟩
theorem c24 : compFunc Try.prog opts a24 Try.f24 = some t24 := by kernel_rfl
def a25 : Ann := { slots := [0,1,4],lb := [],mu := [],trunc := [],draws := [] }
def t25 : TFunc := ⟨2,3,[.loc 2],
(.seq (.region [s_ 2 (.mov (.cst (.bool false)))])
(.seq (.region [o_ (.mov (.loc 0)),o_ (.mov (.loc 1)),o_ (.call false false 42 [(.reg 0),(.reg 1)]),o_ (.bin .geq (.reg 2) (i_ 0)),s_ 2 (.mov (.reg 3))])
.ret))⟩
theorem c25 : compFunc Try.prog opts a25 Try.f25 = some t25 := by kernel_rfl
def a26 : Ann := { slots := [0,1,2,3],lb := [2],mu := [],trunc := [],draws := [(1,⟨[0,0,2,7,15,0,0,64,224,480,1023,2047,4095,4095,12287,32767,65535,131071,262143,524287],[0,1,2,3,4,5,6,7,8,9,10,11,12,13,14,15,16,17,18,19],[]⟩)] }
def t26 : TFunc := ⟨2,4,[.loc 3],
(.seq (.region [o_ (.boxL 2 (.loc 0)),s_ 3 (.mov (.cst (.bool false)))])
(.seq (.draw [0,1,2,3,4,5,6,7,8,9,10,11,12,13,14,15,16,17,18,19] [] [o_ (.load1 (.loc 1)),o_ (.indexAddrA 2 1 (.loc 2) (i_ 0)),o_ (.load1 (.reg 1)),o_ (.indexAddrS 1 (.reg 0) (.reg 2)),o_ (.load1 (.reg 3)),o_ (.load1 (.loc 1)),o_ (.indexAddrA 2 1 (.loc 2) (i_ 1)),o_ (.load1 (.reg 6)),o_ (.indexAddrS 1 (.reg 5) (.reg 7)),o_ (.load1 (.reg 8)),o_ (.bin .eql (.reg 4) (.reg 9)),o_ (.mov (.reg 10)),⟨.load1 (.loc 1),none,(some (11,true))⟩,⟨.indexAddrA 2 1 (.loc 2) (i_ 0),none,(some (11,true))⟩,⟨.load1 (.reg 13),none,(some (11,true))⟩,⟨.indexAddrS 1 (.reg 12) (.reg 14),none,(some (11,true))⟩,⟨.load1 (.reg 15),none,(some (11,true))⟩,⟨.bin .neq (.reg 16) (i_ (-1)),none,(some (11,true))⟩,o_ (.pick (.reg 11) (.reg 17) (.cst (.bool false))),s_ 3 (.mov (.reg 18))])
.ret))⟩
theorem c26 : compFunc Try.prog opts a26 Try.f26 = some t26 := by kernel_rfl
def a27 : Ann := { slots := [0,1,2,3],lb := [2],mu := [],trunc := [],draws := [] }
def t27 : TFunc := ⟨2,4,[.loc 3],
(.seq (.region [o_ (.boxL 2 (.loc 0)),s_ 3 (.mov (.cst (.bool false)))])
(.seq (.region [o_ (.indexAddrA 2 1 (.loc 2) (i_ 0)),o_ (.load1 (.reg 0)),o_ (.bin .lss (.reg 1) (i_ 1)),o_ (.mov (.reg 2)),⟨.indexAddrA 2 1 (.loc 2) (i_ 1),none,(some (3,false))⟩,⟨.load1 (.reg 4),none,(some (3,false))⟩,⟨.bin .lss (.reg 5) (i_ 1),none,(some (3,false))⟩,o_ (.pick (.reg 3) (.cst (.bool true)) (.reg 6)),o_ (.mov (.reg 7)),⟨.indexAddrA 2 1 (.loc 2) (i_ 0),none,(some (8,false))⟩,⟨.load1 (.reg 9),none,(some (8,false))⟩,⟨.fieldAddr 0 (.loc 1),none,(some (8,false))⟩,⟨.load1 (.reg 11),none,(some (8,false))⟩,⟨.bin .geq (.reg 10) (.reg 12),none,(some (8,false))⟩,o_ (.pick (.reg 8) (.cst (.bool true)) (.reg 13)),o_ (.mov (.reg 14)),⟨.indexAddrA 2 1 (.loc 2) (i_ 1),none,(some (15,false))⟩,⟨.load1 (.reg 16),none,(some (15,false))⟩,⟨.fieldAddr 0 (.loc 1),none,(some (15,false))⟩,⟨.load1 (.reg 18),none,(some (15,false))⟩,⟨.bin .geq (.reg 17) (.reg 19),none,(some (15,false))⟩,o_ (.pick (.reg 15) (.cst (.bool true)) (.reg 20)),o_ (.mov (.reg 21)),⟨.indexAddrA 2 1 (.loc 2) (i_ 0),none,(some (22,false))⟩,⟨.load1 (.reg 23),none,(some (22,false))⟩,⟨.indexAddrA 2 1 (.loc 2) (i_ 1),none,(some (22,false))⟩,⟨.load1 (.reg 25),none,(some (22,false))⟩,⟨.bin .eql (.reg 24) (.reg 26),none,(some (22,false))⟩,o_ (.pick (.reg 22) (.cst (.bool true)) (.reg 27)),s_ 3 (.mov (.reg 28))])
.ret))⟩
theorem c27 : compFunc Try.prog opts a27 Try.f27 = some t27 := by kernel_rfl
def a28 : Ann := { slots := [0,1,2],lb := [],mu := [],trunc := [],draws := [] }
def t28 : TFunc := ⟨3,3,[],
(.seq (.region [o_ (.mov (.loc 0)),o_ (.nilCheck (.reg 0)),o_ (.fieldAddr 3 (.reg 1)),o_ (.load1 (.reg 2)),o_ (.mov (.loc 1)),o_ (.indexAddrS 1 (.reg 3) (.reg 4)),o_ (.load1 (.reg 5)),o_ (.mov (.loc 2)),o_ (.lookup (.leaf .int) (.int .i64 0) false (.reg 6) (.reg 7)),o_ (.bin .add (.reg 8) (i_ 1)),o_ (.update (.leaf .int) (.reg 6) (.reg 7) (.reg 9))])
(.region [o_ (.mov (.loc 0)),o_ (.nilCheck (.reg 0)),o_ (.fieldAddr 3 (.reg 1)),o_ (.load1 (.reg 2)),o_ (.mov (.loc 2)),o_ (.indexAddrS 1 (.reg 3) (.reg 4)),o_ (.load1 (.reg 5)),o_ (.mov (.loc 1)),o_ (.lookup (.leaf .int) (.int .i64 0) false (.reg 6) (.reg 7)),o_ (.bin .add (.reg 8) (i_ 1)),o_ (.update (.leaf .int) (.reg 6) (.reg 7) (.reg 9))]))⟩
theorem c28 : compFunc Try.prog opts a28 Try.f28 = some t28 := by kernel_rfl
def a29 : Ann := { slots := [0,1,4,13],lb := [],mu := [],trunc := [],draws := [] }
def t29L0 : TCode := (.seq (.seq (.region [o_ (.mov (.loc 0)),o_ (.nilCheck (.reg 0)),o_ (.fieldAddr 5 (.reg 1)),o_ (.load1 (.reg 2)),o_ (.mov (.loc 1)),o_ (.indexAddrS 1 (.reg 3) (.reg 4)),o_ (.load1 (.reg 5)),o_ (.mov (.loc 1)),s_ 3 (.bin .neq (.reg 6) (.reg 7))])
(.cond (.loc 3)
.skip
(.exit 0)))
(.block 1
(.region [o_ (.mov (.loc 0)),o_ (.nilCheck (.reg 0)),o_ (.fieldAddr 5 (.reg 1)),o_ (.load1 (.reg 2)),o_ (.mov (.loc 1)),o_ (.indexAddrS 1 (.reg 3) (.reg 4)),o_ (.load1 (.reg 5)),s_ 1 (.mov (.reg 6))])))
def t29 : TFunc := ⟨2,4,[.loc 2],
(.seq (.region [s_ 2 (.mov (i_ 0))])
(.seq (.block 0
(.loop t29L0))
(.seq (.region [o_ (.mov (.loc 1)),s_ 2 (.mov (.reg 0))])
.ret)))⟩
theorem c29 : compFunc Try.prog opts a29 Try.f29 = some t29 := by kernel_rfl
def a30 : Ann := { slots := [0,1,2,6,7,9,10,11,12,14,16,24,26,47,55,57,62,72,74,95],lb := [],mu := [],trunc := [],draws := [] }
def t30L0 : TCode := (.seq (.region [o_ (.nextM (.loc 17)),s_ 18 (.extract 0 (.reg 0))])
(.seq (.cond (.loc 18)
.skip
(.exit 4))
(.block 5
(.seq (.region [o_ (.entryM (.loc 17)),o_ (.extract 0 (.reg 0)),s_ 8 (.mov (.reg 1))])
(.seq (.region [o_ (.mov (.loc 0)),o_ (.nilCheck (.reg 0)),o_ (.fieldAddr 3 (.reg 1)),o_ (.load1 (.reg 2)),o_ (.mov (.loc 1)),o_ (.indexAddrS 1 (.reg 3) (.reg 4)),o_ (.load1 (.reg 5)),o_ (.mov (.loc 8)),o_ (.lookup (.leaf .int) (.int .i64 0) true (.reg 6) (.reg 7)),o_ (.mov (.reg 8)),o_ (.extract 0 (.reg 9)),o_ (.extract 1 (.reg 9)),o_ (.mov (.reg 10)),s_ 9 (.mov (.reg 11))])
(.seq (.region [o_ (.mov (.loc 9)),o_ (.un .not (.reg 0)),o_ (.mov (.reg 1)),⟨.mov (.loc 0),none,(some (2,true))⟩,⟨.mov (.loc 8),none,(some (2,true))⟩,⟨.call false false 43 [(.reg 3),(.reg 4)],none,(some (2,true))⟩,s_ 19 (.pick (.reg 2) (.reg 5) (.cst (.bool false)))])
(.cond (.loc 19)
(.region [o_ (.mov (.loc 6)),o_ (.bin .add (.reg 0) (i_ 1)),s_ 6 (.mov (.reg 1))])
.skip)))))))
def t30L1 : TCode := (.seq (.region [o_ (.nextM (.loc 14)),s_ 15 (.extract 0 (.reg 0))])
(.seq (.cond (.loc 15)
.skip
(.exit 2))
(.block 3
(.seq (.region [o_ (.entryM (.loc 14)),o_ (.extract 0 (.reg 0)),s_ 7 (.mov (.reg 1))])
(.seq (.region [o_ (.mov (.loc 0)),o_ (.mov (.loc 7)),s_ 16 (.call false false 43 [(.reg 0),(.reg 1)])])
(.cond (.loc 16)
(.region [o_ (.mov (.loc 6)),o_ (.bin .add (.reg 0) (i_ 1)),s_ 6 (.mov (.reg 1))])
.skip))))))
def t30L2 : TCode := (.seq (.region [o_ (.nextM (.loc 11)),s_ 12 (.extract 0 (.reg 0))])
(.seq (.cond (.loc 12)
.skip
(.exit 0))
(.block 1
(.seq (.region [o_ (.entryM (.loc 11)),o_ (.extract 0 (.reg 0)),s_ 4 (.mov (.reg 1))])
(.seq (.region [o_ (.mov (.loc 0)),o_ (.nilCheck (.reg 0)),o_ (.fieldAddr 3 (.reg 1)),o_ (.load1 (.reg 2)),o_ (.mov (.loc 1)),o_ (.indexAddrS 1 (.reg 3) (.reg 4)),o_ (.load1 (.reg 5)),o_ (.mov (.loc 4)),o_ (.lookup (.leaf .int) (.int .i64 0) true (.reg 6) (.reg 7)),o_ (.mov (.reg 8)),o_ (.extract 0 (.reg 9)),o_ (.extract 1 (.reg 9)),o_ (.mov (.reg 10)),s_ 5 (.mov (.reg 11))])
(.seq (.region [o_ (.mov (.loc 5)),o_ (.un .not (.reg 0)),o_ (.mov (.reg 1)),⟨.mov (.loc 0),none,(some (2,true))⟩,⟨.mov (.loc 4),none,(some (2,true))⟩,⟨.call false false 43 [(.reg 3),(.reg 4)],none,(some (2,true))⟩,s_ 13 (.pick (.reg 2) (.reg 5) (.cst (.bool false)))])
(.cond (.loc 13)
(.seq (.region [s_ 3 (.mov (.cst (.bool false)))])
.ret)
.skip)))))))
def t30 : TFunc := ⟨3,20,[.loc 3],
(.seq (.region [s_ 3 (.mov (.cst (.bool false)))])
(.seq (.seq (.region [o_ (.mov (.loc 1)),s_ 10 (.bin .lss (.reg 0) (i_ 32))])
(.cond (.loc 10)
(.seq (.seq (.region [o_ (.mov (.loc 0)),o_ (.nilCheck (.reg 0)),o_ (.fieldAddr 3 (.reg 1)),o_ (.load1 (.reg 2)),o_ (.mov (.loc 2)),o_ (.indexAddrS 1 (.reg 3) (.reg 4)),o_ (.load1 (.reg 5)),s_ 11 (.range false (.reg 6))])
(.block 0
(.loop t30L2)))
(.seq (.region [s_ 3 (.mov (.cst (.bool true)))])
.ret))
.skip))
(.seq (.region [s_ 6 (.mov (i_ 0))])
(.seq (.seq (.region [o_ (.mov (.loc 0)),o_ (.nilCheck (.reg 0)),o_ (.fieldAddr 3 (.reg 1)),o_ (.load1 (.reg 2)),o_ (.mov (.loc 1)),o_ (.indexAddrS 1 (.reg 3) (.reg 4)),o_ (.load1 (.reg 5)),s_ 14 (.range false (.reg 6))])
(.block 2
(.loop t30L1)))
(.seq (.seq (.region [o_ (.mov (.loc 0)),o_ (.nilCheck (.reg 0)),o_ (.fieldAddr 3 (.reg 1)),o_ (.load1 (.reg 2)),o_ (.mov (.loc 2)),o_ (.indexAddrS 1 (.reg 3) (.reg 4)),o_ (.load1 (.reg 5)),s_ 17 (.range false (.reg 6))])
(.block 4
(.loop t30L0)))
(.seq (.region [o_ (.mov (.loc 6)),o_ (.bin .lss (.reg 0) (i_ 24)),s_ 3 (.mov (.reg 1))])
.ret))))))⟩
theorem c30 : compFunc Try.prog opts a30 Try.f30 = some t30 := by kernel_rfl
def a31 : Ann := { slots := [0,1,2,6,21,23],lb := [],mu := [],trunc := [],draws := [] }
def t31L0 : TCode := (.seq (.region [o_ (.nextM (.loc 4)),s_ 5 (.extract 0 (.reg 0))])
(.seq (.cond (.loc 5)
.skip
(.exit 0))
(.block 1
(.seq (.region [o_ (.entryM (.loc 4)),o_ (.extract 0 (.reg 0)),s_ 3 (.mov (.reg 1))])
(.seq (.region [o_ (.mov (.loc 0)),o_ (.nilCheck (.reg 0)),o_ (.fieldAddr 3 (.reg 1)),o_ (.load1 (.reg 2)),o_ (.mov (.loc 3)),o_ (.indexAddrS 1 (.reg 3) (.reg 4)),o_ (.load1 (.reg 5)),o_ (.mov (.loc 2)),o_ (.delete (.leaf .int) (.reg 6) (.reg 7))])
(.region [o_ (.mov (.loc 0)),o_ (.mov (.loc 1)),o_ (.mov (.loc 3)),o_ (.call false false 28 [(.reg 0),(.reg 1),(.reg 2)])]))))))
def t31 : TFunc := ⟨3,6,[],
(.seq (.region [o_ (.mov (.loc 0)),o_ (.nilCheck (.reg 0)),o_ (.fieldAddr 5 (.reg 1)),o_ (.load1 (.reg 2)),o_ (.mov (.loc 2)),o_ (.mov (.loc 1)),o_ (.indexAddrS 1 (.reg 3) (.reg 4)),o_ (.store 1 (.reg 6) (.reg 5))])
(.seq (.seq (.region [o_ (.mov (.loc 0)),o_ (.nilCheck (.reg 0)),o_ (.fieldAddr 3 (.reg 1)),o_ (.load1 (.reg 2)),o_ (.mov (.loc 2)),o_ (.indexAddrS 1 (.reg 3) (.reg 4)),o_ (.load1 (.reg 5)),s_ 4 (.range false (.reg 6))])
(.block 0
(.loop t31L0)))
(.region [o_ (.mov (.loc 0)),o_ (.nilCheck (.reg 0)),o_ (.fieldAddr 3 (.reg 1)),o_ (.load1 (.reg 2)),o_ (.mov (.loc 2)),o_ (.mkMap),o_ (.indexAddrS 1 (.reg 3) (.reg 4)),o_ (.store 1 (.reg 6) (.reg 5))])))⟩
theorem c31 : compFunc Try.prog opts a31 Try.f31 = some t31 := by kernel_rfl
def a32 : Ann := { slots := [0,1,3,8,18],lb := [],mu := [],trunc := [],draws := [] }
def t32L0 : TCode := (.seq (.seq (.region [o_ (.mov (.loc 2)),s_ 3 (.bin .geq (.reg 0) (i_ 0))])
(.cond (.loc 3)
.skip
(.exit 0)))
(.seq (.block 1
(.seq (.region [o_ (.mov (.loc 0)),o_ (.mov (.loc 2)),o_ (.load1 (.loc 1)),o_ (.mov (.loc 2)),o_ (.indexAddrS 1 (.reg 2) (.reg 3)),o_ (.load1 (.reg 4)),o_ (.callv (.reg 0) [(.reg 1),(.reg 5)]),s_ 4 (.un .not (.reg 6))])
(.cond (.loc 4)
.ret
.skip)))
(.region [o_ (.mov (.loc 2)),o_ (.bin .sub (.reg 0) (i_ 1)),s_ 2 (.mov (.reg 1))])))
def t32 : TFunc := ⟨2,5,[],
(.seq (.region [o_ (.load1 (.loc 1)),o_ (.len .sl (.reg 0)),o_ (.bin .sub (.reg 1) (i_ 1)),s_ 2 (.mov (.reg 2))])
(.block 0
(.loop t32L0)))⟩
theorem c32 : compFunc Try.prog opts a32 Try.f32 = some t32 := by kernel_rfl
def a33 : Ann := { slots := [0,1,4,5,7,8,9,16],lb := [],mu := [],trunc := [],draws := [] }
def t33L0 : TCode := (.seq (.region [s_ 6 (.bin .lss (.loc 5) (.loc 4))])
(.seq (.cond (.loc 6)
.skip
(.exit 0))
(.seq (.block 1
(.seq (.region [o_ (.mov (.loc 5)),s_ 3 (.mov (.reg 0))])
(.seq (.region [o_ (.mov (.loc 1)),o_ (.mov (.loc 0)),o_ (.mov (.loc 3)),o_ (.indexAddrS 1 (.reg 1) (.reg 2)),o_ (.load1 (.reg 3)),s_ 7 (.callv (.reg 0) [(.reg 4)])])
(.cond (.loc 7)
(.seq (.region [o_ (.mov (.loc 3)),s_ 2 (.mov (.reg 0))])
.ret)
.skip))))
(.region [o_ (.bin .add (.loc 5) (i_ 1)),s_ 5 (.mov (.reg 0))]))))
def t33 : TFunc := ⟨2,8,[.loc 2],
(.seq (.region [s_ 2 (.mov (i_ 0))])
(.seq (.seq (.region [o_ (.mov (.loc 0)),s_ 4 (.len .sl (.reg 0)),s_ 5 (.mov (i_ 0))])
(.block 0
(.loop t33L0)))
(.seq (.region [s_ 2 (.mov (i_ (-1)))])
.ret)))⟩
theorem c33 : compFunc Try.prog opts a33 Try.f33 = some t33 := by kernel_rfl
def a34 : Ann := { slots := [0,1,3],lb := [],mu := [],trunc := [],draws := [] }
def t34 : TFunc := ⟨2,3,[.loc 2],
(.seq (.region [s_ 2 (.mov (.cst (.bool false)))])
(.seq (.region [o_ (.load1 (.loc 1)),o_ (.mov (.loc 0)),o_ (.indexAddrS 1 (.reg 0) (.reg 1)),o_ (.load1 (.reg 2)),o_ (.bin .lss (.reg 3) (i_ 24)),s_ 2 (.mov (.reg 4))])
.ret))⟩
theorem c34 : compFunc Try.prog opts a34 Try.f34 = some t34 := by kernel_rfl
def a35 : Ann := { slots := [0,1,4,5,7,8,9,16],lb := [],mu := [],trunc := [],draws := [] }
def t35L0 : TCode := (.seq (.region [s_ 6 (.bin .lss (.loc 5) (.loc 4))])
(.seq (.cond (.loc 6)
.skip
(.exit 0))
(.seq (.block 1
(.seq (.region [o_ (.mov (.loc 5)),s_ 3 (.mov (.reg 0))])
(.seq (.region [o_ (.mov (.loc 1)),o_ (.mov (.loc 0)),o_ (.mov (.loc 3)),o_ (.indexAddrS 1 (.reg 1) (.reg 2)),o_ (.load1 (.reg 3)),s_ 7 (.bin .eql (.reg 0) (.reg 4))])
(.cond (.loc 7)
(.seq (.region [o_ (.mov (.loc 3)),s_ 2 (.mov (.reg 0))])
.ret)
.skip))))
(.region [o_ (.bin .add (.loc 5) (i_ 1)),s_ 5 (.mov (.reg 0))]))))
def t35 : TFunc := ⟨2,8,[.loc 2],
(.seq (.region [s_ 2 (.mov (i_ 0))])
(.seq (.seq (.region [o_ (.mov (.loc 0)),s_ 4 (.len .sl (.reg 0)),s_ 5 (.mov (i_ 0))])
(.block 0
(.loop t35L0)))
(.seq (.region [s_ 2 (.mov (i_ (-1)))])
.ret)))⟩
theorem c35 : compFunc Try.prog opts a35 Try.f35 = some t35 := by kernel_rfl
def a36 : Ann := { slots := [0,1,4,5,6,9,17,27],lb := [],mu := [],trunc := [],draws := [] }
def t36L0 : TCode := (.seq (.seq (.region [o_ (.mov (.loc 4)),o_ (.mov (.loc 0)),o_ (.len .sl (.reg 1)),s_ 6 (.bin .lss (.reg 0) (.reg 2))])
(.cond (.loc 6)
.skip
(.exit 0)))
(.seq (.block 1
(.seq (.region [o_ (.mov (.loc 1)),o_ (.mov (.loc 0)),o_ (.mov (.loc 4)),o_ (.indexAddrS 1 (.reg 1) (.reg 2)),o_ (.load1 (.reg 3)),o_ (.mov (.loc 3)),o_ (.callv (.reg 0) [(.reg 4),(.reg 5)]),s_ 7 (.bin .gtr (.reg 6) (i_ 0))])
(.cond (.loc 7)
(.region [o_ (.mov (.loc 0)),o_ (.mov (.loc 4)),o_ (.indexAddrS 1 (.reg 0) (.reg 1)),o_ (.load1 (.reg 2)),s_ 3 (.mov (.reg 3))])
.skip)))
(.region [o_ (.mov (.loc 4)),o_ (.bin .add (.reg 0) (i_ 1)),s_ 4 (.mov (.reg 1))])))
def t36 : TFunc := ⟨2,8,[.loc 2],
(.seq (.region [s_ 2 (.mov (i_ 0))])
(.seq (.seq (.region [o_ (.mov (.loc 0)),o_ (.len .sl (.reg 0)),s_ 5 (.bin .lss (.reg 1) (i_ 1))])
(.cond (.loc 5)
(.region [o_ (.bad),o_ (.bad)])
.skip))
(.seq (.region [o_ (.mov (.loc 0)),o_ (.indexAddrS 1 (.reg 0) (i_ 0)),o_ (.load1 (.reg 1)),s_ 3 (.mov (.reg 2))])
(.seq (.seq (.region [s_ 4 (.mov (i_ 1))])
(.block 0
(.loop t36L0)))
(.seq (.region [o_ (.mov (.loc 3)),s_ 2 (.mov (.reg 0))])
.ret)))))⟩
theorem c36 : compFunc Try.prog opts a36 Try.f36 = some t36 := by kernel_rfl
def a37 : Ann := { slots := [0,1,2,5],lb := [],mu := [],trunc := [],draws := [(1,⟨[0,0,3,7,0,0,48,112,255,511],[0,1,2,3,4,5,6,7],[(8,[],[9])]⟩)] }
def t37 : TFunc := ⟨3,4,[.loc 3],
(.seq (.region [s_ 3 (.mov (i_ 0))])
(.seq (.draw [0,1,2,3,4,5,6,7] [(8,[],[9])] [o_ (.load1 (.loc 2)),o_ (.mov (.loc 0)),o_ (.indexAddrS 1 (.reg 0) (.reg 1)),o_ (.load1 (.reg 2)),o_ (.load1 (.loc 2)),o_ (.mov (.loc 1)),o_ (.indexAddrS 1 (.reg 4) (.reg 5)),o_ (.load1 (.reg 6)),o_ (.call true false 38 [(.reg 3),(.reg 7)]),s_ 3 (.mov (.reg 8))])
.ret))⟩
theorem c37 : compFunc Try.prog opts a37 Try.f37 = some t37 := by kernel_rfl
def a38 : Ann := { slots := [0,1,4,5,6,11,12,13,16,19],lb := [],mu := [],trunc := [],draws := [] }
def t38 : TFunc := ⟨2,10,[.loc 2],
(.seq (.region [s_ 2 (.mov (i_ 0))])
(.seq (.region [o_ (.mov (.loc 0)),o_ (.call true false 44 [(.reg 0)]),s_ 3 (.mov (.reg 1))])
(.seq (.region [o_ (.mov (.loc 1)),o_ (.call true false 44 [(.reg 0)]),s_ 4 (.mov (.reg 1))])
(.seq (.seq (.region [s_ 5 (.mov (.loc 3))])
(.cond (.loc 5)
(.seq (.seq (.region [s_ 6 (.mov (.loc 4))])
(.cond (.loc 6)
(.seq (.region [s_ 2 (.mov (i_ 0))])
.ret)
.skip))
(.seq (.region [s_ 2 (.mov (i_ (-1)))])
.ret))
.skip))
(.seq (.seq (.region [s_ 7 (.mov (.loc 4))])
(.cond (.loc 7)
(.seq (.region [s_ 2 (.mov (i_ 1))])
.ret)
.skip))
(.seq (.seq (.region [o_ (.mov (.loc 0)),o_ (.mov (.loc 1)),s_ 8 (.bin .lss (.reg 0) (.reg 1))])
(.cond (.loc 8)
(.seq (.region [s_ 2 (.mov (i_ (-1)))])
.ret)
.skip))
(.seq (.seq (.region [o_ (.mov (.loc 0)),o_ (.mov (.loc 1)),s_ 9 (.bin .gtr (.reg 0) (.reg 1))])
(.cond (.loc 9)
(.seq (.region [s_ 2 (.mov (i_ 1))])
.ret)
.skip))
(.seq (.region [s_ 2 (.mov (i_ 0))])
.ret))))))))⟩
theorem c38 : compFunc Try.prog opts a38 Try.f38 = some t38 := by kernel_rfl
def a39 : Ann := { slots := [0,1,2,6,7,16],lb := [],mu := [],trunc := [],draws := [(5,⟨[0,0,3,0,0,24,63,127],[0,1,2,3,4,5],[(6,[],[7])]⟩)] }
def t39 : TFunc := ⟨3,6,[.loc 3],
(.seq (.region [s_ 3 (.mov (.cst (.sl .nil [])))])
(.seq (.region [o_ (.mov (.loc 0)),o_ (.mov (.loc 1)),o_ (.mov (.loc 2)),o_ (.mov (.loc 0)),o_ (.len .sl (.reg 3)),o_ (.slice (.sl 1) (.reg 0) (some (.reg 1)) (some (.reg 2)) (some (.reg 4)))])
(.seq (.seq (.region [o_ (.mov (.loc 1)),o_ (.mov (.loc 2)),s_ 5 (.bin .eql (.reg 0) (.reg 1))])
(.cond (.loc 5)
(.seq (.region [o_ (.mov (.loc 0)),s_ 3 (.mov (.reg 0))])
.ret)
.skip))
(.seq (.region [o_ (.mov (.loc 0)),o_ (.len .sl (.reg 0)),s_ 4 (.mov (.reg 1))])
(.seq (.draw [0,1,2,3,4,5] [(6,[],[7])] [o_ (.mov (.loc 0)),o_ (.mov (.loc 1)),o_ (.slice (.sl 1) (.reg 0) none (some (.reg 1)) none),o_ (.mov (.loc 0)),o_ (.mov (.loc 2)),o_ (.slice (.sl 1) (.reg 3) (some (.reg 4)) none none),o_ (.append false 1 8 3 (.reg 2) (.reg 5)),s_ 0 (.mov (.reg 6))])
(.seq (.region [o_ (.mov (.loc 0)),o_ (.mov (.loc 0)),o_ (.len .sl (.reg 1)),o_ (.mov (.loc 4)),o_ (.slice (.sl 1) (.reg 0) (some (.reg 2)) (some (.reg 3)) none),o_ (.clear [(.int .i64 0)] (.reg 4))])
(.seq (.region [o_ (.mov (.loc 0)),s_ 3 (.mov (.reg 0))])
.ret)))))))⟩
theorem c39 : compFunc Try.prog opts a39 Try.f39 = some t39 := by kernel_rfl
def a40 : Ann := { slots := [0,1,4,5,7,8,9,10,11,12,13,23,25,35,46,52],lb := [5],mu := [],trunc := [],draws := [] }
def t40L0 : TCode := (.seq (.seq (.region [o_ (.mov (.loc 6)),s_ 14 (.bin .leq (.reg 0) (i_ 24))])
(.cond (.loc 14)
.skip
(.exit 4)))
(.seq (.block 5
(.seq (.region [o_ (.mov (.loc 6)),o_ (.indexAddrA 25 1 (.loc 3) (.reg 0)),o_ (.load1 (.reg 1)),s_ 15 (.un .not (.reg 2))])
(.cond (.loc 15)
(.seq (.region [o_ (.mov (.loc 6)),s_ 2 (.mov (.reg 0))])
.ret)
.skip)))
(.region [o_ (.mov (.loc 6)),o_ (.bin .add (.reg 0) (i_ 1)),s_ 6 (.mov (.reg 1))])))
def t40L1 : TCode := (.seq (.region [o_ (.nextM (.loc 11)), s_ 12 (.extract 0 (.reg 0))])
(.seq (.cond (.loc 12)
.skip
(.exit 2))
(.block 3
(.seq (.region [o_ (.entryM (.loc 11)),o_ (.extract 0 (.reg 0)),s_ 5 (.mov (.reg 1))])
(.seq (.region [o_ (.mov (.loc 0)),o_ (.nilCheck (.reg 0)),o_ (.fieldAddr 6 (.reg 1)),o_ (.load1 (.reg 2)),o_ (.mov (.loc 5)),o_ (.indexAddrS 1 (.reg 3) (.reg 4)),o_ (.load1 (.reg 5)),s_ 13 (.call true false 24 [(.reg 6)])])
(.cond (.loc 13)
(.region [o_ (.mov (.loc 0)),o_ (.nilCheck (.reg 0)),o_ (.fieldAddr 6 (.reg 1)),o_ (.load1 (.reg 2)),o_ (.mov (.loc 5)),o_ (.indexAddrS 1 (.reg 3) (.reg 4)),o_ (.load1 (.reg 5)),o_ (.indexAddrA 25 1 (.loc 3) (.reg 6)),o_ (.store 1 (.reg 7) (.cst (.bool true)))])
.skip))))))
def t40L2 : TCode := (.seq (.region [s_ 10 (.bin .lss (.loc 9) (.loc 8))])
(.seq (.cond (.loc 10)
.skip
(.exit 0))
(.seq (.block 1
(.seq (.region [o_ (.indexAddrS 1 (.loc 7) (.loc 9)),o_ (.load1 (.reg 0)),s_ 4 (.mov (.reg 1))])
(.seq (.region [o_ (.mov (.loc 0)),o_ (.nilCheck (.reg 0)),o_ (.fieldAddr 4 (.reg 1)),o_ (.load1 (.reg 2)),o_ (.mov (.loc 4)),o_ (.indexAddrS 1 (.reg 3) (.reg 4)),o_ (.load1 (.reg 5)),s_ 11 (.range false (.reg 6))])
(.block 2
(.loop t40L1)))))
(.region [o_ (.bin .add (.loc 9) (i_ 1)),s_ 9 (.mov (.reg 0))]))))
def t40 : TFunc := ⟨2,16,[.loc 2],
(.seq (.region [s_ 2 (.mov (i_ 0))])
(.seq (.region [o_ (.allocL 3 [(.bool false),(.bool false),(.bool false),(.bool false),(.bool false),(.bool false),(.bool false),(.bool false),(.bool false),(.bool false),(.bool false),(.bool false),(.bool false),(.bool false),(.bool false),(.bool false),(.bool false),(.bool false),(.bool false),(.bool false),(.bool false),(.bool false),(.bool false),(.bool false),(.bool false)])])
(.seq (.seq (.region [s_ 7 (.mov (.loc 1)),s_ 8 (.len .sl (.reg 0)),s_ 9 (.mov (i_ 0))])
(.block 0
(.loop t40L2)))
(.seq (.seq (.region [s_ 6 (.mov (i_ 1))])
(.block 4
(.loop t40L0)))
(.seq (.region [s_ 2 (.mov (i_ (-1)))])
.ret)))))⟩
theorem c40 : compFunc Try.prog opts a40 Try.f40 = some t40 := by kernel_rfl
def a41 : Ann := { slots := [0,1,4,5,9,17],lb := [],mu := [],trunc := [],draws := [] }
def t41L0 : TCode := (.seq (.seq (.region [o_ (.mov (.loc 3)),o_ (.mov (.loc 0)),o_ (.len .sl (.reg 1)),s_ 4 (.bin .lss (.reg 0) (.reg 2))])
(.cond (.loc 4)
.skip
(.exit 0)))
(.seq (.block 1
(.seq (.region [o_ (.mov (.loc 0)),o_ (.mov (.loc 3)),o_ (.indexAddrS 1 (.reg 0) (.reg 1)),o_ (.load1 (.reg 2)),o_ (.mov (.loc 1)),s_ 5 (.bin .eql (.reg 3) (.reg 4))])
(.cond (.loc 5)
(.seq (.region [s_ 2 (.mov (.cst (.bool true)))])
.ret)
.skip)))
(.region [o_ (.mov (.loc 3)),o_ (.bin .add (.reg 0) (i_ 1)),s_ 3 (.mov (.reg 1))])))
def t41 : TFunc := ⟨2,6,[.loc 2],
(.seq (.region [s_ 2 (.mov (.cst (.bool false)))])
(.seq (.seq (.region [s_ 3 (.mov (i_ 0))])
(.block 0
(.loop t41L0)))
(.seq (.region [s_ 2 (.mov (.cst (.bool false)))])
.ret)))⟩
theorem c41 : compFunc Try.prog opts a41 Try.f41 = some t41 := by kernel_rfl
def a42 : Ann := { slots := [0,1,4,5,7,8,9,16],lb := [],mu := [],trunc := [],draws := [] }
def t42L0 : TCode := (.seq (.region [s_ 6 (.bin .lss (.loc 5) (.loc 4))])
(.seq (.cond (.loc 6)
.skip
(.exit 0))
(.seq (.block 1
(.seq (.region [o_ (.mov (.loc 5)),s_ 3 (.mov (.reg 0))])
(.seq (.region [o_ (.mov (.loc 1)),o_ (.mov (.loc 0)),o_ (.mov (.loc 3)),o_ (.indexAddrS 2 (.reg 1) (.reg 2)),o_ (.loadN 2 (.reg 3)),s_ 7 (.callv (.reg 0) [(.reg 4)])])
(.cond (.loc 7)
(.seq (.region [o_ (.mov (.loc 3)),s_ 2 (.mov (.reg 0))])
.ret)
.skip))))
(.region [o_ (.bin .add (.loc 5) (i_ 1)),s_ 5 (.mov (.reg 0))]))))
def t42 : TFunc := ⟨2,8,[.loc 2],
(.seq (.region [s_ 2 (.mov (i_ 0))])
(.seq (.seq (.region [o_ (.mov (.loc 0)),s_ 4 (.len .sl (.reg 0)),s_ 5 (.mov (i_ 0))])
(.block 0
(.loop t42L0)))
(.seq (.region [s_ 2 (.mov (i_ (-1)))])
.ret)))⟩
theorem c42 : compFunc Try.prog opts a42 Try.f42 = some t42 := by kernel_rfl
def a43 : Ann := { slots := [0,1,4],lb := [],mu := [],trunc := [],draws := [] }
def t43 : TFunc := ⟨2,3,[.loc 2],
(.seq (.region [s_ 2 (.mov (.cst (.bool false)))])
(.seq (.region [o_ (.mov (.loc 1)),o_ (.bin .lss (.reg 0) (i_ 32)),o_ (.mov (.reg 1)),⟨.mov (.loc 0),none,(some (2,false))⟩,⟨.nilCheck (.reg 3),none,(some (2,false))⟩,⟨.fieldAddr 3 (.reg 4),none,(some (2,false))⟩,⟨.load1 (.reg 5),none,(some (2,false))⟩,⟨.mov (.loc 1),none,(some (2,false))⟩,⟨.indexAddrS 1 (.reg 6) (.reg 7),none,(some (2,false))⟩,⟨.load1 (.reg 8),none,(some (2,false))⟩,⟨.len .mp (.reg 9),none,(some (2,false))⟩,⟨.bin .geq (.reg 10) (i_ 24),none,(some (2,false))⟩,o_ (.pick (.reg 2) (.cst (.bool true)) (.reg 11)),s_ 2 (.mov (.reg 12))])
.ret))⟩
theorem c43 : compFunc Try.prog opts a43 Try.f43 = some t43 := by kernel_rfl
def a44 : Ann := { slots := [0,2],lb := [],mu := [],trunc := [],draws := [] }
def t44 : TFunc := ⟨1,2,[.loc 1],
(.seq (.region [s_ 1 (.mov (.cst (.bool false)))])
(.seq (.region [o_ (.mov (.loc 0)),o_ (.mov (.loc 0)),o_ (.bin .neq (.reg 0) (.reg 1)),s_ 1 (.mov (.reg 2))])
.ret))⟩
theorem c44 : compFunc Try.prog opts a44 Try.f44 = some t44 := by kernel_rfl
def tbl : List (Option TFunc) := [none,none,none,some t3,none,some t5,some t6,some t7,some t8,some t9,some t10,some t11,some t12,some t13,some t14,some t15,some t16,some t17,some t18,some t19,some t20,some t21,some t22,some t23,some t24,some t25,some t26,some t27,some t28,some t29,some t30,some t31,some t32,some t33,some t34,some t35,some t36,some t37,some t38,some t39,some t40,some t41,some t42,some t43,some t44]
def gtbl : List (Option (List IV)) := []
def K : TM.Prog := ⟨fun k => tbl.getD k none,fun g => gtbl.getD g none,fun _ => none⟩
def Good (k : Nat) (tf : TFunc) : Prop := ∃ (A : Ann) (fn : Func), Try.prog.funcs[k]? = some fn ∧ fn.name ≠ "runtime.NumGoroutine" ∧ compFunc Try.prog opts A fn = some tf
theorem n3 : (Try.f3.name == "runtime.NumGoroutine") = false := by kernel_rfl
theorem q3 : Good 3 t3 := ⟨a3,Try.f3,Try.func3,fun e => by have h := n3; rw [e] at h; simp at h,c3⟩
theorem n5 : (Try.f5.name == "runtime.NumGoroutine") = false := by kernel_rfl
theorem q5 : Good 5 t5 := ⟨a5,Try.f5,Try.func5,fun e => by have h := n5; rw [e] at h; simp at h,c5⟩
theorem n6 : (Try.f6.name == "runtime.NumGoroutine") = false := by kernel_rfl
theorem q6 : Good 6 t6 := ⟨a6,Try.f6,Try.func6,fun e => by have h := n6; rw [e] at h; simp at h,c6⟩
theorem n7 : (Try.f7.name == "runtime.NumGoroutine") = false := by kernel_rfl
theorem q7 : Good 7 t7 := ⟨a7,Try.f7,Try.func7,fun e => by have h := n7; rw [e] at h; simp at h,c7⟩
theorem n8 : (Try.f8.name == "runtime.NumGoroutine") = false := by kernel_rfl
theorem q8 : Good 8 t8 := ⟨a8,Try.f8,Try.func8,fun e => by have h := n8; rw [e] at h; simp at h,c8⟩
theorem n9 : (Try.f9.name == "runtime.NumGoroutine") = false := by kernel_rfl
theorem q9 : Good 9 t9 := ⟨a9,Try.f9,Try.func9,fun e => by have h := n9; rw [e] at h; simp at h,c9⟩
theorem n10 : (Try.f10.name == "runtime.NumGoroutine") = false := by kernel_rfl
theorem q10 : Good 10 t10 := ⟨a10,Try.f10,Try.func10,fun e => by have h := n10; rw [e] at h; simp at h,c10⟩
theorem n11 : (Try.f11.name == "runtime.NumGoroutine") = false := by kernel_rfl
theorem q11 : Good 11 t11 := ⟨a11,Try.f11,Try.func11,fun e => by have h := n11; rw [e] at h; simp at h,c11⟩
theorem n12 : (Try.f12.name == "runtime.NumGoroutine") = false := by kernel_rfl
theorem q12 : Good 12 t12 := ⟨a12,Try.f12,Try.func12,fun e => by have h := n12; rw [e] at h; simp at h,c12⟩
theorem n13 : (Try.f13.name == "runtime.NumGoroutine") = false := by kernel_rfl
theorem q13 : Good 13 t13 := ⟨a13,Try.f13,Try.func13,fun e => by have h := n13; rw [e] at h; simp at h,c13⟩
theorem n14 : (Try.f14.name == "runtime.NumGoroutine") = false := by kernel_rfl
theorem q14 : Good 14 t14 := ⟨a14,Try.f14,Try.func14,fun e => by have h := n14; rw [e] at h; simp at h,c14⟩
theorem n15 : (Try.f15.name == "runtime.NumGoroutine") = false := by kernel_rfl
theorem q15 : Good 15 t15 := ⟨a15,Try.f15,Try.func15,fun e => by have h := n15; rw [e] at h; simp at h,c15⟩
theorem n16 : (Try.f16.name == "runtime.NumGoroutine") = false := by kernel_rfl
theorem q16 : Good 16 t16 := ⟨a16,Try.f16,Try.func16,fun e => by have h := n16; rw [e] at h; simp at h,c16⟩
theorem n17 : (Try.f17.name == "runtime.NumGoroutine") = false := by kernel_rfl
theorem q17 : Good 17 t17 := ⟨a17,Try.f17,Try.func17,fun e => by have h := n17; rw [e] at h; simp at h,c17⟩
theorem n18 : (Try.f18.name == "runtime.NumGoroutine") = false := by kernel_rfl
theorem q18 : Good 18 t18 := ⟨a18,Try.f18,Try.func18,fun e => by have h := n18; rw [e] at h; simp at h,c18⟩
theorem n19 : (Try.f19.name == "runtime.NumGoroutine") = false := by kernel_rfl
theorem q19 : Good 19 t19 := ⟨a19,Try.f19,Try.func19,fun e => by have h := n19; rw [e] at h; simp at h,c19⟩
theorem n20 : (Try.f20.name == "runtime.NumGoroutine") = false := by kernel_rfl
theorem q20 : Good 20 t20 := ⟨a20,Try.f20,Try.func20,fun e => by have h := n20; rw [e] at h; simp at h,c20⟩
theorem n21 : (Try.f21.name == "runtime.NumGoroutine") = false := by kernel_rfl
theorem q21 : Good 21 t21 := ⟨a21,Try.f21,Try.func21,fun e => by have h := n21; rw [e] at h; simp at h,c21⟩
theorem n22 : (Try.f22.name == "runtime.NumGoroutine") = false := by kernel_rfl
theorem q22 : Good 22 t22 := ⟨a22,Try.f22,Try.func22,fun e => by have h := n22; rw [e] at h; simp at h,c22⟩
theorem n23 : (Try.f23.name == "runtime.NumGoroutine") = false := by kernel_rfl
theorem q23 : Good 23 t23 := ⟨a23,Try.f23,Try.func23,fun e => by have h := n23; rw [e] at h; simp at h,c23⟩
theorem n24 : (Try.f24.name == "runtime.NumGoroutine") = false := by kernel_rfl
theorem q24 : Good 24 t24 := ⟨a24,Try.f24,Try.func24,fun e => by have h := n24; rw [e] at h; simp at h,c24⟩
theorem n25 : (Try.f25.name == "runtime.NumGoroutine") = false := by kernel_rfl
theorem q25 : Good 25 t25 := ⟨a25,Try.f25,Try.func25,fun e => by have h := n25; rw [e] at h; simp at h,c25⟩
theorem n26 : (Try.f26.name == "runtime.NumGoroutine") = false := by kernel_rfl
theorem q26 : Good 26 t26 := ⟨a26,Try.f26,Try.func26,fun e => by have h := n26; rw [e] at h; simp at h,c26⟩
theorem n27 : (Try.f27.name == "runtime.NumGoroutine") = false := by kernel_rfl
theorem q27 : Good 27 t27 := ⟨a27,Try.f27,Try.func27,fun e => by have h := n27; rw [e] at h; simp at h,c27⟩
theorem n28 : (Try.f28.name == "runtime.NumGoroutine") = false := by kernel_rfl
theorem q28 : Good 28 t28 := ⟨a28,Try.f28,Try.func28,fun e => by have h := n28; rw [e] at h; simp at h,c28⟩
theorem n29 : (Try.f29.name == "runtime.NumGoroutine") = false := by kernel_rfl
theorem q29 : Good 29 t29 := ⟨a29,Try.f29,Try.func29,fun e => by have h := n29; rw [e] at h; simp at h,c29⟩
theorem n30 : (Try.f30.name == "runtime.NumGoroutine") = false := by kernel_rfl
theorem q30 : Good 30 t30 := ⟨a30,Try.f30,Try.func30,fun e => by have h := n30; rw [e] at h; simp at h,c30⟩
theorem n31 : (Try.f31.name == "runtime.NumGoroutine") = false := by kernel_rfl
theorem q31 : Good 31 t31 := ⟨a31,Try.f31,Try.func31,fun e => by have h := n31; rw [e] at h; simp at h,c31⟩
theorem n32 : (Try.f32.name == "runtime.NumGoroutine") = false := by kernel_rfl
theorem q32 : Good 32 t32 := ⟨a32,Try.f32,Try.func32,fun e => by have h := n32; rw [e] at h; simp at h,c32⟩
theorem n33 : (Try.f33.name == "runtime.NumGoroutine") = false := by kernel_rfl
theorem q33 : Good 33 t33 := ⟨a33,Try.f33,Try.func33,fun e => by have h := n33; rw [e] at h; simp at h,c33⟩
theorem n34 : (Try.f34.name == "runtime.NumGoroutine") = false := by kernel_rfl
theorem q34 : Good 34 t34 := ⟨a34,Try.f34,Try.func34,fun e => by have h := n34; rw [e] at h; simp at h,c34⟩
theorem n35 : (Try.f35.name == "runtime.NumGoroutine") = false := by kernel_rfl
theorem q35 : Good 35 t35 := ⟨a35,Try.f35,Try.func35,fun e => by have h := n35; rw [e] at h; simp at h,c35⟩
theorem n36 : (Try.f36.name == "runtime.NumGoroutine") = false := by kernel_rfl
theorem q36 : Good 36 t36 := ⟨a36,Try.f36,Try.func36,fun e => by have h := n36; rw [e] at h; simp at h,c36⟩
theorem n37 : (Try.f37.name == "runtime.NumGoroutine") = false := by kernel_rfl
theorem q37 : Good 37 t37 := ⟨a37,Try.f37,Try.func37,fun e => by have h := n37; rw [e] at h; simp at h,c37⟩
theorem n38 : (Try.f38.name == "runtime.NumGoroutine") = false := by kernel_rfl
theorem q38 : Good 38 t38 := ⟨a38,Try.f38,Try.func38,fun e => by have h := n38; rw [e] at h; simp at h,c38⟩
theorem n39 : (Try.f39.name == "runtime.NumGoroutine") = false := by kernel_rfl
theorem q39 : Good 39 t39 := ⟨a39,Try.f39,Try.func39,fun e => by have h := n39; rw [e] at h; simp at h,c39⟩
theorem n40 : (Try.f40.name == "runtime.NumGoroutine") = false := by kernel_rfl
theorem q40 : Good 40 t40 := ⟨a40,Try.f40,Try.func40,fun e => by have h := n40; rw [e] at h; simp at h,c40⟩
theorem n41 : (Try.f41.name == "runtime.NumGoroutine") = false := by kernel_rfl
theorem q41 : Good 41 t41 := ⟨a41,Try.f41,Try.func41,fun e => by have h := n41; rw [e] at h; simp at h,c41⟩
theorem n42 : (Try.f42.name == "runtime.NumGoroutine") = false := by kernel_rfl
theorem q42 : Good 42 t42 := ⟨a42,Try.f42,Try.func42,fun e => by have h := n42; rw [e] at h; simp at h,c42⟩
theorem n43 : (Try.f43.name == "runtime.NumGoroutine") = false := by kernel_rfl
theorem q43 : Good 43 t43 := ⟨a43,Try.f43,Try.func43,fun e => by have h := n43; rw [e] at h; simp at h,c43⟩
theorem n44 : (Try.f44.name == "runtime.NumGoroutine") = false := by kernel_rfl
theorem q44 : Good 44 t44 := ⟨a44,Try.f44,Try.func44,fun e => by have h := n44; rw [e] at h; simp at h,c44⟩
theorem good : AllAt Good 0 tbl := ⟨q3,q5,q6,q7,q8,q9,q10,q11,q12,q13,q14,q15,q16,q17,q18,q19,q20,q21,q22,q23,q24,q25,q26,q27,q28,q29,q30,q31,q32,q33,q34,q35,q36,q37,q38,q39,q40,q41,q42,q43,q44,trivial⟩
theorem kok : KOK Try.prog opts K := ⟨fun k tf h => allAt_get good k tf h,fun f p h => by simp [K] at h,by kernel_rfl⟩
end Go.Proofs.Ytmlhjdekfihdnaa
