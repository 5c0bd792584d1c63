/- The functions of this seat, compiled for the evaluator TM; each held against the translation by the kernel. By program. Condition: none. -/
import Derived.Test.YtookmpaholmmfaaGreatDoorPrim
set_option maxRecDepth 100000
set_option linter.unusedVariables false
namespace Go.Proofs.YtookmpaholmmfaaGreatDoor
open Go Go.TM
abbrev o_ (x : TOp) : TOper := ⟨x,none,none⟩
abbrev s_ (n : Nat) (x : TOp) : TOper := ⟨x,some n,none⟩
abbrev i_ (n : Int) : TOpd := .cst (.int .i64 n)
def opts : Opts := ⟨fun f => ([3,4,9,10,19,20,33,34,35,36,37,38,39,40,41,44,45,46,47,48,49,54,55,56,58,66,67,70,73,76,78,79,80,81,82,83,84,86,87,88,89,93,97,98,99,101,103,112,113,114,115,120,122,123,124,131,132,134,135,139,142,143,144,145,146,147,149,153,154,155,163,167,169,171,174,175,176,177,178,179,181,182,189,191,193,195,196,197,201,210,211,212,213,214,215,216,217] : List Nat).contains f,fun f => ([47,80,113,165] : List Nat).contains f⟩
def a8 : Ann := { slots := [0,1,2,3,4,5,6,7,8,31],lb := [8,7,5,2,1],mu := [],trunc := [],draws := [(3,⟨[0,1,3,0,8,24,56,127,255],[0,1,2],[(3,[2],[]),(4,[2],[5,6,7]),(8,[],[])]⟩),(14,⟨[0,1,3,7,15,31,63,127,255,511,1023,2047,4095,8191,16383,32767,65535,131071,262143,524287,1048575,2097151,4194303,8388607,16777215,33554431,67108863,134217727,268435455,536870911,1073741823,2147483647,4294967295,8589934591,17179869183,34359738367,68719476735,137438953471,274877906943,549755813887,1099511627775,2199023255551,4398046511103,8796093022207,17592186044415,35184372088831,70368744177663,140737488355327,281474976710655,562949953421311,1125899906842623,2251799813685247,4503599627370495,9007199254740991,18014398509481983,36028797018963967,72057594037927935,144115188075855871,288230376151711743,576460752303423487,1152921504606846975,2305843009213693951,4611686018427387903,9223372036854775807,18446744073709551615,36893488147419103231,73786976294838206463,147573952589676412927,295147905179352825855,590295810358705651711,1180591620717411303423,2361183241434822606847,4722366482869645213695,9444732965739290427391,9444732965739290427391,28334198897217871282175,75557863725914323419135,151115727451828646838271,302231454903657293676543,604462909807314587353087,604462909807314587353087,2417851639229258349412351,4835703278458516698824703,9671406556917033397649407,19342813113834066795298815],[],[(0,[],[1,2,3,4,5,6,7,8,9,10,11,12,13,14,15,16,17,18,19,20,21,22,23,24,25]),(26,[],[27,28,29,30]),(31,[],[]),(32,[],[]),(33,[],[34,35,36]),(37,[],[]),(38,[],[]),(39,[],[40,41,42,43]),(44,[],[45,46,47,48]),(49,[],[50,51,52,53]),(54,[],[55,56,57,58]),(59,[],[60,61,62,63]),(64,[],[65,66,67,68]),(69,[],[70,71,72,73]),(74,[73],[]),(75,[73],[]),(76,[],[77,78,79,80]),(81,[],[82,83,84])]⟩)] }
def t8L0 : TCode := (.seq (.seq (.region [o_ (.mov (.loc 6)),s_ 9 (.bin .lss (.reg 0) (i_ 4000))])
(.cond (.loc 9)
.skip
(.exit 0)))
(.seq (.block 1
(.region [o_ (.loadN 5 (.loc 5)),o_ (.lit false [(.int .i64 0),(.int .i64 0),(.sl .nil []),(.bool false),(.sl .nil [])] 1 [(0,(.reg 0))]),o_ (.build [(.int .i64 0),(.int .i64 0),(.sl .nil []),(.bool false),(.sl .nil [])] [(0,1,(i_ 10)),(4,1,(.reg 1))]),o_ (.store 5 (.loc 5) (.reg 2))]))
(.region [o_ (.mov (.loc 6)),o_ (.bin .add (.reg 0) (i_ 1)),s_ 6 (.mov (.reg 1))])))
def t8 : TFunc := ⟨0,10,[.loc 0],
(.seq (.region [s_ 0 (.mov (.cst (.bool false)))])
(.seq (.region [o_ (.call false false 34 [(i_ 1)]),o_ (.call false false 33 [(.reg 0)]),o_ (.allocL 1 [(.int .i64 0),(.int .i64 0),(.sl .nil []),(.bool false),(.sl .nil []),(.int .i64 0),(.int .i64 0),(.sl .nil [])]),o_ (.store 8 (.reg 2) (.reg 1))])
(.seq (.region [o_ (.call false false 34 [(i_ 1)]),o_ (.call false false 33 [(.reg 0)]),o_ (.allocL 2 [(.int .i64 0),(.int .i64 0),(.sl .nil []),(.bool false),(.sl .nil []),(.int .i64 0),(.int .i64 0),(.sl .nil [])]),o_ (.store 8 (.reg 2) (.reg 1))])
(.seq (.draw [0,1,2] [(3,[2],[]),(4,[2],[5,6,7]),(8,[],[])] [o_ (.fieldAddr 0 (.loc 2)),o_ (.fieldAddr 4 (.reg 0)),o_ (.load1 (.reg 1)),o_ (.call false false 34 [(i_ 1)]),o_ (.call false false 35 [(i_ 0)]),o_ (.lit false [(.int .i64 0),(.int .i64 0),(.sl .nil []),(.bool false),(.sl .nil [])] 2 [(0,(.reg 3)),(1,(.reg 4))]),o_ (.build [(.int .i64 0),(.int .i64 0),(.sl .nil []),(.bool false),(.sl .nil [])] [(0,1,(i_ 6)),(4,1,(.reg 5))]),o_ (.indexAddrS 5 (.reg 2) (i_ 1)),o_ (.store 5 (.reg 7) (.reg 6))])
(.seq (.region [o_ (.fieldAddr 0 (.loc 1)),o_ (.loadN 5 (.reg 0)),o_ (.call true false 15 [(.reg 1)]),o_ (.call false false 36 []),o_ (.field 4 1 false (.reg 3)),o_ (.indexAddrS 5 (.reg 4) (i_ 0)),o_ (.loadN 5 (.reg 5)),o_ (.call true false 17 [(.reg 6)]),s_ 3 (.mov (.reg 2)),s_ 4 (.mov (.reg 7))])
(.seq (.region [o_ (.call false false 34 [(i_ 0)]),o_ (.allocL 5 [(.int .i64 0),(.int .i64 0),(.sl .nil []),(.bool false),(.sl .nil [])]),o_ (.store 5 (.reg 1) (.reg 0))])
(.seq (.seq (.region [s_ 6 (.mov (i_ 0))])
(.block 0
(.loop t8L0)))
(.seq (.region [o_ (.call false false 34 [(i_ 1)]),o_ (.call false false 33 [(.reg 0)]),o_ (.allocL 7 [(.int .i64 0),(.int .i64 0),(.sl .nil []),(.bool false),(.sl .nil []),(.int .i64 0),(.int .i64 0),(.sl .nil [])]),o_ (.store 8 (.reg 2) (.reg 1))])
(.seq (.region [o_ (.loadN 5 (.loc 5)),o_ (.fieldAddr 0 (.loc 7)),o_ (.store 5 (.reg 1) (.reg 0))])
(.seq (.region [o_ (.call false false 34 [(i_ 1)]),o_ (.call false false 33 [(.reg 0)]),o_ (.allocL 8 [(.int .i64 0),(.int .i64 0),(.sl .nil []),(.bool false),(.sl .nil []),(.int .i64 0),(.int .i64 0),(.sl .nil [])]),o_ (.store 8 (.reg 2) (.reg 1))])
(.seq (.region [o_ (.fieldAddr 7 (.loc 8)),o_ (.load1 (.reg 0)),o_ (.indexAddrS 5 (.reg 1) (i_ 0)),o_ (.fieldAddr 2 (.reg 2)),o_ (.store 1 (.reg 3) (.cst (.str [48,53])))])
(.seq (.draw [] [(0,[],[1,2,3,4,5,6,7,8,9,10,11,12,13,14,15,16,17,18,19,20,21,22,23,24,25]),(26,[],[27,28,29,30]),(31,[],[]),(32,[],[]),(33,[],[34,35,36]),(37,[],[]),(38,[],[]),(39,[],[40,41,42,43]),(44,[],[45,46,47,48]),(49,[],[50,51,52,53]),(54,[],[55,56,57,58]),(59,[],[60,61,62,63]),(64,[],[65,66,67,68]),(69,[],[70,71,72,73]),(74,[73],[]),(75,[73],[]),(76,[],[77,78,79,80]),(81,[],[82,83,84])] [o_ (.call true false 11 []),o_ (.mov (.reg 0)),⟨.mov (.loc 3),none,(some (1,true))⟩,⟨.len .sl (.reg 2),none,(some (1,true))⟩,⟨.bin .eql (.reg 3) (i_ 2),none,(some (1,true))⟩,o_ (.pick (.reg 1) (.reg 4) (.cst (.bool false))),o_ (.mov (.reg 5)),⟨.mov (.loc 3),none,(some (6,true))⟩,⟨.indexAddrS 1 (.reg 7) (i_ 0),none,(some (6,true))⟩,⟨.load1 (.reg 8),none,(some (6,true))⟩,⟨.bin .eql (.reg 9) (i_ 0),none,(some (6,true))⟩,o_ (.pick (.reg 6) (.reg 10) (.cst (.bool false))),o_ (.mov (.reg 11)),⟨.mov (.loc 3),none,(some (12,true))⟩,⟨.indexAddrS 1 (.reg 13) (i_ 1),none,(some (12,true))⟩,⟨.load1 (.reg 14),none,(some (12,true))⟩,⟨.bin .eql (.reg 15) (i_ 1),none,(some (12,true))⟩,o_ (.pick (.reg 12) (.reg 16) (.cst (.bool false))),o_ (.mov (.reg 17)),⟨.mov (.loc 4),none,(some (18,true))⟩,⟨.len .sl (.reg 19),none,(some (18,true))⟩,⟨.bin .eql (.reg 20) (i_ 2),none,(some (18,true))⟩,o_ (.pick (.reg 18) (.reg 21) (.cst (.bool false))),o_ (.mov (.reg 22)),⟨.fieldAddr 0 (.loc 1),none,(some (23,true))⟩,⟨.loadN 5 (.reg 24),none,(some (23,true))⟩,⟨.call true false 14 [(.reg 25)],none,(some (23,true))⟩,⟨.len .sl (.reg 26),none,(some (23,true))⟩,⟨.bin .eql (.reg 27) (i_ 0),none,(some (23,true))⟩,o_ (.pick (.reg 23) (.reg 28) (.cst (.bool false))),o_ (.mov (.reg 29)),⟨.call false false 37 [(i_ 0)],none,(some (30,true))⟩,⟨.call false false 33 [(.reg 31)],none,(some (30,true))⟩,⟨.call true false 13 [(.reg 32)],none,(some (30,true))⟩,⟨.bin .eql (.reg 33) (i_ 6),none,(some (30,true))⟩,o_ (.pick (.reg 30) (.reg 34) (.cst (.bool false))),o_ (.mov (.reg 35)),⟨.call false false 34 [(i_ 0)],none,(some (36,true))⟩,⟨.call false false 33 [(.reg 37)],none,(some (36,true))⟩,⟨.call true false 13 [(.reg 38)],none,(some (36,true))⟩,⟨.bin .eql (.reg 39) (i_ 14),none,(some (36,true))⟩,o_ (.pick (.reg 36) (.reg 40) (.cst (.bool false))),o_ (.mov (.reg 41)),⟨.loadN 8 (.loc 2),none,(some (42,true))⟩,⟨.call true false 13 [(.reg 43)],none,(some (42,true))⟩,⟨.bin .eql (.reg 44) (i_ 4),none,(some (42,true))⟩,o_ (.pick (.reg 42) (.reg 45) (.cst (.bool false))),o_ (.mov (.reg 46)),⟨.loadN 8 (.loc 7),none,(some (47,true))⟩,⟨.call true false 13 [(.reg 48)],none,(some (47,true))⟩,⟨.bin .eql (.reg 49) (i_ 5),none,(some (47,true))⟩,o_ (.pick (.reg 47) (.reg 50) (.cst (.bool false))),o_ (.mov (.reg 51)),⟨.loadN 8 (.loc 8),none,(some (52,true))⟩,⟨.call true false 13 [(.reg 53)],none,(some (52,true))⟩,⟨.bin .eql (.reg 54) (i_ 2),none,(some (52,true))⟩,o_ (.pick (.reg 52) (.reg 55) (.cst (.bool false))),o_ (.mov (.reg 56)),⟨.build [(.int .i64 0),(.int .i64 0),(.sl .nil []),(.bool false),(.sl .nil []),(.int .i64 0),(.int .i64 0),(.sl .nil [])] [],none,(some (57,true))⟩,⟨.call true false 13 [(.reg 58)],none,(some (57,true))⟩,⟨.bin .eql (.reg 59) (i_ 4),none,(some (57,true))⟩,o_ (.pick (.reg 57) (.reg 60) (.cst (.bool false))),o_ (.mov (.reg 61)),⟨.build [(.int .i64 0),(.int .i64 0),(.sl .nil []),(.bool false),(.sl .nil [])] [],none,(some (62,true))⟩,⟨.call false false 38 [(.reg 63)],none,(some (62,true))⟩,⟨.bin .eql (.reg 64) (.cst (.str [63])),none,(some (62,true))⟩,o_ (.pick (.reg 62) (.reg 65) (.cst (.bool false))),o_ (.mov (.reg 66)),⟨.loadN 8 (.loc 1),none,(some (67,true))⟩,⟨.call false false 39 [(.reg 68)],none,(some (67,true))⟩,⟨.bin .eql (.reg 69) (.cst (.str [103,108,111,98,97,108,115,32,49,32,118,97,114,115,32,50,10,99,48,32,53,10,99,49,32,34,97,34,10,40,98,101,103,105,110,32,40,115,101,116,33,32,103,48,32,40,108,97,109,98,100,97,32,40,118,48,32,46,32,118,49,41,32,40,105,102,32,118,48,32,40,99,97,108,108,32,103,48,32,118,49,41,32,99,48,41,41,41,32,40,99,97,108,108,32,103,48,32,99,49,41,41])),none,(some (67,true))⟩,o_ (.pick (.reg 67) (.reg 70) (.cst (.bool false))),o_ (.mov (.reg 71)),⟨.loadN 8 (.loc 1),none,(some (72,true))⟩,⟨.call false false 34 [(i_ 1)],none,(some (72,true))⟩,⟨.call false false 33 [(.reg 74)],none,(some (72,true))⟩,⟨.call false false 19 [(.reg 73),(.reg 75)],none,(some (72,true))⟩,o_ (.pick (.reg 72) (.reg 76) (.cst (.bool false))),o_ (.mov (.reg 77)),⟨.loadN 8 (.loc 1),none,(some (78,true))⟩,⟨.loadN 8 (.loc 2),none,(some (78,true))⟩,⟨.call false false 19 [(.reg 79),(.reg 80)],none,(some (78,true))⟩,⟨.un .not (.reg 81),none,(some (78,true))⟩,o_ (.pick (.reg 78) (.reg 82) (.cst (.bool false))),s_ 0 (.mov (.reg 83))])
.ret))))))))))))⟩
theorem c8 : compFunc Tryz.prog opts a8 Tryz.f8 = some t8 := by kernel_rfl
def a9 : Ann := { slots := [0,1,2,3,12,21],lb := [1],mu := [],trunc := [],draws := [] }
def t9L0 : TCode := (.seq (.seq (.region [o_ (.mov (.loc 3)),o_ (.fieldAddr 7 (.loc 1)),o_ (.load1 (.reg 1)),o_ (.len .sl (.reg 2)),o_ (.bin .lss (.reg 0) (.reg 3)),o_ (.mov (.reg 4)),⟨.mov (.loc 3),none,(some (5,true))⟩,⟨.bin .lss (.reg 6) (i_ 30),none,(some (5,true))⟩,s_ 4 (.pick (.reg 5) (.reg 7) (.cst (.bool false)))])
(.cond (.loc 4)
.skip
(.exit 0)))
(.seq (.block 1
(.seq (.region [o_ (.fieldAddr 7 (.loc 1)),o_ (.load1 (.reg 0)),o_ (.mov (.loc 3)),o_ (.indexAddrS 5 (.reg 1) (.reg 2)),o_ (.loadN 5 (.reg 3)),o_ (.call false false 40 [(.reg 4),(i_ 60)]),s_ 5 (.bin .gtr (.reg 5) (i_ 200))])
(.cond (.loc 5)
(.seq (.region [s_ 2 (.mov (.cst (.bool true)))])
.ret)
.skip)))
(.region [o_ (.mov (.loc 3)),o_ (.bin .add (.reg 0) (i_ 1)),s_ 3 (.mov (.reg 1))])))
def t9 : TFunc := ⟨1,6,[.loc 2],
(.seq (.region [o_ (.boxL 1 (.loc 0)),s_ 2 (.mov (.cst (.bool false)))])
(.seq (.seq (.region [s_ 3 (.mov (i_ 0))])
(.block 0
(.loop t9L0)))
(.seq (.region [o_ (.fieldAddr 0 (.loc 1)),o_ (.loadN 5 (.reg 0)),o_ (.call false false 10 [(.reg 1),(i_ 4100)]),o_ (.bin .gtr (.reg 2) (i_ 4500)),o_ (.mov (.reg 3)),⟨.fieldAddr 7 (.loc 1),none,(some (4,false))⟩,⟨.load1 (.reg 5),none,(some (4,false))⟩,⟨.len .sl (.reg 6),none,(some (4,false))⟩,⟨.bin .gtr (.reg 7) (i_ 20),none,(some (4,false))⟩,o_ (.pick (.reg 4) (.cst (.bool true)) (.reg 8)),s_ 2 (.mov (.reg 9))])
.ret)))⟩
theorem c9 : compFunc Tryz.prog opts a9 Tryz.f9 = some t9 := by kernel_rfl
def a10 : Ann := { slots := [0,1,2,4,5,6,8,21],lb := [2],mu := [],trunc := [],draws := [] }
def t10L0 : TCode := (.seq (.seq (.region [o_ (.mov (.loc 5)),o_ (.fieldAddr 4 (.loc 2)),o_ (.load1 (.reg 1)),o_ (.len .sl (.reg 2)),o_ (.bin .lss (.reg 0) (.reg 3)),o_ (.mov (.reg 4)),⟨.mov (.loc 4),none,(some (5,true))⟩,⟨.bin .lss (.reg 6) (i_ 9000),none,(some (5,true))⟩,s_ 7 (.pick (.reg 5) (.reg 7) (.cst (.bool false)))])
(.cond (.loc 7)
.skip
(.exit 0)))
(.seq (.block 1
(.region [o_ (.mov (.loc 4)),o_ (.fieldAddr 4 (.loc 2)),o_ (.load1 (.reg 1)),o_ (.mov (.loc 5)),o_ (.indexAddrS 5 (.reg 2) (.reg 3)),o_ (.loadN 5 (.reg 4)),o_ (.mov (.loc 1)),o_ (.bin .sub (.reg 6) (i_ 1)),o_ (.call false false 10 [(.reg 5),(.reg 7)]),o_ (.bin .add (.reg 0) (.reg 8)),s_ 4 (.mov (.reg 9))]))
(.region [o_ (.mov (.loc 5)),o_ (.bin .add (.reg 0) (i_ 1)),s_ 5 (.mov (.reg 1))])))
def t10 : TFunc := ⟨2,8,[.loc 3],
(.seq (.region [o_ (.boxL 2 (.loc 0)),s_ 3 (.mov (i_ 0))])
(.seq (.seq (.region [o_ (.mov (.loc 1)),s_ 6 (.bin .eql (.reg 0) (i_ 0))])
(.cond (.loc 6)
(.seq (.region [s_ 3 (.mov (i_ 9000))])
.ret)
.skip))
(.seq (.region [o_ (.fieldAddr 2 (.loc 2)),o_ (.load1 (.reg 0)),o_ (.len .sl (.reg 1)),o_ (.bin .add (i_ 1) (.reg 2)),s_ 4 (.mov (.reg 3))])
(.seq (.seq (.region [s_ 5 (.mov (i_ 0))])
(.block 0
(.loop t10L0)))
(.seq (.region [o_ (.mov (.loc 4)),s_ 3 (.mov (.reg 0))])
.ret)))))⟩
theorem c10 : compFunc Tryz.prog opts a10 Tryz.f10 = some t10 := by kernel_rfl
def a11 : Ann := { slots := [0,1],lb := [1],mu := [],trunc := [],draws := [] }
def t11 : TFunc := ⟨0,2,[.loc 0],
(.seq (.region [s_ 0 (.mov (.cst (.bool false)))])
(.seq (.region [o_ (.call false false 34 [(i_ 1)]),o_ (.call false false 33 [(.reg 0)]),o_ (.allocL 1 [(.int .i64 0),(.int .i64 0),(.sl .nil []),(.bool false),(.sl .nil []),(.int .i64 0),(.int .i64 0),(.sl .nil [])]),o_ (.store 8 (.reg 2) (.reg 1))])
(.seq (.region [o_ (.loadN 8 (.loc 1)),o_ (.call true false 13 [(.reg 0)]),o_ (.bin .eql (.reg 1) (i_ 0)),o_ (.mov (.reg 2)),⟨.fieldAddr 0 (.loc 1),none,(some (3,true))⟩,⟨.loadN 5 (.reg 4),none,(some (3,true))⟩,⟨.call false false 41 [(.reg 5)],none,(some (3,true))⟩,⟨.bin .eql (.reg 6) (i_ 12),none,(some (3,true))⟩,o_ (.pick (.reg 3) (.reg 7) (.cst (.bool false))),o_ (.mov (.reg 8)),⟨.call false false 36 [],none,(some (9,true))⟩,⟨.call false false 38 [(.reg 10)],none,(some (9,true))⟩,⟨.bin .eql (.reg 11) (.cst (.str [40,108,97,109,98,100,97,32,40,118,48,32,46,32,118,49,41,32,40,105,102,32,118,48,32,40,99,97,108,108,32,103,48,32,118,49,41,32,99,48,41,41])),none,(some (9,true))⟩,o_ (.pick (.reg 9) (.reg 12) (.cst (.bool false))),o_ (.mov (.reg 13)),⟨.call false false 36 [],none,(some (14,true))⟩,⟨.field 4 1 false (.reg 15),none,(some (14,true))⟩,⟨.indexAddrS 5 (.reg 16) (i_ 0),none,(some (14,true))⟩,⟨.loadN 5 (.reg 17),none,(some (14,true))⟩,⟨.call true false 17 [(.reg 18)],none,(some (14,true))⟩,⟨.len .sl (.reg 19),none,(some (14,true))⟩,⟨.bin .eql (.reg 20) (i_ 2),none,(some (14,true))⟩,o_ (.pick (.reg 14) (.reg 21) (.cst (.bool false))),s_ 0 (.mov (.reg 22))])
.ret)))⟩
theorem c11 : compFunc Tryz.prog opts a11 Tryz.f11 = some t11 := by kernel_rfl
def a13 : Ann := { slots := [0,1,2,4,5,18,20,21,22,23,33],lb := [4,1],mu := [],trunc := [],draws := [] }
def t13L0 : TCode := (.seq (.region [s_ 9 (.bin .lss (.loc 8) (.loc 7))])
(.seq (.cond (.loc 9)
.skip
(.exit 0))
(.seq (.block 1
(.seq (.region [o_ (.indexAddrS 5 (.loc 6) (.loc 8)),o_ (.loadN 5 (.reg 0)),o_ (.allocL 3 [(.int .i64 0),(.int .i64 0),(.str []),(.sl .nil []),(.int .i64 0)]),o_ (.store 5 (.reg 2) (.reg 1))])
(.seq (.region [o_ (.loadN 5 (.loc 3)),o_ (.call true false 42 [(.reg 0)]),o_ (.un .not (.reg 1)),o_ (.mov (.reg 2)),⟨.loadN 5 (.loc 3),none,(some (3,false))⟩,⟨.call true false 43 [(.reg 4)],none,(some (3,false))⟩,⟨.un .not (.reg 5),none,(some (3,false))⟩,s_ 10 (.pick (.reg 3) (.cst (.bool true)) (.reg 6))])
(.cond (.loc 10)
(.seq (.region [s_ 2 (.mov (i_ 2))])
.ret)
.skip))))
(.region [o_ (.bin .add (.loc 8) (i_ 1)),s_ 8 (.mov (.reg 0))]))))
def t13 : TFunc := ⟨1,11,[.loc 2],
(.seq (.region [o_ (.boxL 1 (.loc 0)),s_ 2 (.mov (i_ 0))])
(.seq (.seq (.region [o_ (.fieldAddr 5 (.loc 1)),o_ (.load1 (.reg 0)),o_ (.bin .lss (.reg 1) (i_ 0)),o_ (.mov (.reg 2)),⟨.fieldAddr 5 (.loc 1),none,(some (3,false))⟩,⟨.load1 (.reg 4),none,(some (3,false))⟩,⟨.bin .gtr (.reg 5) (i_ 20000),none,(some (3,false))⟩,o_ (.pick (.reg 3) (.cst (.bool true)) (.reg 6)),o_ (.mov (.reg 7)),⟨.fieldAddr 6 (.loc 1),none,(some (8,false))⟩,⟨.load1 (.reg 9),none,(some (8,false))⟩,⟨.bin .lss (.reg 10) (i_ 0),none,(some (8,false))⟩,s_ 5 (.pick (.reg 8) (.cst (.bool true)) (.reg 11))])
(.cond (.loc 5)
(.seq (.region [s_ 2 (.mov (i_ 2))])
.ret)
.skip))
(.seq (.seq (.region [o_ (.fieldAddr 7 (.loc 1)),s_ 6 (.load1 (.reg 0)),s_ 7 (.len .sl (.reg 1)),s_ 8 (.mov (i_ 0))])
(.block 0
(.loop t13L0)))
(.seq (.region [o_ (.loadN 8 (.loc 1)),o_ (.mkMap),o_ (.mkMap),o_ (.mkMap),o_ (.build [(.int .i64 0),(.int .i64 0),(.sl .nil []),(.bool false),(.sl .nil []),(.int .i64 0),(.int .i64 0),(.sl .nil []),.nilm,.nilm,.nilm] [(0,8,(.reg 0)),(8,1,(.reg 1)),(9,1,(.reg 2)),(10,1,(.reg 3))]),o_ (.boxH 58 (.reg 4)),s_ 4 (.mov (.reg 5))])
(.seq (.region [o_ (.mov (.loc 4)),o_ (.fieldAddr 0 (.loc 1)),o_ (.loadN 5 (.reg 1)),o_ (.call false false 44 [(.reg 0),(.reg 2),(i_ 0)]),s_ 2 (.mov (.reg 3))])
.ret)))))⟩
theorem c13 : compFunc Tryz.prog opts a13 Tryz.f13 = some t13 := by kernel_rfl
def a14 : Ann := { slots := [0,1,2,3],lb := [1],mu := [],trunc := [],draws := [] }
def t14 : TFunc := ⟨1,4,[.loc 2],
(.seq (.region [o_ (.boxL 1 (.loc 0)),s_ 2 (.mov (.cst (.sl .nil [])))])
(.seq (.region [o_ (.mkMap),s_ 3 (.allocH 56 [.nilm]),o_ (.store 1 (.reg 1) (.reg 0))])
(.seq (.region [o_ (.loadN 5 (.loc 1)),o_ (.mkFn 46 [] [(.loc 3)]),o_ (.call false false 45 [(.reg 0),(.reg 1)])])
(.seq (.region [o_ (.load1 (.loc 3)),o_ (.prim 47 [(.reg 0)]),s_ 2 (.mov (.reg 1))])
.ret))))⟩
theorem c14 : compFunc Tryz.prog opts a14 Tryz.f14 = some t14 := by kernel_rfl
def a15 : Ann := { slots := [0,1,2,3],lb := [1],mu := [],trunc := [],draws := [] }
def t15 : TFunc := ⟨1,4,[.loc 2],
(.seq (.region [o_ (.boxL 1 (.loc 0)),s_ 2 (.mov (.cst (.sl .nil [])))])
(.seq (.region [o_ (.mkMap),s_ 3 (.allocH 56 [.nilm]),o_ (.store 1 (.reg 1) (.reg 0))])
(.seq (.region [o_ (.loadN 5 (.loc 1)),o_ (.mkFn 48 [] [(.loc 3)]),o_ (.call false false 45 [(.reg 0),(.reg 1)])])
(.seq (.region [o_ (.load1 (.loc 3)),o_ (.prim 47 [(.reg 0)]),s_ 2 (.mov (.reg 1))])
.ret))))⟩
theorem c15 : compFunc Tryz.prog opts a15 Tryz.f15 = some t15 := by kernel_rfl
def a16 : Ann := { slots := [0,1,4,5,9,17],lb := [],mu := [],trunc := [],draws := [] }
def t16L0 : TCode := (.seq (.seq (.region [o_ (.mov (.loc 3)),o_ (.mov (.loc 0)),o_ (.len .sl (.reg 1)),s_ 4 (.bin .lss (.reg 0) (.reg 2))])
(.cond (.loc 4)
.skip
(.exit 0)))
(.seq (.block 1
(.seq (.region [o_ (.mov (.loc 0)),o_ (.mov (.loc 3)),o_ (.indexAddrS 1 (.reg 0) (.reg 1)),o_ (.load1 (.reg 2)),o_ (.mov (.loc 1)),s_ 5 (.bin .eql (.reg 3) (.reg 4))])
(.cond (.loc 5)
(.seq (.region [s_ 2 (.mov (.cst (.bool true)))])
.ret)
.skip)))
(.region [o_ (.mov (.loc 3)),o_ (.bin .add (.reg 0) (i_ 1)),s_ 3 (.mov (.reg 1))])))
def t16 : TFunc := ⟨2,6,[.loc 2],
(.seq (.region [s_ 2 (.mov (.cst (.bool false)))])
(.seq (.seq (.region [s_ 3 (.mov (i_ 0))])
(.block 0
(.loop t16L0)))
(.seq (.region [s_ 2 (.mov (.cst (.bool false)))])
.ret)))⟩
theorem c16 : compFunc Tryz.prog opts a16 Tryz.f16 = some t16 := by kernel_rfl
def a17 : Ann := { slots := [0,1,2,3],lb := [1],mu := [],trunc := [],draws := [] }
def t17 : TFunc := ⟨1,4,[.loc 2],
(.seq (.region [o_ (.boxL 1 (.loc 0)),s_ 2 (.mov (.cst (.sl .nil [])))])
(.seq (.region [o_ (.mkMap),s_ 3 (.mov (.reg 0))])
(.seq (.region [o_ (.loadN 5 (.loc 1)),o_ (.mkMap),o_ (.mov (.loc 3)),o_ (.call false false 49 [(.reg 0),(.reg 1),(.reg 2)])])
(.seq (.region [o_ (.mov (.loc 3)),o_ (.prim 47 [(.reg 0)]),s_ 2 (.mov (.reg 1))])
.ret))))⟩
theorem c17 : compFunc Tryz.prog opts a17 Tryz.f17 = some t17 := by kernel_rfl
def a19 : Ann := { slots := [0,1,2,3,4],lb := [3,2],mu := [],trunc := [],draws := [] }
def t19 : TFunc := ⟨2,5,[.loc 4],
(.seq (.region [o_ (.boxL 2 (.loc 0)),o_ (.boxL 3 (.loc 1)),s_ 4 (.mov (.cst (.bool false)))])
(.seq (.region [o_ (.fieldAddr 5 (.loc 2)),o_ (.load1 (.reg 0)),o_ (.fieldAddr 5 (.loc 3)),o_ (.load1 (.reg 2)),o_ (.bin .eql (.reg 1) (.reg 3)),o_ (.mov (.reg 4)),⟨.fieldAddr 6 (.loc 2),none,(some (5,true))⟩,⟨.load1 (.reg 6),none,(some (5,true))⟩,⟨.fieldAddr 6 (.loc 3),none,(some (5,true))⟩,⟨.load1 (.reg 8),none,(some (5,true))⟩,⟨.bin .eql (.reg 7) (.reg 9),none,(some (5,true))⟩,o_ (.pick (.reg 5) (.reg 10) (.cst (.bool false))),o_ (.mov (.reg 11)),⟨.fieldAddr 7 (.loc 2),none,(some (12,true))⟩,⟨.load1 (.reg 13),none,(some (12,true))⟩,⟨.fieldAddr 7 (.loc 3),none,(some (12,true))⟩,⟨.load1 (.reg 15),none,(some (12,true))⟩,⟨.call false false 54 [(.reg 14),(.reg 16),(.fn 55)],none,(some (12,true))⟩,o_ (.pick (.reg 12) (.reg 17) (.cst (.bool false))),o_ (.mov (.reg 18)),⟨.fieldAddr 0 (.loc 2),none,(some (19,true))⟩,⟨.loadN 5 (.reg 20),none,(some (19,true))⟩,⟨.fieldAddr 0 (.loc 3),none,(some (19,true))⟩,⟨.loadN 5 (.reg 22),none,(some (19,true))⟩,⟨.call false false 56 [(.reg 21),(.reg 23)],none,(some (19,true))⟩,o_ (.pick (.reg 19) (.reg 24) (.cst (.bool false))),s_ 4 (.mov (.reg 25))])
.ret))⟩
theorem c19 : compFunc Tryz.prog opts a19 Tryz.f19 = some t19 := by kernel_rfl
def a33 : Ann := { slots := [0,1,2,3],lb := [3,2,1],mu := [(2,5),(2,9)],trunc := [],draws := [(2,⟨[0,0,0,6,14,31,63,0,0,384,1023,2047],[0,2,7,8,9],[(1,[0,2],[3]),(4,[0],[5,6,10]),(11,[],[])]⟩)] }
def t33 : TFunc := ⟨1,4,[.cell 2 8 true],
(.seq (.region [o_ (.boxL 1 (.loc 0)),o_ (.allocL 2 [(.int .i64 0),(.int .i64 0),(.sl .nil []),(.bool false),(.sl .nil []),(.int .i64 0),(.int .i64 0),(.sl .nil [])])])
(.seq (.region [o_ (.call false false 36 []),o_ (.lit false [(.int .i64 0),(.int .i64 0),(.sl .nil []),(.bool false),(.sl .nil [])] 1 [(0,(.reg 0))]),o_ (.build [(.int .i64 0),(.int .i64 0),(.sl .nil []),(.bool false),(.sl .nil [])] [(0,1,(i_ 5)),(4,1,(.reg 1))]),o_ (.allocL 3 [(.int .i64 0),(.int .i64 0),(.sl .nil []),(.bool false),(.sl .nil [])]),o_ (.store 5 (.reg 3) (.reg 2))])
(.seq (.draw [0,2,7,8,9] [(1,[0,2],[3]),(4,[0],[5,6,10]),(11,[],[])] [o_ (.loadN 5 (.loc 3)),o_ (.call false false 35 [(i_ 0)]),o_ (.loadN 5 (.loc 1)),o_ (.lit false [(.int .i64 0),(.int .i64 0),(.sl .nil []),(.bool false),(.sl .nil [])] 2 [(0,(.reg 1)),(1,(.reg 2))]),o_ (.call false false 73 [(.reg 3)]),o_ (.lit true [(.int .i64 0),(.int .i64 0),(.sl .nil []),(.bool false),(.sl .nil [])] 2 [(0,(.reg 0)),(1,(.reg 4))]),o_ (.build [(.int .i64 0),(.int .i64 0),(.sl .nil []),(.bool false),(.sl .nil [])] [(0,1,(i_ 10)),(4,1,(.reg 5))]),o_ (.build [(.int .i64 0),(.int .i64 0),(.str []),(.sl .nil []),(.int .i64 0)] [(0,1,(i_ 2)),(2,1,(.cst (.str [53])))]),o_ (.build [(.int .i64 0),(.int .i64 0),(.str []),(.sl .nil []),(.int .i64 0)] [(0,1,(i_ 4)),(2,1,(.cst (.str [97])))]),o_ (.lit true [(.int .i64 0),(.int .i64 0),(.str []),(.sl .nil []),(.int .i64 0)] 2 [(0,(.reg 7)),(1,(.reg 8))]),o_ (.build [(.int .i64 0),(.int .i64 0),(.sl .nil []),(.bool false),(.sl .nil []),(.int .i64 0),(.int .i64 0),(.sl .nil [])] [(0,5,(.reg 6)),(5,1,(i_ 1)),(6,1,(i_ 2)),(7,1,(.reg 9))]),o_ (.store 8 (.loc 2) (.reg 10))])
.ret)))⟩
theorem c33 : compFunc Tryz.prog opts a33 Tryz.f33 = some t33 := by kernel_rfl
def a34 : Ann := { slots := [0,2],lb := [2],mu := [],trunc := [],draws := [] }
def t34 : TFunc := ⟨1,2,[.cell 1 5 true],
(.seq (.region [o_ (.allocL 1 [(.int .i64 0),(.int .i64 0),(.sl .nil []),(.bool false),(.sl .nil [])])])
(.seq (.region [o_ (.mov (.loc 0)),o_ (.build [(.int .i64 0),(.int .i64 0),(.sl .nil []),(.bool false),(.sl .nil [])] [(0,1,(i_ 1)),(1,1,(.reg 0))]),o_ (.store 5 (.loc 1) (.reg 1))])
.ret))⟩
theorem c34 : compFunc Tryz.prog opts a34 Tryz.f34 = some t34 := by kernel_rfl
def a35 : Ann := { slots := [0,2],lb := [2],mu := [],trunc := [],draws := [] }
def t35 : TFunc := ⟨1,2,[.cell 1 5 true],
(.seq (.region [o_ (.allocL 1 [(.int .i64 0),(.int .i64 0),(.sl .nil []),(.bool false),(.sl .nil [])])])
(.seq (.region [o_ (.mov (.loc 0)),o_ (.build [(.int .i64 0),(.int .i64 0),(.sl .nil []),(.bool false),(.sl .nil [])] [(0,1,(i_ 3)),(1,1,(.reg 0))]),o_ (.store 5 (.loc 1) (.reg 1))])
.ret))⟩
theorem c35 : compFunc Tryz.prog opts a35 Tryz.f35 = some t35 := by kernel_rfl
def a36 : Ann := { slots := [0,1],lb := [1,0],mu := [],trunc := [],draws := [] }
def t36 : TFunc := ⟨0,2,[.cell 0 5 true],
(.seq (.region [o_ (.allocL 0 [(.int .i64 0),(.int .i64 0),(.sl .nil []),(.bool false),(.sl .nil [])])])
(.seq (.region [o_ (.call false false 37 [(i_ 0)]),o_ (.call false false 35 [(i_ 0)]),o_ (.call false false 37 [(i_ 1)]),o_ (.lit false [(.int .i64 0),(.int .i64 0),(.sl .nil []),(.bool false),(.sl .nil [])] 2 [(0,(.reg 1)),(1,(.reg 2))]),o_ (.call false false 73 [(.reg 3)]),o_ (.call false false 34 [(i_ 0)]),o_ (.lit false [(.int .i64 0),(.int .i64 0),(.sl .nil []),(.bool false),(.sl .nil [])] 3 [(0,(.reg 0)),(1,(.reg 4)),(2,(.reg 5))]),o_ (.build [(.int .i64 0),(.int .i64 0),(.sl .nil []),(.bool false),(.sl .nil [])] [(0,1,(i_ 6)),(4,1,(.reg 6))]),o_ (.allocL 1 [(.int .i64 0),(.int .i64 0),(.sl .nil []),(.bool false),(.sl .nil [])]),o_ (.store 5 (.reg 8) (.reg 7))])
(.seq (.region [o_ (.lit false [(.int .i64 0)] 2 [(0,(i_ 0)),(1,(i_ 1))]),o_ (.loadN 5 (.loc 1)),o_ (.lit false [(.int .i64 0),(.int .i64 0),(.sl .nil []),(.bool false),(.sl .nil [])] 1 [(0,(.reg 1))]),o_ (.build [(.int .i64 0),(.int .i64 0),(.sl .nil []),(.bool false),(.sl .nil [])] [(0,1,(i_ 7)),(2,1,(.reg 0)),(3,1,(.cst (.bool true))),(4,1,(.reg 2))]),o_ (.store 5 (.loc 0) (.reg 3))])
.ret)))⟩
theorem c36 : compFunc Tryz.prog opts a36 Tryz.f36 = some t36 := by kernel_rfl
def a37 : Ann := { slots := [0,2],lb := [2],mu := [],trunc := [],draws := [] }
def t37 : TFunc := ⟨1,2,[.cell 1 5 true],
(.seq (.region [o_ (.allocL 1 [(.int .i64 0),(.int .i64 0),(.sl .nil []),(.bool false),(.sl .nil [])])])
(.seq (.region [o_ (.mov (.loc 0)),o_ (.build [(.int .i64 0),(.int .i64 0),(.sl .nil []),(.bool false),(.sl .nil [])] [(0,1,(i_ 2)),(1,1,(.reg 0))]),o_ (.store 5 (.loc 1) (.reg 1))])
.ret))⟩
theorem c37 : compFunc Tryz.prog opts a37 Tryz.f37 = some t37 := by kernel_rfl
def a38 : Ann := { slots := [0,1,2,3,4,5,6,8,38,43,44,54,65,83,86,87,88,89],lb := [8,3,1],mu := [(4,2)],trunc := [],draws := [(9,⟨[0,1,0,4,12,31,63],[0,1,2,3],[(4,[1],[5,6])]⟩),(12,⟨[0,1,3,0,8,24,63,127,255],[0,1,2,3,4],[(5,[2],[6,7]),(8,[],[])]⟩)] }
def t38L0 : TCode := (.seq (.region [s_ 17 (.bin .lss (.loc 16) (.loc 15))])
(.seq (.cond (.loc 17)
.skip
(.exit 1))
(.seq (.block 2
(.seq (.region [o_ (.indexAddrS 5 (.loc 14) (.loc 16)),o_ (.loadN 5 (.reg 0)),o_ (.allocL 7 [(.int .i64 0),(.int .i64 0),(.sl .nil []),(.bool false),(.sl .nil [])]),o_ (.store 5 (.reg 2) (.reg 1))])
(.region [o_ (.mov (.loc 5)),o_ (.loadN 5 (.loc 7)),o_ (.call false false 38 [(.reg 1)]),o_ (.lit false [(.str [])] 1 [(0,(.reg 2))]),o_ (.append false 1 16 9 (.reg 0) (.reg 3)),s_ 5 (.mov (.reg 4))])))
(.region [o_ (.bin .add (.loc 16) (i_ 1)),s_ 16 (.mov (.reg 0))]))))
def t38 : TFunc := ⟨1,18,[.loc 2],
(.seq (.region [o_ (.boxL 1 (.loc 0)),s_ 2 (.mov (.cst (.str [])))])
(.seq (.region [o_ (.loadN 5 (.loc 1)),o_ (.call true false 74 [(.reg 0)]),o_ (.mov (.reg 1)),o_ (.extract 0 (.reg 2)),o_ (.extract 1 (.reg 2)),o_ (.allocL 3 [(.bool false),(.int .i64 0),(.bool false),(.str [])]),o_ (.store 4 (.reg 5) (.reg 3)),s_ 4 (.mov (.reg 4))])
(.seq (.seq (.region [o_ (.mov (.loc 4)),o_ (.un .not (.reg 0)),o_ (.mov (.reg 1)),⟨.fieldAddr 4 (.loc 1),none,(some (2,false))⟩,⟨.load1 (.reg 3),none,(some (2,false))⟩,⟨.len .sl (.reg 4),none,(some (2,false))⟩,⟨.fieldAddr 1 (.loc 3),none,(some (2,false))⟩,⟨.load1 (.reg 6),none,(some (2,false))⟩,⟨.bin .lss (.reg 5) (.reg 7),none,(some (2,false))⟩,o_ (.pick (.reg 2) (.cst (.bool true)) (.reg 8)),o_ (.mov (.reg 9)),⟨.fieldAddr 3 (.loc 1),none,(some (10,false))⟩,⟨.load1 (.reg 11),none,(some (10,false))⟩,⟨.mov (.reg 12),none,(some (10,false))⟩,⟨.fieldAddr 0 (.loc 1),none,(some (13,true))⟩,⟨.load1 (.reg 14),none,(some (13,true))⟩,⟨.bin .eql (.reg 15) (i_ 7),none,(some (13,true))⟩,⟨.pick (.reg 13) (.reg 16) (.cst (.bool false)),none,(some (10,false))⟩,⟨.mov (.reg 17),none,(some (10,false))⟩,⟨.fieldAddr 2 (.loc 1),none,(some (18,true))⟩,⟨.load1 (.reg 19),none,(some (18,true))⟩,⟨.len .sl (.reg 20),none,(some (18,true))⟩,⟨.bin .eql (.reg 21) (i_ 0),none,(some (18,true))⟩,⟨.pick (.reg 18) (.reg 22) (.cst (.bool false)),none,(some (10,false))⟩,s_ 8 (.pick (.reg 10) (.cst (.bool true)) (.reg 23))])
(.cond (.loc 8)
(.seq (.region [s_ 2 (.mov (.cst (.str [63])))])
.ret)
.skip))
(.seq (.region [o_ (.fieldAddr 3 (.loc 3)),o_ (.load1 (.reg 0)),o_ (.lit true [(.str [])] 1 [(0,(.reg 1))]),s_ 5 (.mov (.reg 2))])
(.seq (.seq (.region [o_ (.fieldAddr 0 (.loc 1)),s_ 9 (.load1 (.reg 0))])
(.block 0
(.seq (.seq (.region [o_ (.bin .eql (.loc 9) (i_ 1)),s_ 10 (.mov (.reg 0))])
(.cond (.loc 10)
.skip
(.seq (.region [o_ (.bin .eql (.loc 9) (i_ 2)),s_ 10 (.mov (.reg 0))])
(.cond (.loc 10)
.skip
(.region [o_ (.bin .eql (.loc 9) (i_ 3)),s_ 10 (.mov (.reg 0))])))))
(.cond (.loc 10)
(.seq (.draw [0,1,2,3] [(4,[1],[5,6])] [o_ (.fieldAddr 3 (.loc 3)),o_ (.load1 (.reg 0)),o_ (.fieldAddr 1 (.loc 1)),o_ (.load1 (.reg 2)),o_ (.call true false 75 [(.reg 3)]),o_ (.bin .add (.reg 1) (.reg 4)),s_ 2 (.mov (.reg 5))])
.ret)
(.seq (.seq (.region [o_ (.bin .eql (.loc 9) (i_ 4)),s_ 11 (.mov (.reg 0))])
(.cond (.loc 11)
.skip
(.region [o_ (.bin .eql (.loc 9) (i_ 5)),s_ 11 (.mov (.reg 0))])))
(.cond (.loc 11)
(.draw [0,1,2,3,4] [(5,[2],[6,7]),(8,[],[])] [o_ (.mov (.loc 5)),o_ (.indexAddrS 1 (.reg 0) (i_ 0)),o_ (.load1 (.reg 1)),o_ (.fieldAddr 1 (.loc 1)),o_ (.load1 (.reg 3)),o_ (.call true false 75 [(.reg 4)]),o_ (.bin .add (.reg 2) (.reg 5)),o_ (.indexAddrS 1 (.reg 0) (i_ 0)),o_ (.store 1 (.reg 7) (.reg 6))])
(.seq (.region [o_ (.bin .eql (.loc 9) (i_ 7)),s_ 12 (.mov (.reg 0))])
(.cond (.loc 12)
(.region [o_ (.mov (.loc 5)),o_ (.loadN 5 (.loc 1)),o_ (.call false false 76 [(.reg 1)]),o_ (.lit false [(.str [])] 1 [(0,(.reg 2))]),o_ (.append false 1 16 9 (.reg 0) (.reg 3)),s_ 5 (.mov (.reg 4))])
.skip))))))))
(.seq (.region [o_ (.fieldAddr 4 (.loc 1)),o_ (.load1 (.reg 0)),o_ (.fieldAddr 1 (.loc 3)),o_ (.load1 (.reg 2)),o_ (.slice (.sl 5) (.reg 1) none (some (.reg 3)) none),s_ 6 (.mov (.reg 4))])
(.seq (.seq (.region [o_ (.fieldAddr 2 (.loc 3)),o_ (.load1 (.reg 0)),o_ (.mov (.reg 1)),⟨.fieldAddr 0 (.loc 1),none,(some (2,false))⟩,⟨.load1 (.reg 3),none,(some (2,false))⟩,⟨.bin .eql (.reg 4) (i_ 9),none,(some (2,false))⟩,s_ 13 (.pick (.reg 2) (.cst (.bool true)) (.reg 5))])
(.cond (.loc 13)
(.region [o_ (.fieldAddr 4 (.loc 1)),o_ (.load1 (.reg 0)),s_ 6 (.mov (.reg 1))])
.skip))
(.seq (.seq (.region [s_ 14 (.mov (.loc 6)),s_ 15 (.len .sl (.reg 0)),s_ 16 (.mov (i_ 0))])
(.block 1
(.loop t38L0)))
(.seq (.region [o_ (.mov (.loc 5)),o_ (.call true false 77 [(.reg 0),(.cst (.str [32]))]),o_ (.bin .add (.cst (.str [40])) (.reg 1)),o_ (.bin .add (.reg 2) (.cst (.str [41]))),s_ 2 (.mov (.reg 3))])
.ret)))))))))⟩
theorem c38 : compFunc Tryz.prog opts a38 Tryz.f38 = some t38 := by kernel_rfl
def a39 : Ann := { slots := [0,1,2,3,4,5,17,18,19,20],lb := [5,1],mu := [],trunc := [],draws := [(2,⟨[0,1,3,7,15,0,32,103,255,511],[0,1,5,6],[(2,[6],[3,4]),(7,[],[8]),(9,[],[])]⟩),(6,⟨[0,1,3,7,0,19,63,127],[0,4],[(1,[4],[2,3]),(5,[],[6]),(7,[],[])]⟩)] }
def t39L0 : TCode := (.seq (.region [s_ 9 (.bin .lss (.loc 8) (.loc 7))])
(.seq (.cond (.loc 9)
.skip
(.exit 0))
(.seq (.block 1
(.seq (.region [o_ (.mov (.loc 8)),o_ (.indexAddrS 5 (.loc 6) (.loc 8)),o_ (.loadN 5 (.reg 1)),o_ (.allocL 5 [(.int .i64 0),(.int .i64 0),(.str []),(.sl .nil []),(.int .i64 0)]),s_ 4 (.mov (.reg 0)),o_ (.store 5 (.reg 3) (.reg 2))])
(.draw [0,4] [(1,[4],[2,3]),(5,[],[6]),(7,[],[])] [o_ (.mov (.loc 4)),o_ (.call true false 75 [(.reg 0)]),o_ (.bin .add (.cst (.str [10,99])) (.reg 1)),o_ (.bin .add (.reg 2) (.cst (.str [32]))),o_ (.loadN 5 (.loc 5)),o_ (.call false false 79 [(.reg 4),(.cst (.bool false))]),o_ (.bin .add (.reg 3) (.reg 5)),o_ (.call false false 78 [(.loc 3),(.reg 6)])])))
(.region [o_ (.bin .add (.loc 8) (i_ 1)),s_ 8 (.mov (.reg 0))]))))
def t39 : TFunc := ⟨1,10,[.loc 2],
(.seq (.region [o_ (.boxL 1 (.loc 0)),s_ 2 (.mov (.cst (.str [])))])
(.seq (.region [s_ 3 (.allocH 98 [.nilp,(.sl .nil [])])])
(.seq (.draw [0,1,5,6] [(2,[6],[3,4]),(7,[],[8]),(9,[],[])] [o_ (.fieldAddr 5 (.loc 1)),o_ (.load1 (.reg 0)),o_ (.call true false 75 [(.reg 1)]),o_ (.bin .add (.cst (.str [103,108,111,98,97,108,115,32])) (.reg 2)),o_ (.bin .add (.reg 3) (.cst (.str [32,118,97,114,115,32]))),o_ (.fieldAddr 6 (.loc 1)),o_ (.load1 (.reg 5)),o_ (.call true false 75 [(.reg 6)]),o_ (.bin .add (.reg 4) (.reg 7)),o_ (.call false false 78 [(.loc 3),(.reg 8)])])
(.seq (.seq (.region [o_ (.fieldAddr 7 (.loc 1)),s_ 6 (.load1 (.reg 0)),s_ 7 (.len .sl (.reg 1)),s_ 8 (.mov (i_ 0))])
(.block 0
(.loop t39L0)))
(.seq (.region [o_ (.fieldAddr 0 (.loc 1)),o_ (.loadN 5 (.reg 0)),o_ (.call false false 38 [(.reg 1)]),o_ (.bin .add (.cst (.str [10])) (.reg 2)),o_ (.call false false 78 [(.loc 3),(.reg 3)])])
(.seq (.region [o_ (.prim 80 [(.loc 3)]),s_ 2 (.mov (.reg 0))])
.ret))))))⟩
theorem c39 : compFunc Tryz.prog opts a39 Tryz.f39 = some t39 := by kernel_rfl
def a40 : Ann := { slots := [0,1,2,4,5,6,8,17],lb := [2],mu := [],trunc := [],draws := [] }
def t40L0 : TCode := (.seq (.seq (.region [o_ (.mov (.loc 5)),o_ (.fieldAddr 3 (.loc 2)),o_ (.load1 (.reg 1)),o_ (.len .sl (.reg 2)),o_ (.bin .lss (.reg 0) (.reg 3)),o_ (.mov (.reg 4)),⟨.mov (.loc 4),none,(some (5,true))⟩,⟨.bin .lss (.reg 6) (i_ 5000),none,(some (5,true))⟩,s_ 7 (.pick (.reg 5) (.reg 7) (.cst (.bool false)))])
(.cond (.loc 7)
.skip
(.exit 0)))
(.seq (.block 1
(.region [o_ (.mov (.loc 4)),o_ (.fieldAddr 3 (.loc 2)),o_ (.load1 (.reg 1)),o_ (.mov (.loc 5)),o_ (.indexAddrS 5 (.reg 2) (.reg 3)),o_ (.loadN 5 (.reg 4)),o_ (.mov (.loc 1)),o_ (.bin .sub (.reg 6) (i_ 1)),o_ (.call false false 40 [(.reg 5),(.reg 7)]),o_ (.bin .add (.reg 0) (.reg 8)),s_ 4 (.mov (.reg 9))]))
(.region [o_ (.mov (.loc 5)),o_ (.bin .add (.reg 0) (i_ 1)),s_ 5 (.mov (.reg 1))])))
def t40 : TFunc := ⟨2,8,[.loc 3],
(.seq (.region [o_ (.boxL 2 (.loc 0)),s_ 3 (.mov (i_ 0))])
(.seq (.seq (.region [o_ (.mov (.loc 1)),s_ 6 (.bin .eql (.reg 0) (i_ 0))])
(.cond (.loc 6)
(.seq (.region [s_ 3 (.mov (i_ 5000))])
.ret)
.skip))
(.seq (.region [s_ 4 (.mov (i_ 1))])
(.seq (.seq (.region [s_ 5 (.mov (i_ 0))])
(.block 0
(.loop t40L0)))
(.seq (.region [o_ (.mov (.loc 4)),s_ 3 (.mov (.reg 0))])
.ret)))))⟩
theorem c40 : compFunc Tryz.prog opts a40 Tryz.f40 = some t40 := by kernel_rfl
def a41 : Ann := { slots := [0,1,2],lb := [1],mu := [],trunc := [],draws := [] }
def t41 : TFunc := ⟨1,3,[.cell 2 1 false],
(.seq (.region [o_ (.boxL 1 (.loc 0)),s_ 2 (.allocH 4 [(.int .i64 0)])])
(.seq (.region [o_ (.loadN 5 (.loc 1)),o_ (.mkFn 81 [] [(.loc 2)]),o_ (.call false false 45 [(.reg 0),(.reg 1)])])
(.seq (.region [o_ (.load1 (.loc 2)),o_ (.store 1 (.loc 2) (.reg 0))])
.ret)))⟩
theorem c41 : compFunc Tryz.prog opts a41 Tryz.f41 = some t41 := by kernel_rfl
def a42 : Ann := { slots := [0,1,2,4,10,17],lb := [1],mu := [],trunc := [],draws := [] }
def t42L0 : TCode := (.seq (.seq (.region [o_ (.loadN 5 (.loc 1)),s_ 3 (.call false false 82 [(.reg 0)])])
(.cond (.loc 3)
.skip
(.exit 0)))
(.block 1
(.seq (.seq (.region [o_ (.fieldAddr 3 (.loc 1)),o_ (.load1 (.reg 0)),o_ (.indexAddrS 5 (.reg 1) (i_ 0)),o_ (.loadN 5 (.reg 2)),o_ (.call true false 42 [(.reg 3)]),s_ 4 (.un .not (.reg 4))])
(.cond (.loc 4)
(.seq (.region [s_ 2 (.mov (.cst (.bool false)))])
.ret)
.skip))
(.region [o_ (.fieldAddr 3 (.loc 1)),o_ (.load1 (.reg 0)),o_ (.indexAddrS 5 (.reg 1) (i_ 1)),o_ (.loadN 5 (.reg 2)),o_ (.store 5 (.loc 1) (.reg 3))]))))
def t42 : TFunc := ⟨1,6,[.loc 2],
(.seq (.region [o_ (.boxL 1 (.loc 0)),s_ 2 (.mov (.cst (.bool false)))])
(.seq (.block 0
(.loop t42L0))
(.seq (.seq (.region [o_ (.fieldAddr 0 (.loc 1)),o_ (.load1 (.reg 0)),s_ 5 (.bin .eql (.reg 1) (i_ 7))])
(.cond (.loc 5)
(.seq (.region [o_ (.fieldAddr 3 (.loc 1)),o_ (.load1 (.reg 0)),o_ (.call false false 83 [(.reg 1),(.fn 84)]),o_ (.un .not (.reg 2)),s_ 2 (.mov (.reg 3))])
.ret)
.skip))
(.seq (.region [o_ (.fieldAddr 3 (.loc 1)),o_ (.load1 (.reg 0)),o_ (.len .sl (.reg 1)),o_ (.bin .eql (.reg 2) (i_ 0)),o_ (.mov (.reg 3)),⟨.loadN 5 (.loc 1),none,(some (4,true))⟩,⟨.call true false 85 [(.reg 5)],none,(some (4,true))⟩,o_ (.pick (.reg 4) (.reg 6) (.cst (.bool false))),s_ 2 (.mov (.reg 7))])
.ret))))⟩
theorem c42 : compFunc Tryz.prog opts a42 Tryz.f42 = some t42 := by kernel_rfl
def a43 : Ann := { slots := [0,1,2,11,17,29],lb := [1],mu := [],trunc := [],draws := [] }
def t43L0 : TCode := (.seq (.seq (.region [o_ (.fieldAddr 0 (.loc 1)),o_ (.load1 (.reg 0)),o_ (.bin .eql (.reg 1) (i_ 6)),o_ (.mov (.reg 2)),⟨.fieldAddr 3 (.loc 1),none,(some (3,true))⟩,⟨.load1 (.reg 4),none,(some (3,true))⟩,⟨.len .sl (.reg 5),none,(some (3,true))⟩,⟨.bin .eql (.reg 6) (i_ 2),none,(some (3,true))⟩,s_ 3 (.pick (.reg 3) (.reg 7) (.cst (.bool false)))])
(.cond (.loc 3)
.skip
(.exit 0)))
(.block 1
(.seq (.seq (.region [o_ (.fieldAddr 3 (.loc 1)),o_ (.load1 (.reg 0)),o_ (.indexAddrS 5 (.reg 1) (i_ 0)),o_ (.loadN 5 (.reg 2)),o_ (.call true false 43 [(.reg 3)]),s_ 4 (.un .not (.reg 4))])
(.cond (.loc 4)
(.seq (.region [s_ 2 (.mov (.cst (.bool false)))])
.ret)
.skip))
(.region [o_ (.fieldAddr 3 (.loc 1)),o_ (.load1 (.reg 0)),o_ (.indexAddrS 5 (.reg 1) (i_ 1)),o_ (.loadN 5 (.reg 2)),o_ (.store 5 (.loc 1) (.reg 3))]))))
def t43 : TFunc := ⟨1,6,[.loc 2],
(.seq (.region [o_ (.boxL 1 (.loc 0)),s_ 2 (.mov (.cst (.bool false)))])
(.seq (.block 0
(.loop t43L0))
(.seq (.seq (.region [o_ (.fieldAddr 0 (.loc 1)),o_ (.load1 (.reg 0)),o_ (.bin .eql (.reg 1) (i_ 5)),o_ (.mov (.reg 2)),⟨.fieldAddr 1 (.loc 1),none,(some (3,true))⟩,⟨.load1 (.reg 4),none,(some (3,true))⟩,⟨.bin .neq (.reg 5) (i_ 0),none,(some (3,true))⟩,s_ 5 (.pick (.reg 3) (.reg 6) (.cst (.bool false)))])
(.cond (.loc 5)
(.seq (.region [s_ 2 (.mov (.cst (.bool false)))])
.ret)
.skip))
(.seq (.region [o_ (.fieldAddr 3 (.loc 1)),o_ (.load1 (.reg 0)),o_ (.call false false 83 [(.reg 1),(.fn 86)]),o_ (.un .not (.reg 2)),s_ 2 (.mov (.reg 3))])
.ret))))⟩
theorem c43 : compFunc Tryz.prog opts a43 Tryz.f43 = some t43 := by kernel_rfl
def a44 : Ann := { slots := [0,1,2,4,6,8,10,11,13,14,17,23,24,25,26,36,52,61,87,89,90,91,92,101,105,106,107,108],lb := [10,4],mu := [],trunc := [],draws := [(14,⟨[0,1,3,7,0,16,63,127,255],[0,1,2,3,4,5,6,7,8],[]⟩),(16,⟨[0,1,3,7,0,16,0,127],[0,1,2,3,4,5,6],[(7,[],[])]⟩),(17,⟨[0,1,3,7,15,31,63,127,255,511,1023,2047,4095,511,8703,32767,65535,131071,262143],[0,1,2,3,4,5,6,7,8,9,10,11,12,13,14,15,16,17,18],[]⟩)] }
def t44L0 : TCode := (.seq (.region [s_ 27 (.bin .lss (.loc 26) (.loc 25))])
(.seq (.cond (.loc 27)
.skip
(.exit 5))
(.seq (.block 6
(.seq (.region [o_ (.indexAddrS 1 (.loc 24) (.loc 26)),o_ (.load1 (.reg 0)),s_ 8 (.mov (.reg 1))])
(.region [o_ (.mov (.loc 0)),o_ (.nilCheck (.reg 0)),o_ (.fieldAddr 10 (.reg 1)),o_ (.load1 (.reg 2)),o_ (.mov (.loc 8)),o_ (.build [(.int .i64 0)] []),o_ (.update (.leaf .int) (.reg 3) (.reg 4) (.reg 5))])))
(.region [o_ (.bin .add (.loc 26) (i_ 1)),s_ 26 (.mov (.reg 0))]))))
def t44L1 : TCode := (.seq (.region [s_ 22 (.bin .lss (.loc 21) (.loc 20))])
(.seq (.cond (.loc 22)
.skip
(.exit 3))
(.seq (.block 4
(.seq (.region [o_ (.indexAddrS 5 (.loc 19) (.loc 21)),o_ (.loadN 5 (.reg 0)),o_ (.allocL 6 [(.int .i64 0),(.int .i64 0),(.sl .nil []),(.bool false),(.sl .nil [])]),o_ (.store 5 (.reg 2) (.reg 1))])
(.seq (.region [o_ (.mov (.loc 0)),o_ (.loadN 5 (.loc 6)),o_ (.mov (.loc 2)),o_ (.bin .add (.reg 2) (i_ 1)),o_ (.call false false 44 [(.reg 0),(.reg 1),(.reg 3)]),s_ 7 (.mov (.reg 4))])
(.seq (.region [o_ (.mov (.loc 7)),s_ 23 (.bin .neq (.reg 0) (i_ 0))])
(.cond (.loc 23)
(.seq (.region [o_ (.mov (.loc 7)),s_ 4 (.mov (.reg 0))])
.ret)
.skip)))))
(.region [o_ (.bin .add (.loc 21) (i_ 1)),s_ 21 (.mov (.reg 0))]))))
def t44L2 : TCode := (.seq (.region [s_ 14 (.bin .lss (.loc 13) (.loc 12))])
(.seq (.cond (.loc 14)
.skip
(.exit 1))
(.seq (.block 2
(.seq (.region [o_ (.indexAddrS 1 (.loc 11) (.loc 13)),o_ (.load1 (.reg 0)),s_ 5 (.mov (.reg 1))])
(.seq (.seq (.region [o_ (.mov (.loc 0)),o_ (.nilCheck (.reg 0)),o_ (.fieldAddr 8 (.reg 1)),o_ (.load1 (.reg 2)),o_ (.mov (.loc 5)),o_ (.lookup (.leaf .int) (.agg [(.int .i64 0)]) false (.reg 3) (.reg 4)),o_ (.field 0 1 false (.reg 5)),s_ 15 (.bin .gtr (.reg 6) (i_ 0))])
(.cond (.loc 15)
(.seq (.region [s_ 4 (.mov (i_ 14))])
.ret)
.skip))
(.seq (.region [o_ (.mov (.loc 0)),o_ (.nilCheck (.reg 0)),o_ (.fieldAddr 8 (.reg 1)),o_ (.load1 (.reg 2)),o_ (.mov (.loc 5)),o_ (.build [(.int .i64 0)] [(0,1,(i_ 1))]),o_ (.update (.leaf .int) (.reg 3) (.reg 4) (.reg 5))])
(.region [o_ (.mov (.loc 0)),o_ (.nilCheck (.reg 0)),o_ (.fieldAddr 10 (.reg 1)),o_ (.load1 (.reg 2)),o_ (.mov (.loc 5)),o_ (.build [(.int .i64 0)] [(0,1,(i_ 1))]),o_ (.update (.leaf .int) (.reg 3) (.reg 4) (.reg 5))])))))
(.region [o_ (.bin .add (.loc 13) (i_ 1)),s_ 13 (.mov (.reg 0))]))))
def t44 : TFunc := ⟨3,28,[.loc 4],
(.seq (.region [o_ (.boxL 3 (.loc 1)),s_ 4 (.mov (i_ 0))])
(.seq (.block 0
(.seq (.region [o_ (.mov (.loc 2)),o_ (.bin .geq (.reg 0) (i_ 4000)),s_ 9 (.mov (.reg 1))])
(.cond (.loc 9)
(.seq (.region [s_ 4 (.mov (i_ 5))])
.ret)
(.seq (.region [o_ (.mov (.loc 0)),o_ (.loadN 5 (.loc 3)),o_ (.call false false 87 [(.reg 0),(.reg 1)]),o_ (.un .not (.reg 2)),s_ 10 (.mov (.reg 3))])
(.cond (.loc 10)
(.seq (.region [s_ 4 (.mov (i_ 4))])
.ret)
.skip)))))
(.seq (.seq (.region [o_ (.fieldAddr 2 (.loc 3)),s_ 11 (.load1 (.reg 0)),s_ 12 (.len .sl (.reg 1)),s_ 13 (.mov (i_ 0))])
(.block 1
(.loop t44L2)))
(.seq (.seq (.region [o_ (.fieldAddr 0 (.loc 3)),o_ (.load1 (.reg 0)),s_ 16 (.bin .eql (.reg 1) (i_ 1))])
(.cond (.loc 16)
(.seq (.seq (.draw [0,1,2,3,4,5,6,7,8] [] [o_ (.mov (.loc 0)),o_ (.nilCheck (.reg 0)),o_ (.fieldAddr 9 (.reg 1)),o_ (.load1 (.reg 2)),o_ (.fieldAddr 1 (.loc 3)),o_ (.load1 (.reg 4)),o_ (.lookup (.leaf .int) (.agg [(.int .i64 0)]) false (.reg 3) (.reg 5)),o_ (.field 0 1 false (.reg 6)),s_ 17 (.bin .gtr (.reg 7) (i_ 0))])
(.cond (.loc 17)
(.seq (.region [s_ 4 (.mov (i_ 14))])
.ret)
.skip))
(.draw [0,1,2,3,4,5,6] [(7,[],[])] [o_ (.mov (.loc 0)),o_ (.nilCheck (.reg 0)),o_ (.fieldAddr 9 (.reg 1)),o_ (.load1 (.reg 2)),o_ (.fieldAddr 1 (.loc 3)),o_ (.load1 (.reg 4)),o_ (.build [(.int .i64 0)] [(0,1,(i_ 1))]),o_ (.update (.leaf .int) (.reg 3) (.reg 5) (.reg 6))]))
.skip))
(.seq (.seq (.draw [0,1,2,3,4,5,6,7,8,9,10,11,12,13,14,15,16,17,18] [] [o_ (.fieldAddr 0 (.loc 3)),o_ (.load1 (.reg 0)),o_ (.bin .eql (.reg 1) (i_ 2)),o_ (.mov (.reg 2)),⟨.fieldAddr 0 (.loc 3),none,(some (3,false))⟩,⟨.load1 (.reg 4),none,(some (3,false))⟩,⟨.bin .eql (.reg 5) (i_ 4),none,(some (3,false))⟩,o_ (.pick (.reg 3) (.cst (.bool true)) (.reg 6)),o_ (.mov (.reg 7)),⟨.mov (.loc 0),none,(some (8,true))⟩,⟨.nilCheck (.reg 9),none,(some (8,true))⟩,⟨.fieldAddr 10 (.reg 10),none,(some (8,true))⟩,⟨.load1 (.reg 11),none,(some (8,true))⟩,⟨.fieldAddr 1 (.loc 3),none,(some (8,true))⟩,⟨.load1 (.reg 13),none,(some (8,true))⟩,⟨.lookup (.leaf .int) (.agg [(.int .i64 0)]) false (.reg 12) (.reg 14),none,(some (8,true))⟩,⟨.field 0 1 false (.reg 15),none,(some (8,true))⟩,⟨.bin .eql (.reg 16) (i_ 0),none,(some (8,true))⟩,s_ 18 (.pick (.reg 8) (.reg 17) (.cst (.bool false)))])
(.cond (.loc 18)
(.seq (.region [s_ 4 (.mov (i_ 6))])
.ret)
.skip))
(.seq (.seq (.region [o_ (.fieldAddr 4 (.loc 3)),s_ 19 (.load1 (.reg 0)),s_ 20 (.len .sl (.reg 1)),s_ 21 (.mov (i_ 0))])
(.block 3
(.loop t44L1)))
(.seq (.seq (.region [o_ (.fieldAddr 2 (.loc 3)),s_ 24 (.load1 (.reg 0)),s_ 25 (.len .sl (.reg 1)),s_ 26 (.mov (i_ 0))])
(.block 5
(.loop t44L0)))
(.seq (.region [s_ 4 (.mov (i_ 0))])
.ret))))))))⟩
theorem c44 : compFunc Tryz.prog opts a44 Tryz.f44 = some t44 := by kernel_rfl
def a45 : Ann := { slots := [0,1,2,5,10,11,12,13],lb := [5,2],mu := [],trunc := [],draws := [] }
def t45L0 : TCode := (.seq (.region [s_ 7 (.bin .lss (.loc 6) (.loc 5))])
(.seq (.cond (.loc 7)
.skip
(.exit 0))
(.seq (.block 1
(.seq (.region [o_ (.indexAddrS 5 (.loc 4) (.loc 6)),o_ (.loadN 5 (.reg 0)),o_ (.allocL 3 [(.int .i64 0),(.int .i64 0),(.sl .nil []),(.bool false),(.sl .nil [])]),o_ (.store 5 (.reg 2) (.reg 1))])
(.region [o_ (.loadN 5 (.loc 3)),o_ (.mov (.loc 1)),o_ (.call false false 45 [(.reg 0),(.reg 1)])])))
(.region [o_ (.bin .add (.loc 6) (i_ 1)),s_ 6 (.mov (.reg 0))]))))
def t45 : TFunc := ⟨2,8,[],
(.seq (.region [o_ (.boxL 2 (.loc 0))])
(.seq (.region [o_ (.mov (.loc 1)),o_ (.loadN 5 (.loc 2)),o_ (.callv (.reg 0) [(.reg 1)])])
(.seq (.region [o_ (.fieldAddr 4 (.loc 2)),s_ 4 (.load1 (.reg 0)),s_ 5 (.len .sl (.reg 1)),s_ 6 (.mov (i_ 0))])
(.block 0
(.loop t45L0)))))⟩
theorem c45 : compFunc Tryz.prog opts a45 Tryz.f45 = some t45 := by kernel_rfl
def a46 : Ann := { slots := [0,1,2,5],lb := [2],mu := [],trunc := [],draws := [] }
def t46 : TFunc := ⟨2,4,[],
(.seq (.region [o_ (.boxL 2 (.loc 0))])
(.seq (.region [o_ (.fieldAddr 0 (.loc 2)),o_ (.load1 (.reg 0)),s_ 3 (.bin .eql (.reg 1) (i_ 4))])
(.cond (.loc 3)
(.region [o_ (.load1 (.loc 1)),o_ (.fieldAddr 1 (.loc 2)),o_ (.load1 (.reg 1)),o_ (.build [(.int .i64 0)] []),o_ (.update (.leaf .int) (.reg 0) (.reg 2) (.reg 3))])
.skip)))⟩
theorem c46 : compFunc Tryz.prog opts a46 Tryz.f46 = some t46 := by kernel_rfl
def a48 : Ann := { slots := [0,1,2,4,6,7,8,9,14],lb := [2],mu := [],trunc := [],draws := [] }
def t48L0 : TCode := (.seq (.region [s_ 7 (.bin .lss (.loc 6) (.loc 5))])
(.seq (.cond (.loc 7)
.skip
(.exit 0))
(.seq (.block 1
(.seq (.region [o_ (.indexAddrS 1 (.loc 4) (.loc 6)),o_ (.load1 (.reg 0)),s_ 3 (.mov (.reg 1))])
(.seq (.region [o_ (.fieldAddr 0 (.loc 2)),o_ (.load1 (.reg 0)),s_ 8 (.bin .eql (.reg 1) (i_ 7))])
(.cond (.loc 8)
(.region [o_ (.load1 (.loc 1)),o_ (.mov (.loc 3)),o_ (.build [(.int .i64 0)] []),o_ (.update (.leaf .int) (.reg 0) (.reg 1) (.reg 2))])
.skip))))
(.region [o_ (.bin .add (.loc 6) (i_ 1)),s_ 6 (.mov (.reg 0))]))))
def t48 : TFunc := ⟨2,9,[],
(.seq (.region [o_ (.boxL 2 (.loc 0))])
(.seq (.region [o_ (.fieldAddr 2 (.loc 2)),s_ 4 (.load1 (.reg 0)),s_ 5 (.len .sl (.reg 1)),s_ 6 (.mov (i_ 0))])
(.block 0
(.loop t48L0))))⟩
theorem c48 : compFunc Tryz.prog opts a48 Tryz.f48 = some t48 := by kernel_rfl
def a49 : Ann := { slots := [0,1,2,3,4,6,8,24,33,34,35,36],lb := [8],mu := [],trunc := [],draws := [] }
def t49L0 : TCode := (.seq (.region [s_ 11 (.bin .lss (.loc 10) (.loc 9))])
(.seq (.cond (.loc 11)
.skip
(.exit 0))
(.seq (.block 1
(.seq (.region [o_ (.indexAddrS 5 (.loc 8) (.loc 10)),o_ (.loadN 5 (.reg 0)),o_ (.allocL 6 [(.int .i64 0),(.int .i64 0),(.sl .nil []),(.bool false),(.sl .nil [])]),o_ (.store 5 (.reg 2) (.reg 1))])
(.region [o_ (.loadN 5 (.loc 6)),o_ (.load1 (.loc 4)),o_ (.mov (.loc 2)),o_ (.call false false 49 [(.reg 0),(.reg 1),(.reg 2)])])))
(.region [o_ (.bin .add (.loc 10) (i_ 1)),s_ 10 (.mov (.reg 0))]))))
def t49 : TFunc := ⟨3,12,[],
(.seq (.region [s_ 3 (.boxH 26 (.loc 0)),s_ 4 (.boxH 56 (.loc 1))])
(.seq (.seq (.region [o_ (.fieldAddr 0 (.loc 3)),o_ (.load1 (.reg 0)),o_ (.bin .eql (.reg 1) (i_ 2)),o_ (.mov (.reg 2)),⟨.fieldAddr 0 (.loc 3),none,(some (3,false))⟩,⟨.load1 (.reg 4),none,(some (3,false))⟩,⟨.bin .eql (.reg 5) (i_ 4),none,(some (3,false))⟩,o_ (.pick (.reg 3) (.cst (.bool true)) (.reg 6)),o_ (.mov (.reg 7)),⟨.load1 (.loc 4),none,(some (8,true))⟩,⟨.fieldAddr 1 (.loc 3),none,(some (8,true))⟩,⟨.load1 (.reg 10),none,(some (8,true))⟩,⟨.lookup (.leaf .int) (.agg [(.int .i64 0)]) false (.reg 9) (.reg 11),none,(some (8,true))⟩,⟨.field 0 1 false (.reg 12),none,(some (8,true))⟩,⟨.bin .eql (.reg 13) (i_ 0),none,(some (8,true))⟩,s_ 7 (.pick (.reg 8) (.reg 14) (.cst (.bool false)))])
(.cond (.loc 7)
(.region [o_ (.mov (.loc 2)),o_ (.fieldAddr 1 (.loc 3)),o_ (.load1 (.reg 1)),o_ (.build [(.int .i64 0)] []),o_ (.update (.leaf .int) (.reg 0) (.reg 2) (.reg 3))])
.skip))
(.seq (.region [o_ (.mkFn 90 [] [(.loc 3),(.loc 4)]),s_ 5 (.mov (.reg 0))])
(.seq (.region [o_ (.mov (.loc 5)),o_ (.callv (.reg 0) [(i_ 1)])])
(.seq (.seq (.region [o_ (.fieldAddr 4 (.loc 3)),s_ 8 (.load1 (.reg 0)),s_ 9 (.len .sl (.reg 1)),s_ 10 (.mov (i_ 0))])
(.block 0
(.loop t49L0)))
(.region [o_ (.mov (.loc 5)),o_ (.callv (.reg 0) [(i_ (-1))])]))))))⟩
theorem c49 : compFunc Tryz.prog opts a49 Tryz.f49 = some t49 := by kernel_rfl
def a51 : Ann := { slots := [0,2,3,4,5,7,8,17,22],lb := [],mu := [],trunc := [],draws := [] }
def t51L0 : TCode := (.seq (.seq (.region [o_ (.mov (.loc 6)),o_ (.mov (.loc 3)),o_ (.len .sl (.reg 1)),s_ 8 (.bin .lss (.reg 0) (.reg 2))])
(.cond (.loc 8)
.skip
(.exit 0)))
(.seq (.block 1
(.region [o_ (.mov (.loc 5)),o_ (.mov (.loc 3)),o_ (.mov (.loc 6)),o_ (.indexAddrS 2 (.reg 1) (.reg 2)),o_ (.fieldAddr 0 (.reg 3)),o_ (.load1 (.reg 4)),o_ (.lit false [(.int .i64 0)] 1 [(0,(.reg 5))]),o_ (.append false 1 8 3 (.reg 0) (.reg 6)),s_ 5 (.mov (.reg 7))]))
(.region [o_ (.mov (.loc 6)),o_ (.bin .add (.reg 0) (i_ 1)),s_ 6 (.mov (.reg 1))])))
def t51 : TFunc := ⟨1,9,[.loc 1,.loc 2],
(.seq (.region [s_ 1 (.mov (.cst (.sl .nil []))),s_ 2 (.mov (i_ 0))])
(.seq (.region [o_ (.mov (.loc 0)),o_ (.conv .strBytes (.reg 0)),o_ (.call true false 91 [(.reg 1)]),o_ (.mov (.reg 2)),o_ (.extract 0 (.reg 3)),o_ (.extract 1 (.reg 3)),o_ (.extract 2 (.reg 3)),s_ 3 (.mov (.reg 4)),s_ 4 (.mov (.reg 5)),o_ (.mov (.reg 6))])
(.seq (.seq (.region [o_ (.mov (.loc 4)),s_ 7 (.bin .neq (.reg 0) (i_ 0))])
(.cond (.loc 7)
(.seq (.region [o_ (.mov (.loc 4)),s_ 1 (.mov (.cst (.sl .nil []))),s_ 2 (.mov (.reg 0))])
.ret)
.skip))
(.seq (.region [s_ 5 (.mov (.cst (.sl .nil [])))])
(.seq (.seq (.region [s_ 6 (.mov (i_ 0))])
(.block 0
(.loop t51L0)))
(.seq (.region [o_ (.mov (.loc 5)),s_ 1 (.mov (.reg 0)),s_ 2 (.mov (i_ 0))])
.ret))))))⟩
theorem c51 : compFunc Tryz.prog opts a51 Tryz.f51 = some t51 := by kernel_rfl
def a53 : Ann := { slots := [0,2],lb := [],mu := [],trunc := [],draws := [] }
def t53 : TFunc := ⟨1,2,[.loc 1],
(.seq (.region [s_ 1 (.mov (.cst (.bool false)))])
(.seq (.region [o_ (.mov (.loc 0)),o_ (.bin .geq (.reg 0) (i_ 0)),o_ (.mov (.reg 1)),⟨.mov (.loc 0),none,(some (2,true))⟩,⟨.bin .leq (.reg 3) (i_ 1114111),none,(some (2,true))⟩,o_ (.pick (.reg 2) (.reg 4) (.cst (.bool false))),o_ (.mov (.reg 5)),⟨.mov (.loc 0),none,(some (6,true))⟩,⟨.bin .lss (.reg 7) (i_ 55296),none,(some (6,true))⟩,⟨.mov (.reg 8),none,(some (6,true))⟩,⟨.mov (.loc 0),none,(some (9,false))⟩,⟨.bin .gtr (.reg 10) (i_ 57343),none,(some (9,false))⟩,⟨.pick (.reg 9) (.cst (.bool true)) (.reg 11),none,(some (6,true))⟩,o_ (.pick (.reg 6) (.reg 12) (.cst (.bool false))),s_ 1 (.mov (.reg 13))])
.ret))⟩
theorem c53 : compFunc Tryz.prog opts a53 Tryz.f53 = some t53 := by kernel_rfl
def a54 : Ann := { slots := [0,1,2,6,7,8,9,14,15,16,17,18,30],lb := [9,8],mu := [],trunc := [],draws := [] }
def t54L0 : TCode := (.seq (.region [s_ 11 (.bin .lss (.loc 10) (.loc 9))])
(.seq (.cond (.loc 11)
.skip
(.exit 0))
(.seq (.block 1
(.seq (.region [o_ (.mov (.loc 10)),o_ (.indexAddrS 5 (.loc 8) (.loc 10)),o_ (.loadN 5 (.reg 1)),o_ (.allocL 5 [(.int .i64 0),(.int .i64 0),(.str []),(.sl .nil []),(.int .i64 0)]),s_ 4 (.mov (.reg 0)),o_ (.store 5 (.reg 3) (.reg 2))])
(.seq (.region [o_ (.mov (.loc 1)),o_ (.mov (.loc 4)),o_ (.indexAddrS 5 (.reg 0) (.reg 1)),o_ (.loadN 5 (.reg 2)),o_ (.allocL 6 [(.int .i64 0),(.int .i64 0),(.str []),(.sl .nil []),(.int .i64 0)]),o_ (.store 5 (.reg 4) (.reg 3))])
(.seq (.region [o_ (.mov (.loc 2)),o_ (.loadN 5 (.loc 5)),o_ (.loadN 5 (.loc 6)),o_ (.callv (.reg 0) [(.reg 1),(.reg 2)]),s_ 12 (.un .not (.reg 3))])
(.cond (.loc 12)
(.seq (.region [s_ 3 (.mov (.cst (.bool false)))])
.ret)
.skip)))))
(.region [o_ (.bin .add (.loc 10) (i_ 1)),s_ 10 (.mov (.reg 0))]))))
def t54 : TFunc := ⟨3,13,[.loc 3],
(.seq (.region [s_ 3 (.mov (.cst (.bool false)))])
(.seq (.seq (.region [o_ (.mov (.loc 0)),o_ (.len .sl (.reg 0)),o_ (.mov (.loc 1)),o_ (.len .sl (.reg 2)),s_ 7 (.bin .neq (.reg 1) (.reg 3))])
(.cond (.loc 7)
(.seq (.region [s_ 3 (.mov (.cst (.bool false)))])
.ret)
.skip))
(.seq (.seq (.region [s_ 8 (.mov (.loc 0)),s_ 9 (.len .sl (.reg 0)),s_ 10 (.mov (i_ 0))])
(.block 0
(.loop t54L0)))
(.seq (.region [s_ 3 (.mov (.cst (.bool true)))])
.ret))))⟩
theorem c54 : compFunc Tryz.prog opts a54 Tryz.f54 = some t54 := by kernel_rfl
def a55 : Ann := { slots := [0,1,2,3,4,10,20],lb := [3,2],mu := [],trunc := [],draws := [(2,⟨[0,1,3,7,0,16,48,112,255,511],[0,1,2,3,4,5,6,7],[(8,[],[9])]⟩),(4,⟨[0,1,3,7,0,16,48,112,15,511],[0,1,2,3,4,5,6,7],[(8,[5,7],[]),(9,[],[])]⟩)] }
def t55L0 : TCode := (.seq (.seq (.region [o_ (.loadN 5 (.loc 2)),o_ (.call false false 82 [(.reg 0)]),o_ (.mov (.reg 1)),⟨.loadN 5 (.loc 3),none,(some (2,true))⟩,⟨.call false false 82 [(.reg 3)],none,(some (2,true))⟩,s_ 5 (.pick (.reg 2) (.reg 4) (.cst (.bool false)))])
(.cond (.loc 5)
.skip
(.exit 0)))
(.block 1
(.seq (.seq (.draw [0,1,2,3,4,5,6,7] [(8,[],[9])] [o_ (.fieldAddr 3 (.loc 2)),o_ (.load1 (.reg 0)),o_ (.indexAddrS 5 (.reg 1) (i_ 0)),o_ (.loadN 5 (.reg 2)),o_ (.fieldAddr 3 (.loc 3)),o_ (.load1 (.reg 4)),o_ (.indexAddrS 5 (.reg 5) (i_ 0)),o_ (.loadN 5 (.reg 6)),o_ (.call false false 55 [(.reg 3),(.reg 7)]),s_ 6 (.un .not (.reg 8))])
(.cond (.loc 6)
(.seq (.region [s_ 4 (.mov (.cst (.bool false)))])
.ret)
.skip))
(.draw [0,1,2,3,4,5,6,7] [(8,[5,7],[]),(9,[],[])] [o_ (.fieldAddr 3 (.loc 2)),o_ (.load1 (.reg 0)),o_ (.indexAddrS 5 (.reg 1) (i_ 1)),o_ (.loadN 5 (.reg 2)),o_ (.fieldAddr 3 (.loc 3)),o_ (.load1 (.reg 4)),o_ (.indexAddrS 5 (.reg 5) (i_ 1)),o_ (.loadN 5 (.reg 6)),o_ (.store 5 (.loc 2) (.reg 3)),o_ (.store 5 (.loc 3) (.reg 7))]))))
def t55 : TFunc := ⟨2,7,[.loc 4],
(.seq (.region [o_ (.boxL 2 (.loc 0)),o_ (.boxL 3 (.loc 1)),s_ 4 (.mov (.cst (.bool false)))])
(.seq (.block 0
(.loop t55L0))
(.seq (.region [o_ (.fieldAddr 0 (.loc 2)),o_ (.load1 (.reg 0)),o_ (.fieldAddr 0 (.loc 3)),o_ (.load1 (.reg 2)),o_ (.bin .eql (.reg 1) (.reg 3)),o_ (.mov (.reg 4)),⟨.fieldAddr 1 (.loc 2),none,(some (5,true))⟩,⟨.load1 (.reg 6),none,(some (5,true))⟩,⟨.fieldAddr 1 (.loc 3),none,(some (5,true))⟩,⟨.load1 (.reg 8),none,(some (5,true))⟩,⟨.bin .eql (.reg 7) (.reg 9),none,(some (5,true))⟩,o_ (.pick (.reg 5) (.reg 10) (.cst (.bool false))),o_ (.mov (.reg 11)),⟨.fieldAddr 2 (.loc 2),none,(some (12,true))⟩,⟨.load1 (.reg 13),none,(some (12,true))⟩,⟨.fieldAddr 2 (.loc 3),none,(some (12,true))⟩,⟨.load1 (.reg 15),none,(some (12,true))⟩,⟨.bin .eql (.reg 14) (.reg 16),none,(some (12,true))⟩,o_ (.pick (.reg 12) (.reg 17) (.cst (.bool false))),o_ (.mov (.reg 18)),⟨.fieldAddr 3 (.loc 2),none,(some (19,true))⟩,⟨.load1 (.reg 20),none,(some (19,true))⟩,⟨.fieldAddr 3 (.loc 3),none,(some (19,true))⟩,⟨.load1 (.reg 22),none,(some (19,true))⟩,⟨.call false false 54 [(.reg 21),(.reg 23),(.fn 55)],none,(some (19,true))⟩,o_ (.pick (.reg 19) (.reg 24) (.cst (.bool false))),s_ 4 (.mov (.reg 25))])
.ret)))⟩
theorem c55 : compFunc Tryz.prog opts a55 Tryz.f55 = some t55 := by kernel_rfl
def a56 : Ann := { slots := [0,1,2,3,4],lb := [3,2],mu := [],trunc := [],draws := [] }
def t56 : TFunc := ⟨2,5,[.loc 4],
(.seq (.region [o_ (.boxL 2 (.loc 0)),o_ (.boxL 3 (.loc 1)),s_ 4 (.mov (.cst (.bool false)))])
(.seq (.region [o_ (.fieldAddr 0 (.loc 2)),o_ (.load1 (.reg 0)),o_ (.fieldAddr 0 (.loc 3)),o_ (.load1 (.reg 2)),o_ (.bin .eql (.reg 1) (.reg 3)),o_ (.mov (.reg 4)),⟨.fieldAddr 1 (.loc 2),none,(some (5,true))⟩,⟨.load1 (.reg 6),none,(some (5,true))⟩,⟨.fieldAddr 1 (.loc 3),none,(some (5,true))⟩,⟨.load1 (.reg 8),none,(some (5,true))⟩,⟨.bin .eql (.reg 7) (.reg 9),none,(some (5,true))⟩,o_ (.pick (.reg 5) (.reg 10) (.cst (.bool false))),o_ (.mov (.reg 11)),⟨.fieldAddr 3 (.loc 2),none,(some (12,true))⟩,⟨.load1 (.reg 13),none,(some (12,true))⟩,⟨.fieldAddr 3 (.loc 3),none,(some (12,true))⟩,⟨.load1 (.reg 15),none,(some (12,true))⟩,⟨.eqB false .bool (.reg 14) (.reg 16),none,(some (12,true))⟩,o_ (.pick (.reg 12) (.reg 17) (.cst (.bool false))),o_ (.mov (.reg 18)),⟨.fieldAddr 2 (.loc 2),none,(some (19,true))⟩,⟨.load1 (.reg 20),none,(some (19,true))⟩,⟨.fieldAddr 2 (.loc 3),none,(some (19,true))⟩,⟨.load1 (.reg 22),none,(some (19,true))⟩,⟨.call true false 92 [(.reg 21),(.reg 23)],none,(some (19,true))⟩,o_ (.pick (.reg 19) (.reg 24) (.cst (.bool false))),o_ (.mov (.reg 25)),⟨.fieldAddr 4 (.loc 2),none,(some (26,true))⟩,⟨.load1 (.reg 27),none,(some (26,true))⟩,⟨.fieldAddr 4 (.loc 3),none,(some (26,true))⟩,⟨.load1 (.reg 29),none,(some (26,true))⟩,⟨.call false false 93 [(.reg 28),(.reg 30),(.fn 56)],none,(some (26,true))⟩,o_ (.pick (.reg 26) (.reg 31) (.cst (.bool false))),s_ 4 (.mov (.reg 32))])
.ret))⟩
theorem c56 : compFunc Tryz.prog opts a56 Tryz.f56 = some t56 := by kernel_rfl
def a73 : Ann := { slots := [0,2],lb := [2],mu := [],trunc := [],draws := [] }
def t73 : TFunc := ⟨1,2,[.cell 1 5 true],
(.seq (.region [o_ (.allocL 1 [(.int .i64 0),(.int .i64 0),(.sl .nil []),(.bool false),(.sl .nil [])])])
(.seq (.region [o_ (.mov (.loc 0)),o_ (.build [(.int .i64 0),(.int .i64 0),(.sl .nil []),(.bool false),(.sl .nil [])] [(0,1,(i_ 8)),(4,1,(.reg 0))]),o_ (.store 5 (.loc 1) (.reg 1))])
.ret))⟩
theorem c73 : compFunc Tryz.prog opts a73 Tryz.f73 = some t73 := by kernel_rfl
def a74 : Ann := { slots := [0,1,2,3,5,6,9,12,15,18,21,24,27,30,44,47,56,67,70,73],lb := [2,1],mu := [],trunc := [],draws := [(19,⟨[0,1,3,7,0,16,55,127,0,256,887,1911,2047,8191],[0,1,4,5,8,9],[(2,[5,9],[3]),(6,[9],[7]),(10,[],[11]),(12,[],[13])]⟩),(25,⟨[0,1,3,7,0,0,32,112,255,511,1023],[0,1,2,3,4,5,6,7,8],[(9,[],[10])]⟩)] }
def t74 : TFunc := ⟨1,20,[.cell 2 4 true,.loc 3],
(.seq (.region [o_ (.boxL 1 (.loc 0)),o_ (.allocL 2 [(.bool false),(.int .i64 0),(.bool false),(.str [])]),s_ 3 (.mov (.cst (.bool false)))])
(.seq (.seq (.region [o_ (.fieldAddr 0 (.loc 1)),s_ 4 (.load1 (.reg 0))])
(.block 0
(.seq (.region [o_ (.bin .eql (.loc 4) (i_ 1)),s_ 5 (.mov (.reg 0))])
(.cond (.loc 5)
(.seq (.region [o_ (.build [(.bool false),(.int .i64 0),(.bool false),(.str [])] [(0,1,(.cst (.bool true))),(1,1,(i_ 0)),(2,1,(.cst (.bool false))),(3,1,(.cst (.str [99])))]),o_ (.store 4 (.loc 2) (.reg 0)),s_ 3 (.mov (.cst (.bool true)))])
.ret)
(.seq (.region [o_ (.bin .eql (.loc 4) (i_ 2)),s_ 6 (.mov (.reg 0))])
(.cond (.loc 6)
(.seq (.region [o_ (.build [(.bool false),(.int .i64 0),(.bool false),(.str [])] [(0,1,(.cst (.bool true))),(1,1,(i_ 0)),(2,1,(.cst (.bool false))),(3,1,(.cst (.str [118])))]),o_ (.store 4 (.loc 2) (.reg 0)),s_ 3 (.mov (.cst (.bool true)))])
.ret)
(.seq (.region [o_ (.bin .eql (.loc 4) (i_ 3)),s_ 7 (.mov (.reg 0))])
(.cond (.loc 7)
(.seq (.region [o_ (.build [(.bool false),(.int .i64 0),(.bool false),(.str [])] [(0,1,(.cst (.bool true))),(1,1,(i_ 0)),(2,1,(.cst (.bool false))),(3,1,(.cst (.str [103])))]),o_ (.store 4 (.loc 2) (.reg 0)),s_ 3 (.mov (.cst (.bool true)))])
.ret)
(.seq (.region [o_ (.bin .eql (.loc 4) (i_ 4)),s_ 8 (.mov (.reg 0))])
(.cond (.loc 8)
(.seq (.region [o_ (.build [(.bool false),(.int .i64 0),(.bool false),(.str [])] [(0,1,(.cst (.bool true))),(1,1,(i_ 1)),(2,1,(.cst (.bool false))),(3,1,(.cst (.str [115,101,116,33,32,118])))]),o_ (.store 4 (.loc 2) (.reg 0)),s_ 3 (.mov (.cst (.bool true)))])
.ret)
(.seq (.region [o_ (.bin .eql (.loc 4) (i_ 5)),s_ 9 (.mov (.reg 0))])
(.cond (.loc 9)
(.seq (.region [o_ (.build [(.bool false),(.int .i64 0),(.bool false),(.str [])] [(0,1,(.cst (.bool true))),(1,1,(i_ 1)),(2,1,(.cst (.bool false))),(3,1,(.cst (.str [115,101,116,33,32,103])))]),o_ (.store 4 (.loc 2) (.reg 0)),s_ 3 (.mov (.cst (.bool true)))])
.ret)
(.seq (.region [o_ (.bin .eql (.loc 4) (i_ 6)),s_ 10 (.mov (.reg 0))])
(.cond (.loc 10)
(.seq (.region [o_ (.build [(.bool false),(.int .i64 0),(.bool false),(.str [])] [(0,1,(.cst (.bool false))),(1,1,(i_ 3)),(2,1,(.cst (.bool false))),(3,1,(.cst (.str [105,102])))]),o_ (.store 4 (.loc 2) (.reg 0)),s_ 3 (.mov (.cst (.bool true)))])
.ret)
(.seq (.region [o_ (.bin .eql (.loc 4) (i_ 7)),s_ 11 (.mov (.reg 0))])
(.cond (.loc 11)
(.seq (.region [o_ (.build [(.bool false),(.int .i64 0),(.bool false),(.str [])] [(0,1,(.cst (.bool false))),(1,1,(i_ 1)),(2,1,(.cst (.bool false))),(3,1,(.cst (.str [108,97,109,98,100,97])))]),o_ (.store 4 (.loc 2) (.reg 0)),s_ 3 (.mov (.cst (.bool true)))])
.ret)
(.seq (.region [o_ (.bin .eql (.loc 4) (i_ 8)),s_ 12 (.mov (.reg 0))])
(.cond (.loc 12)
(.seq (.region [o_ (.build [(.bool false),(.int .i64 0),(.bool false),(.str [])] [(0,1,(.cst (.bool false))),(1,1,(i_ 1)),(2,1,(.cst (.bool true))),(3,1,(.cst (.str [99,97,108,108])))]),o_ (.store 4 (.loc 2) (.reg 0)),s_ 3 (.mov (.cst (.bool true)))])
.ret)
(.seq (.region [o_ (.bin .eql (.loc 4) (i_ 9)),s_ 13 (.mov (.reg 0))])
(.cond (.loc 13)
(.seq (.draw [0,1,4,5,8,9] [(2,[5,9],[3]),(6,[9],[7]),(10,[],[11]),(12,[],[13])] [o_ (.fieldAddr 1 (.loc 1)),o_ (.load1 (.reg 0)),o_ (.call true false 108 [(.reg 1)]),o_ (.minmax true [(i_ 0),(.reg 2)]),o_ (.fieldAddr 1 (.loc 1)),o_ (.load1 (.reg 4)),o_ (.call true false 109 [(.reg 5)]),o_ (.build [(.bool false),(.int .i64 0),(.bool false),(.str [])] [(0,1,(.cst (.bool true))),(1,1,(.reg 3)),(2,1,(.cst (.bool false))),(3,1,(.reg 6))]),o_ (.fieldAddr 1 (.loc 1)),o_ (.load1 (.reg 8)),o_ (.call true false 108 [(.reg 9)]),o_ (.bin .geq (.reg 10) (i_ 0)),o_ (.store 4 (.loc 2) (.reg 7)),s_ 3 (.mov (.reg 11))])
.ret)
(.seq (.region [o_ (.bin .eql (.loc 4) (i_ 10)),s_ 14 (.mov (.reg 0))])
(.cond (.loc 14)
(.seq (.region [o_ (.build [(.bool false),(.int .i64 0),(.bool false),(.str [])] [(0,1,(.cst (.bool false))),(1,1,(i_ 1)),(2,1,(.cst (.bool true))),(3,1,(.cst (.str [98,101,103,105,110])))]),o_ (.store 4 (.loc 2) (.reg 0)),s_ 3 (.mov (.cst (.bool true)))])
.ret)
(.seq (.region [o_ (.bin .eql (.loc 4) (i_ 11)),s_ 15 (.mov (.reg 0))])
(.cond (.loc 15)
(.seq (.seq (.region [o_ (.fieldAddr 1 (.loc 1)),o_ (.load1 (.reg 0)),o_ (.bin .lss (.reg 1) (i_ 0)),o_ (.mov (.reg 2)),⟨.fieldAddr 1 (.loc 1),none,(some (3,false))⟩,⟨.load1 (.reg 4),none,(some (3,false))⟩,⟨.bin .gtr (.reg 5) (i_ 2),none,(some (3,false))⟩,s_ 16 (.pick (.reg 3) (.cst (.bool true)) (.reg 6))])
(.cond (.loc 16)
(.seq (.region [o_ (.build [(.bool false),(.int .i64 0),(.bool false),(.str [])] []),o_ (.store 4 (.loc 2) (.reg 0)),s_ 3 (.mov (.cst (.bool false)))])
.ret)
.skip))
(.seq (.draw [0,1,2,3,4,5,6,7,8] [(9,[],[10])] [o_ (.fieldAddr 1 (.loc 1)),o_ (.load1 (.reg 0)),o_ (.bin .add (.reg 1) (i_ 1)),o_ (.minmax false [(.reg 2),(i_ 2)]),o_ (.build [(.str []),(.str []),(.str [])] [(0,1,(.cst (.str [99,97,108,108,47,99,99]))),(1,1,(.cst (.str [97,112,112,108,121]))),(2,1,(.cst (.str [99,97,108,108,45,119,105,116,104,45,118,97,108,117,101,115])))]),o_ (.fieldAddr 1 (.loc 1)),o_ (.load1 (.reg 5)),o_ (.indexA 3 1 false (.reg 4) (.reg 6)),o_ (.build [(.bool false),(.int .i64 0),(.bool false),(.str [])] [(0,1,(.cst (.bool true))),(1,1,(.reg 3)),(2,1,(.cst (.bool false))),(3,1,(.reg 7))]),o_ (.store 4 (.loc 2) (.reg 8)),s_ 3 (.mov (.cst (.bool true)))])
.ret))
(.seq (.region [o_ (.bin .eql (.loc 4) (i_ 12)),s_ 17 (.mov (.reg 0))])
(.cond (.loc 17)
(.seq (.region [o_ (.build [(.bool false),(.int .i64 0),(.bool false),(.str [])] [(0,1,(.cst (.bool false))),(1,1,(i_ 1)),(2,1,(.cst (.bool false))),(3,1,(.cst (.str [98,111,120])))]),o_ (.store 4 (.loc 2) (.reg 0)),s_ 3 (.mov (.cst (.bool true)))])
.ret)
(.seq (.region [o_ (.bin .eql (.loc 4) (i_ 13)),s_ 18 (.mov (.reg 0))])
(.cond (.loc 18)
(.seq (.region [o_ (.build [(.bool false),(.int .i64 0),(.bool false),(.str [])] [(0,1,(.cst (.bool false))),(1,1,(i_ 1)),(2,1,(.cst (.bool false))),(3,1,(.cst (.str [117,110,98,111,120])))]),o_ (.store 4 (.loc 2) (.reg 0)),s_ 3 (.mov (.cst (.bool true)))])
.ret)
(.seq (.region [o_ (.bin .eql (.loc 4) (i_ 14)),s_ 19 (.mov (.reg 0))])
(.cond (.loc 19)
(.seq (.region [o_ (.build [(.bool false),(.int .i64 0),(.bool false),(.str [])] [(0,1,(.cst (.bool false))),(1,1,(i_ 2)),(2,1,(.cst (.bool false))),(3,1,(.cst (.str [115,101,116,45,98,111,120,33])))]),o_ (.store 4 (.loc 2) (.reg 0)),s_ 3 (.mov (.cst (.bool true)))])
.ret)
.skip))))))))))))))))))))))))))))))
(.seq (.region [o_ (.build [(.bool false),(.int .i64 0),(.bool false),(.str [])] []),o_ (.store 4 (.loc 2) (.reg 0)),s_ 3 (.mov (.cst (.bool false)))])
.ret)))⟩
theorem c74 : compFunc Tryz.prog opts a74 Tryz.f74 = some t74 := by kernel_rfl
def a75 : Ann := { slots := [0,2],lb := [],mu := [],trunc := [],draws := [] }
def t75 : TFunc := ⟨1,2,[.loc 1],
(.seq (.region [s_ 1 (.mov (.cst (.str [])))])
(.seq (.region [o_ (.mov (.loc 0)),o_ (.call true false 110 [(.reg 0)]),s_ 1 (.mov (.reg 1))])
.ret))⟩
theorem c75 : compFunc Tryz.prog opts a75 Tryz.f75 = some t75 := by kernel_rfl
def a76 : Ann := { slots := [0,1,2,3,5,6,8,9,10,11,22,32],lb := [1],mu := [(5,4)],trunc := [],draws := [(11,⟨[0,0,2,7,0,0,32,112,240,496,1023,2047],[0,1,2,3,4,5,6,7,8,9],[(10,[],[11])]⟩)] }
def t76L0 : TCode := (.seq (.region [s_ 9 (.bin .lss (.loc 8) (.loc 7))])
(.seq (.cond (.loc 9)
.skip
(.exit 0))
(.seq (.block 1
(.seq (.region [o_ (.indexAddrS 1 (.loc 6) (.loc 8)),o_ (.load1 (.reg 0)),s_ 4 (.mov (.reg 1))])
(.region [o_ (.mov (.loc 3)),o_ (.mov (.loc 4)),o_ (.call true false 111 [(.reg 1)]),o_ (.lit false [(.str [])] 1 [(0,(.reg 2))]),o_ (.append true 1 16 9 (.reg 0) (.reg 3)),s_ 3 (.mov (.reg 4))])))
(.region [o_ (.bin .add (.loc 8) (i_ 1)),s_ 8 (.mov (.reg 0))]))))
def t76 : TFunc := ⟨1,12,[.loc 2],
(.seq (.region [o_ (.boxL 1 (.loc 0)),s_ 2 (.mov (.cst (.str [])))])
(.seq (.region [s_ 3 (.mov (.cst (.sl .nil [])))])
(.seq (.seq (.region [o_ (.fieldAddr 2 (.loc 1)),s_ 6 (.load1 (.reg 0)),s_ 7 (.len .sl (.reg 1)),s_ 8 (.mov (i_ 0))])
(.block 0
(.loop t76L0)))
(.seq (.seq (.region [o_ (.mov (.loc 3)),o_ (.len .sl (.reg 0)),s_ 5 (.mov (.reg 1))])
(.block 2
(.seq (.region [o_ (.fieldAddr 3 (.loc 1)),o_ (.load1 (.reg 0)),o_ (.mov (.reg 1)),⟨.mov (.loc 5),none,(some (2,true))⟩,⟨.bin .eql (.reg 3) (i_ 1),none,(some (2,true))⟩,o_ (.pick (.reg 2) (.reg 4) (.cst (.bool false))),s_ 10 (.mov (.reg 5))])
(.cond (.loc 10)
(.seq (.region [o_ (.mov (.loc 3)),o_ (.indexAddrS 1 (.reg 0) (i_ 0)),o_ (.load1 (.reg 1)),s_ 2 (.mov (.reg 2))])
.ret)
(.seq (.region [o_ (.fieldAddr 3 (.loc 1)),o_ (.load1 (.reg 0)),s_ 11 (.mov (.reg 1))])
(.cond (.loc 11)
(.draw [0,1,2,3,4,5,6,7,8,9] [(10,[],[11])] [o_ (.mov (.loc 3)),o_ (.mov (.loc 5)),o_ (.bin .sub (.reg 1) (i_ 1)),o_ (.slice (.sl 1) (.reg 0) none (some (.reg 2)) none),o_ (.mov (.loc 3)),o_ (.mov (.loc 5)),o_ (.bin .sub (.reg 5) (i_ 1)),o_ (.indexAddrS 1 (.reg 4) (.reg 6)),o_ (.load1 (.reg 7)),o_ (.lit false [(.str [])] 2 [(0,(.cst (.str [46]))),(1,(.reg 8))]),o_ (.append false 1 16 9 (.reg 3) (.reg 9)),s_ 3 (.mov (.reg 10))])
.skip))))))
(.seq (.region [o_ (.mov (.loc 3)),o_ (.call true false 77 [(.reg 0),(.cst (.str [32]))]),o_ (.bin .add (.cst (.str [40])) (.reg 1)),o_ (.bin .add (.reg 2) (.cst (.str [41]))),s_ 2 (.mov (.reg 3))])
.ret)))))⟩
theorem c76 : compFunc Tryz.prog opts a76 Tryz.f76 = some t76 := by kernel_rfl
def a77 : Ann := { slots := [0,1,4,5,7,8,10,12,13,15,22,29,39,40,41,42,49,63,64,65,66],lb := [],mu := [],trunc := [],draws := [] }
def t77L0 : TCode := (.seq (.region [s_ 20 (.bin .lss (.loc 19) (.loc 18))])
(.seq (.cond (.loc 20)
.skip
(.exit 3))
(.seq (.block 4
(.seq (.region [o_ (.indexAddrS 1 (.loc 17) (.loc 19)),o_ (.load1 (.reg 0)),s_ 6 (.mov (.reg 1))])
(.seq (.region [o_ (.mov (.loc 1)),o_ (.call false false 78 [(.loc 5),(.reg 0)])])
(.region [o_ (.mov (.loc 6)),o_ (.call false false 78 [(.loc 5),(.reg 0)])]))))
(.region [o_ (.bin .add (.loc 19) (i_ 1)),s_ 19 (.mov (.reg 0))]))))
def t77L1 : TCode := (.seq (.region [s_ 15 (.bin .lss (.loc 14) (.loc 13))])
(.seq (.cond (.loc 15)
.skip
(.exit 1))
(.seq (.block 2
(.seq (.region [o_ (.indexAddrS 1 (.loc 12) (.loc 14)),o_ (.load1 (.reg 0)),s_ 4 (.mov (.reg 1))])
(.seq (.seq (.region [o_ (.mov (.loc 4)),o_ (.len .str (.reg 0)),o_ (.mov (.loc 3)),o_ (.bin .sub (i_ 9223372036854775807) (.reg 2)),s_ 16 (.bin .gtr (.reg 1) (.reg 3))])
(.cond (.loc 16)
(.region [o_ (.bad),o_ (.bad)])
.skip))
(.region [o_ (.mov (.loc 3)),o_ (.mov (.loc 4)),o_ (.len .str (.reg 1)),o_ (.bin .add (.reg 0) (.reg 2)),s_ 3 (.mov (.reg 3))]))))
(.region [o_ (.bin .add (.loc 14) (i_ 1)),s_ 14 (.mov (.reg 0))]))))
def t77 : TFunc := ⟨2,21,[.loc 2],
(.seq (.region [s_ 2 (.mov (.cst (.str [])))])
(.seq (.seq (.region [o_ (.mov (.loc 0)),s_ 7 (.len .sl (.reg 0))])
(.block 0
(.seq (.region [o_ (.bin .eql (.loc 7) (i_ 0)),s_ 8 (.mov (.reg 0))])
(.cond (.loc 8)
(.seq (.region [s_ 2 (.mov (.cst (.str [])))])
.ret)
(.seq (.region [o_ (.bin .eql (.loc 7) (i_ 1)),s_ 9 (.mov (.reg 0))])
(.cond (.loc 9)
(.seq (.region [o_ (.mov (.loc 0)),o_ (.indexAddrS 1 (.reg 0) (i_ 0)),o_ (.load1 (.reg 1)),s_ 2 (.mov (.reg 2))])
.ret)
.skip))))))
(.seq (.region [s_ 3 (.mov (i_ 0))])
(.seq (.seq (.region [o_ (.mov (.loc 1)),o_ (.len .str (.reg 0)),s_ 10 (.bin .gtr (.reg 1) (i_ 0))])
(.cond (.loc 10)
(.seq (.seq (.region [o_ (.mov (.loc 1)),o_ (.len .str (.reg 0)),o_ (.mov (.loc 0)),o_ (.len .sl (.reg 2)),o_ (.bin .sub (.reg 3) (i_ 1)),o_ (.bin .quo (i_ 9223372036854775807) (.reg 4)),s_ 11 (.bin .geq (.reg 1) (.reg 5))])
(.cond (.loc 11)
(.region [o_ (.bad),o_ (.bad)])
.skip))
(.region [o_ (.mov (.loc 3)),o_ (.mov (.loc 1)),o_ (.len .str (.reg 1)),o_ (.mov (.loc 0)),o_ (.len .sl (.reg 3)),o_ (.bin .sub (.reg 4) (i_ 1)),o_ (.bin .mul (.reg 2) (.reg 5)),o_ (.bin .add (.reg 0) (.reg 6)),s_ 3 (.mov (.reg 7))]))
.skip))
(.seq (.seq (.region [s_ 12 (.mov (.loc 0)),s_ 13 (.len .sl (.reg 0)),s_ 14 (.mov (i_ 0))])
(.block 1
(.loop t77L1)))
(.seq (.region [s_ 5 (.allocH 98 [.nilp,(.sl .nil [])])])
(.seq (.region [o_ (.mov (.loc 3)),o_ (.call false false 112 [(.loc 5),(.reg 0)])])
(.seq (.region [o_ (.mov (.loc 0)),o_ (.indexAddrS 1 (.reg 0) (i_ 0)),o_ (.load1 (.reg 1)),o_ (.call false false 78 [(.loc 5),(.reg 2)])])
(.seq (.seq (.region [o_ (.mov (.loc 0)),s_ 17 (.slice (.sl 1) (.reg 0) (some (i_ 1)) none none),s_ 18 (.len .sl (.reg 1)),s_ 19 (.mov (i_ 0))])
(.block 3
(.loop t77L0)))
(.seq (.region [o_ (.prim 80 [(.loc 5)]),s_ 2 (.mov (.reg 0))])
.ret))))))))))⟩
theorem c77 : compFunc Tryz.prog opts a77 Tryz.f77 = some t77 := by kernel_rfl
def a78 : Ann := { slots := [0,1,4,5],lb := [],mu := [],trunc := [],draws := [] }
def t78 : TFunc := ⟨2,4,[.loc 2,.loc 3],
(.seq (.region [s_ 2 (.mov (i_ 0)),s_ 3 (.mov (.cst .nili))])
(.seq (.region [o_ (.mov (.loc 0)),o_ (.prim 113 [(.reg 0)])])
(.seq (.region [o_ (.mov (.loc 0)),o_ (.mov (.loc 0)),o_ (.nilCheck (.reg 1)),o_ (.fieldAddr 1 (.reg 2)),o_ (.load1 (.reg 3)),o_ (.mov (.loc 1)),o_ (.append false 1 1 5 (.reg 4) (.reg 5)),o_ (.nilCheck (.reg 0)),o_ (.fieldAddr 1 (.reg 7)),o_ (.store 1 (.reg 8) (.reg 6))])
(.seq (.region [o_ (.mov (.loc 1)),o_ (.len .str (.reg 0)),s_ 2 (.mov (.reg 1)),s_ 3 (.mov (.cst .nili))])
.ret))))⟩
theorem c78 : compFunc Tryz.prog opts a78 Tryz.f78 = some t78 := by kernel_rfl
def a79 : Ann := { slots := [0,1,2,4,5,8],lb := [2],mu := [],trunc := [],draws := [] }
def t79 : TFunc := ⟨2,6,[.loc 3],
(.seq (.region [o_ (.boxL 2 (.loc 0)),s_ 3 (.mov (.cst (.str [])))])
(.seq (.seq (.region [o_ (.loadN 5 (.loc 2)),o_ (.call true false 42 [(.reg 0)]),s_ 5 (.un .not (.reg 1))])
(.cond (.loc 5)
(.seq (.region [s_ 3 (.mov (.cst (.str [])))])
.ret)
.skip))
(.seq (.region [o_ (.mov (.loc 1)),o_ (.build [.nilp,(.sl .nil []),(.bool false)] [(2,1,(.reg 0))]),o_ (.boxH 129 (.reg 1)),s_ 4 (.mov (.reg 2))])
(.seq (.region [o_ (.mov (.loc 4)),o_ (.loadN 5 (.loc 2)),o_ (.call false false 114 [(.reg 0),(.reg 1)])])
(.seq (.region [o_ (.mov (.loc 4)),o_ (.nilCheck (.reg 0)),o_ (.fieldAddr 0 (.reg 1)),o_ (.prim 80 [(.reg 2)]),s_ 3 (.mov (.reg 3))])
.ret)))))⟩
theorem c79 : compFunc Tryz.prog opts a79 Tryz.f79 = some t79 := by kernel_rfl
def a81 : Ann := { slots := [0,1,2],lb := [2],mu := [],trunc := [],draws := [] }
def t81 : TFunc := ⟨2,3,[],
(.seq (.region [o_ (.boxL 2 (.loc 0))])
(.region [o_ (.load1 (.loc 1)),o_ (.bin .add (.reg 0) (i_ 1)),o_ (.store 1 (.loc 1) (.reg 1))]))⟩
theorem c81 : compFunc Tryz.prog opts a81 Tryz.f81 = some t81 := by kernel_rfl
def a82 : Ann := { slots := [0,1,2],lb := [1],mu := [],trunc := [],draws := [] }
def t82 : TFunc := ⟨1,3,[.loc 2],
(.seq (.region [o_ (.boxL 1 (.loc 0)),s_ 2 (.mov (.cst (.bool false)))])
(.seq (.region [o_ (.fieldAddr 0 (.loc 1)),o_ (.load1 (.reg 0)),o_ (.bin .eql (.reg 1) (i_ 6)),o_ (.mov (.reg 2)),⟨.fieldAddr 3 (.loc 1),none,(some (3,true))⟩,⟨.load1 (.reg 4),none,(some (3,true))⟩,⟨.len .sl (.reg 5),none,(some (3,true))⟩,⟨.bin .eql (.reg 6) (i_ 2),none,(some (3,true))⟩,o_ (.pick (.reg 3) (.reg 7) (.cst (.bool false))),s_ 2 (.mov (.reg 8))])
.ret))⟩
theorem c82 : compFunc Tryz.prog opts a82 Tryz.f82 = some t82 := by kernel_rfl
def a83 : Ann := { slots := [0,1,4],lb := [],mu := [],trunc := [],draws := [] }
def t83 : TFunc := ⟨2,3,[.loc 2],
(.seq (.region [s_ 2 (.mov (.cst (.bool false)))])
(.seq (.region [o_ (.mov (.loc 0)),o_ (.mov (.loc 1)),o_ (.call false false 115 [(.reg 0),(.reg 1)]),o_ (.bin .geq (.reg 2) (i_ 0)),s_ 2 (.mov (.reg 3))])
.ret))⟩
theorem c83 : compFunc Tryz.prog opts a83 Tryz.f83 = some t83 := by kernel_rfl
def a84 : Ann := { slots := [0,1,2],lb := [1],mu := [],trunc := [],draws := [] }
def t84 : TFunc := ⟨1,3,[.loc 2],
(.seq (.region [o_ (.boxL 1 (.loc 0)),s_ 2 (.mov (.cst (.bool false)))])
(.seq (.region [o_ (.loadN 5 (.loc 1)),o_ (.call true false 42 [(.reg 0)]),o_ (.un .not (.reg 1)),s_ 2 (.mov (.reg 2))])
.ret))⟩
theorem c84 : compFunc Tryz.prog opts a84 Tryz.f84 = some t84 := by kernel_rfl
def a85 : Ann := { slots := [0,1,2,4,6,7,12,22,27,32],lb := [1],mu := [],trunc := [],draws := [] }
def t85 : TFunc := ⟨1,10,[.loc 2],
(.seq (.region [o_ (.boxL 1 (.loc 0)),s_ 2 (.mov (.cst (.bool false)))])
(.seq (.seq (.region [o_ (.fieldAddr 0 (.loc 1)),s_ 4 (.load1 (.reg 0))])
(.block 0
(.seq (.seq (.region [o_ (.bin .eql (.loc 4) (i_ 0)),s_ 5 (.mov (.reg 0))])
(.cond (.loc 5)
.skip
(.seq (.region [o_ (.bin .eql (.loc 4) (i_ 8)),s_ 5 (.mov (.reg 0))])
(.cond (.loc 5)
.skip
(.seq (.region [o_ (.bin .eql (.loc 4) (i_ 9)),s_ 5 (.mov (.reg 0))])
(.cond (.loc 5)
.skip
(.region [o_ (.bin .eql (.loc 4) (i_ 10)),s_ 5 (.mov (.reg 0))])))))))
(.cond (.loc 5)
(.seq (.region [s_ 2 (.mov (.cst (.bool true)))])
.ret)
(.seq (.region [o_ (.bin .eql (.loc 4) (i_ 1)),s_ 6 (.mov (.reg 0))])
(.cond (.loc 6)
(.seq (.region [o_ (.fieldAddr 1 (.loc 1)),o_ (.load1 (.reg 0)),o_ (.bin .eql (.reg 1) (i_ 0)),o_ (.mov (.reg 2)),⟨.fieldAddr 1 (.loc 1),none,(some (3,false))⟩,⟨.load1 (.reg 4),none,(some (3,false))⟩,⟨.bin .eql (.reg 5) (i_ 1),none,(some (3,false))⟩,o_ (.pick (.reg 3) (.cst (.bool true)) (.reg 6)),s_ 2 (.mov (.reg 7))])
.ret)
(.seq (.region [o_ (.bin .eql (.loc 4) (i_ 2)),s_ 7 (.mov (.reg 0))])
(.cond (.loc 7)
(.seq (.region [o_ (.fieldAddr 2 (.loc 1)),o_ (.load1 (.reg 0)),o_ (.call true false 116 [(.reg 1)]),s_ 2 (.mov (.reg 2))])
.ret)
(.seq (.region [o_ (.bin .eql (.loc 4) (i_ 3)),s_ 8 (.mov (.reg 0))])
(.cond (.loc 8)
(.seq (.region [o_ (.fieldAddr 1 (.loc 1)),o_ (.load1 (.reg 0)),o_ (.call true false 117 [(.reg 1)]),s_ 2 (.mov (.reg 2))])
.ret)
(.seq (.seq (.region [o_ (.bin .eql (.loc 4) (i_ 4)),s_ 9 (.mov (.reg 0))])
(.cond (.loc 9)
.skip
(.region [o_ (.bin .eql (.loc 4) (i_ 5)),s_ 9 (.mov (.reg 0))])))
(.cond (.loc 9)
(.seq (.region [o_ (.fieldAddr 2 (.loc 1)),o_ (.load1 (.reg 0)),o_ (.call true false 118 [(.reg 1)]),o_ (.mov (.reg 2)),o_ (.extract 0 (.reg 3)),o_ (.extract 1 (.reg 3)),o_ (.mov (.reg 4)),s_ 3 (.mov (.reg 5))])
(.seq (.region [o_ (.mov (.loc 3)),o_ (.bin .eql (.reg 0) (i_ 0)),o_ (.mov (.reg 1)),⟨.fieldAddr 0 (.loc 1),none,(some (2,true))⟩,⟨.load1 (.reg 3),none,(some (2,true))⟩,⟨.bin .eql (.reg 4) (i_ 4),none,(some (2,true))⟩,⟨.mov (.reg 5),none,(some (2,true))⟩,⟨.fieldAddr 2 (.loc 1),none,(some (6,false))⟩,⟨.load1 (.reg 7),none,(some (6,false))⟩,⟨.bin .neq (.reg 8) (.cst (.str [])),none,(some (6,false))⟩,⟨.pick (.reg 6) (.cst (.bool true)) (.reg 9),none,(some (2,true))⟩,o_ (.pick (.reg 2) (.reg 10) (.cst (.bool false))),s_ 2 (.mov (.reg 11))])
.ret))
.skip))))))))))))
(.seq (.region [s_ 2 (.mov (.cst (.bool false)))])
.ret)))⟩
theorem c85 : compFunc Tryz.prog opts a85 Tryz.f85 = some t85 := by kernel_rfl
def a86 : Ann := { slots := [0,1,2],lb := [1],mu := [],trunc := [],draws := [] }
def t86 : TFunc := ⟨1,3,[.loc 2],
(.seq (.region [o_ (.boxL 1 (.loc 0)),s_ 2 (.mov (.cst (.bool false)))])
(.seq (.region [o_ (.loadN 5 (.loc 1)),o_ (.call true false 43 [(.reg 0)]),o_ (.un .not (.reg 1)),s_ 2 (.mov (.reg 2))])
.ret))⟩
theorem c86 : compFunc Tryz.prog opts a86 Tryz.f86 = some t86 := by kernel_rfl
def a87 : Ann := { slots := [0,1,2,3,4,5,6,7,8,73,75,76,88,100],lb := [5,3],mu := [],trunc := [],draws := [(8,⟨[0,0,2,0,8,24,56,120,248,511,1023],[0,1,2,3,4,5,6,7,8],[(9,[],[10])]⟩),(11,⟨[0,0,2,0,8,24,56,120,255,511],[0,1,2,3,4,5,6,7],[(8,[],[9])]⟩),(14,⟨[0,0,2,0,8,24,56,120,255,511],[0,1,2,3,4,5,6,7],[(8,[],[9])]⟩)] }
def t87 : TFunc := ⟨2,14,[.loc 4],
(.seq (.region [s_ 2 (.boxH 55 (.loc 0)),o_ (.boxL 3 (.loc 1)),s_ 4 (.mov (.cst (.bool false)))])
(.seq (.region [o_ (.loadN 5 (.loc 3)),o_ (.call true false 74 [(.reg 0)]),o_ (.mov (.reg 1)),o_ (.extract 0 (.reg 2)),o_ (.extract 1 (.reg 2)),o_ (.allocL 5 [(.bool false),(.int .i64 0),(.bool false),(.str [])]),o_ (.store 4 (.reg 5) (.reg 3)),s_ 6 (.mov (.reg 4))])
(.seq (.region [o_ (.fieldAddr 0 (.loc 3)),o_ (.load1 (.reg 0)),o_ (.bin .eql (.reg 1) (i_ 7)),s_ 7 (.mov (.reg 2))])
(.seq (.seq (.region [o_ (.mov (.loc 6)),o_ (.un .not (.reg 0)),o_ (.mov (.reg 1)),⟨.fieldAddr 4 (.loc 3),none,(some (2,false))⟩,⟨.load1 (.reg 3),none,(some (2,false))⟩,⟨.len .sl (.reg 4),none,(some (2,false))⟩,⟨.fieldAddr 1 (.loc 5),none,(some (2,false))⟩,⟨.load1 (.reg 6),none,(some (2,false))⟩,⟨.bin .lss (.reg 5) (.reg 7),none,(some (2,false))⟩,o_ (.pick (.reg 2) (.cst (.bool true)) (.reg 8)),o_ (.mov (.reg 9)),⟨.fieldAddr 4 (.loc 3),none,(some (10,false))⟩,⟨.load1 (.reg 11),none,(some (10,false))⟩,⟨.len .sl (.reg 12),none,(some (10,false))⟩,⟨.fieldAddr 1 (.loc 5),none,(some (10,false))⟩,⟨.load1 (.reg 14),none,(some (10,false))⟩,⟨.bin .gtr (.reg 13) (.reg 15),none,(some (10,false))⟩,⟨.mov (.reg 16),none,(some (10,false))⟩,⟨.fieldAddr 2 (.loc 5),none,(some (17,true))⟩,⟨.load1 (.reg 18),none,(some (17,true))⟩,⟨.un .not (.reg 19),none,(some (17,true))⟩,⟨.pick (.reg 17) (.reg 20) (.cst (.bool false)),none,(some (10,false))⟩,o_ (.pick (.reg 10) (.cst (.bool true)) (.reg 21)),o_ (.mov (.reg 22)),⟨.fieldAddr 0 (.loc 5),none,(some (23,false))⟩,⟨.load1 (.reg 24),none,(some (23,false))⟩,⟨.un .not (.reg 25),none,(some (23,false))⟩,⟨.mov (.reg 26),none,(some (23,false))⟩,⟨.fieldAddr 1 (.loc 3),none,(some (27,true))⟩,⟨.load1 (.reg 28),none,(some (27,true))⟩,⟨.bin .neq (.reg 29) (i_ 0),none,(some (27,true))⟩,⟨.pick (.reg 27) (.reg 30) (.cst (.bool false)),none,(some (23,false))⟩,o_ (.pick (.reg 23) (.cst (.bool true)) (.reg 31)),o_ (.mov (.reg 32)),⟨.mov (.loc 7),none,(some (33,false))⟩,⟨.un .not (.reg 34),none,(some (33,false))⟩,⟨.mov (.reg 35),none,(some (33,false))⟩,⟨.fieldAddr 2 (.loc 3),none,(some (36,true))⟩,⟨.load1 (.reg 37),none,(some (36,true))⟩,⟨.len .sl (.reg 38),none,(some (36,true))⟩,⟨.bin .gtr (.reg 39) (i_ 0),none,(some (36,true))⟩,⟨.mov (.reg 40),none,(some (36,true))⟩,⟨.fieldAddr 3 (.loc 3),none,(some (41,false))⟩,⟨.load1 (.reg 42),none,(some (41,false))⟩,⟨.pick (.reg 41) (.cst (.bool true)) (.reg 43),none,(some (36,true))⟩,⟨.pick (.reg 36) (.reg 44) (.cst (.bool false)),none,(some (33,false))⟩,o_ (.pick (.reg 33) (.cst (.bool true)) (.reg 45)),o_ (.mov (.reg 46)),⟨.fieldAddr 3 (.loc 3),none,(some (47,false))⟩,⟨.load1 (.reg 48),none,(some (47,false))⟩,⟨.mov (.reg 49),none,(some (47,false))⟩,⟨.fieldAddr 2 (.loc 3),none,(some (50,true))⟩,⟨.load1 (.reg 51),none,(some (50,true))⟩,⟨.len .sl (.reg 52),none,(some (50,true))⟩,⟨.bin .eql (.reg 53) (i_ 0),none,(some (50,true))⟩,⟨.pick (.reg 50) (.reg 54) (.cst (.bool false)),none,(some (47,false))⟩,s_ 9 (.pick (.reg 47) (.cst (.bool true)) (.reg 55))])
(.cond (.loc 9)
(.seq (.region [s_ 4 (.mov (.cst (.bool false)))])
.ret)
.skip))
(.seq (.region [s_ 8 (.allocH 135 [.nilf]),o_ (.store 1 (.reg 0) (.fn 119))])
(.seq (.seq (.region [o_ (.fieldAddr 0 (.loc 3)),s_ 10 (.load1 (.reg 0))])
(.block 0
(.seq (.region [o_ (.bin .eql (.loc 10) (i_ 1)),s_ 11 (.mov (.reg 0))])
(.cond (.loc 11)
(.seq (.draw [0,1,2,3,4,5,6,7,8] [(9,[],[10])] [o_ (.load1 (.loc 8)),o_ (.fieldAddr 1 (.loc 3)),o_ (.load1 (.reg 1)),o_ (.load1 (.loc 2)),o_ (.nilCheck (.reg 3)),o_ (.fieldAddr 0 (.reg 4)),o_ (.fieldAddr 7 (.reg 5)),o_ (.load1 (.reg 6)),o_ (.len .sl (.reg 7)),o_ (.callv (.reg 0) [(.reg 2),(.reg 8)]),s_ 4 (.mov (.reg 9))])
.ret)
(.seq (.seq (.region [o_ (.bin .eql (.loc 10) (i_ 2)),s_ 12 (.mov (.reg 0))])
(.cond (.loc 12)
.skip
(.region [o_ (.bin .eql (.loc 10) (i_ 4)),s_ 12 (.mov (.reg 0))])))
(.cond (.loc 12)
(.seq (.draw [0,1,2,3,4,5,6,7] [(8,[],[9])] [o_ (.load1 (.loc 8)),o_ (.fieldAddr 1 (.loc 3)),o_ (.load1 (.reg 1)),o_ (.load1 (.loc 2)),o_ (.nilCheck (.reg 3)),o_ (.fieldAddr 0 (.reg 4)),o_ (.fieldAddr 6 (.reg 5)),o_ (.load1 (.reg 6)),o_ (.callv (.reg 0) [(.reg 2),(.reg 7)]),s_ 4 (.mov (.reg 8))])
.ret)
(.seq (.seq (.region [o_ (.bin .eql (.loc 10) (i_ 3)),s_ 13 (.mov (.reg 0))])
(.cond (.loc 13)
.skip
(.region [o_ (.bin .eql (.loc 10) (i_ 5)),s_ 13 (.mov (.reg 0))])))
(.cond (.loc 13)
(.seq (.draw [0,1,2,3,4,5,6,7] [(8,[],[9])] [o_ (.load1 (.loc 8)),o_ (.fieldAddr 1 (.loc 3)),o_ (.load1 (.reg 1)),o_ (.load1 (.loc 2)),o_ (.nilCheck (.reg 3)),o_ (.fieldAddr 0 (.reg 4)),o_ (.fieldAddr 5 (.reg 5)),o_ (.load1 (.reg 6)),o_ (.callv (.reg 0) [(.reg 2),(.reg 7)]),s_ 4 (.mov (.reg 8))])
.ret)
.skip))))))))
(.seq (.region [o_ (.fieldAddr 2 (.loc 3)),o_ (.load1 (.reg 0)),o_ (.mkFn 121 [] [(.loc 8),(.loc 2)]),o_ (.call false false 120 [(.reg 1),(.reg 2)]),o_ (.un .not (.reg 3)),s_ 4 (.mov (.reg 4))])
.ret)))))))⟩
theorem c87 : compFunc Tryz.prog opts a87 Tryz.f87 = some t87 := by kernel_rfl
def a90 : Ann := { slots := [0,1,2,5,7,8,9,10,15],lb := [],mu := [],trunc := [],draws := [] }
def t90L0 : TCode := (.seq (.region [s_ 7 (.bin .lss (.loc 6) (.loc 5))])
(.seq (.cond (.loc 7)
.skip
(.exit 0))
(.seq (.block 1
(.seq (.region [o_ (.indexAddrS 1 (.loc 4) (.loc 6)),o_ (.load1 (.reg 0)),s_ 3 (.mov (.reg 1))])
(.seq (.region [o_ (.fieldAddr 0 (.loc 1)),o_ (.load1 (.reg 0)),s_ 8 (.bin .eql (.reg 1) (i_ 7))])
(.cond (.loc 8)
(.region [o_ (.load1 (.loc 2)),o_ (.mov (.loc 3)),o_ (.load1 (.loc 2)),o_ (.mov (.loc 3)),o_ (.lookup (.leaf .int) (.agg [(.int .i64 0)]) false (.reg 2) (.reg 3)),o_ (.field 0 1 false (.reg 4)),o_ (.mov (.loc 0)),o_ (.bin .add (.reg 5) (.reg 6)),o_ (.build [(.int .i64 0)] [(0,1,(.reg 7))]),o_ (.update (.leaf .int) (.reg 0) (.reg 1) (.reg 8))])
.skip))))
(.region [o_ (.bin .add (.loc 6) (i_ 1)),s_ 6 (.mov (.reg 0))]))))
def t90 : TFunc := ⟨3,9,[],
(.seq (.region [o_ (.fieldAddr 2 (.loc 1)),s_ 4 (.load1 (.reg 0)),s_ 5 (.len .sl (.reg 1)),s_ 6 (.mov (i_ 0))])
(.block 0
(.loop t90L0)))⟩
theorem c90 : compFunc Tryz.prog opts a90 Tryz.f90 = some t90 := by kernel_rfl
def a91 : Ann := { slots := [0,2,3,4,5,6,7,8,9,13,22],lb := [],mu := [],trunc := [],draws := [] }
def t91L0 : TCode := (.seq (.seq (.region [o_ (.mov (.loc 5)),o_ (.mov (.loc 0)),o_ (.len .sl (.reg 1)),s_ 9 (.bin .lss (.reg 0) (.reg 2))])
(.cond (.loc 9)
.skip
(.exit 0)))
(.block 1
(.seq (.region [o_ (.mov (.loc 0)),o_ (.mov (.loc 5)),o_ (.call true false 125 [(.reg 0),(.reg 1)]),o_ (.mov (.reg 2)),o_ (.extract 0 (.reg 3)),o_ (.extract 1 (.reg 3)),o_ (.extract 2 (.reg 3)),s_ 6 (.mov (.reg 4)),s_ 7 (.mov (.reg 5)),s_ 8 (.mov (.reg 6))])
(.seq (.seq (.region [o_ (.mov (.loc 8)),s_ 10 (.bin .neq (.reg 0) (i_ 0))])
(.cond (.loc 10)
(.seq (.region [o_ (.mov (.loc 5)),s_ 1 (.mov (.cst (.sl .nil []))),s_ 2 (.mov (i_ 4)),s_ 3 (.mov (.reg 0))])
.ret)
.skip))
(.seq (.region [o_ (.mov (.loc 4)),o_ (.mov (.loc 6)),o_ (.mov (.loc 5)),o_ (.build [(.int .i64 0),(.int .i64 0)] [(0,1,(.reg 1)),(1,1,(.reg 2))]),o_ (.lit false [(.int .i64 0),(.int .i64 0)] 1 [(0,(.reg 3))]),o_ (.append false 2 16 113 (.reg 0) (.reg 4)),s_ 4 (.mov (.reg 5))])
(.region [o_ (.mov (.loc 5)),o_ (.mov (.loc 7)),o_ (.bin .add (.reg 0) (.reg 1)),s_ 5 (.mov (.reg 2))]))))))
def t91 : TFunc := ⟨1,11,[.loc 1,.loc 2,.loc 3],
(.seq (.region [s_ 1 (.mov (.cst (.sl .nil []))),s_ 2 (.mov (i_ 0)),s_ 3 (.mov (i_ 0))])
(.seq (.region [s_ 4 (.mov (.cst (.sl .nil [])))])
(.seq (.region [s_ 5 (.mov (i_ 0))])
(.seq (.block 0
(.loop t91L0))
(.seq (.region [o_ (.mov (.loc 4)),s_ 1 (.mov (.reg 0)),s_ 2 (.mov (i_ 0)),s_ 3 (.mov (i_ 0))])
.ret)))))⟩
theorem c91 : compFunc Tryz.prog opts a91 Tryz.f91 = some t91 := by kernel_rfl
def a92 : Ann := { slots := [0,1,4,5,10,12,13,14,24],lb := [],mu := [],trunc := [],draws := [(6,⟨[0,0,3,7,0,0,48,112,255],[0,1,2,3,4,5,6,7,8],[]⟩)] }
def t92L0 : TCode := (.seq (.region [s_ 7 (.bin .lss (.loc 6) (.loc 5))])
(.seq (.cond (.loc 7)
.skip
(.exit 0))
(.seq (.block 1
(.seq (.region [o_ (.mov (.loc 6)),s_ 3 (.mov (.reg 0))])
(.seq (.draw [0,1,2,3,4,5,6,7,8] [] [o_ (.mov (.loc 0)),o_ (.mov (.loc 3)),o_ (.indexAddrS 1 (.reg 0) (.reg 1)),o_ (.load1 (.reg 2)),o_ (.mov (.loc 1)),o_ (.mov (.loc 3)),o_ (.indexAddrS 1 (.reg 4) (.reg 5)),o_ (.load1 (.reg 6)),s_ 8 (.bin .neq (.reg 3) (.reg 7))])
(.cond (.loc 8)
(.seq (.region [s_ 2 (.mov (.cst (.bool false)))])
.ret)
.skip))))
(.region [o_ (.bin .add (.loc 6) (i_ 1)),s_ 6 (.mov (.reg 0))]))))
def t92 : TFunc := ⟨2,9,[.loc 2],
(.seq (.region [s_ 2 (.mov (.cst (.bool false)))])
(.seq (.seq (.region [o_ (.mov (.loc 0)),o_ (.len .sl (.reg 0)),o_ (.mov (.loc 1)),o_ (.len .sl (.reg 2)),s_ 4 (.bin .neq (.reg 1) (.reg 3))])
(.cond (.loc 4)
(.seq (.region [s_ 2 (.mov (.cst (.bool false)))])
.ret)
.skip))
(.seq (.seq (.region [o_ (.mov (.loc 0)),s_ 5 (.len .sl (.reg 0)),s_ 6 (.mov (i_ 0))])
(.block 0
(.loop t92L0)))
(.seq (.region [s_ 2 (.mov (.cst (.bool true)))])
.ret))))⟩
theorem c92 : compFunc Tryz.prog opts a92 Tryz.f92 = some t92 := by kernel_rfl
def a93 : Ann := { slots := [0,1,2,6,7,8,9,14,15,16,17,18,30],lb := [9,8],mu := [],trunc := [],draws := [] }
def t93L0 : TCode := (.seq (.region [s_ 11 (.bin .lss (.loc 10) (.loc 9))])
(.seq (.cond (.loc 11)
.skip
(.exit 0))
(.seq (.block 1
(.seq (.region [o_ (.mov (.loc 10)),o_ (.indexAddrS 5 (.loc 8) (.loc 10)),o_ (.loadN 5 (.reg 1)),o_ (.allocL 5 [(.int .i64 0),(.int .i64 0),(.sl .nil []),(.bool false),(.sl .nil [])]),s_ 4 (.mov (.reg 0)),o_ (.store 5 (.reg 3) (.reg 2))])
(.seq (.region [o_ (.mov (.loc 1)),o_ (.mov (.loc 4)),o_ (.indexAddrS 5 (.reg 0) (.reg 1)),o_ (.loadN 5 (.reg 2)),o_ (.allocL 6 [(.int .i64 0),(.int .i64 0),(.sl .nil []),(.bool false),(.sl .nil [])]),o_ (.store 5 (.reg 4) (.reg 3))])
(.seq (.region [o_ (.mov (.loc 2)),o_ (.loadN 5 (.loc 5)),o_ (.loadN 5 (.loc 6)),o_ (.callv (.reg 0) [(.reg 1),(.reg 2)]),s_ 12 (.un .not (.reg 3))])
(.cond (.loc 12)
(.seq (.region [s_ 3 (.mov (.cst (.bool false)))])
.ret)
.skip)))))
(.region [o_ (.bin .add (.loc 10) (i_ 1)),s_ 10 (.mov (.reg 0))]))))
def t93 : TFunc := ⟨3,13,[.loc 3],
(.seq (.region [s_ 3 (.mov (.cst (.bool false)))])
(.seq (.seq (.region [o_ (.mov (.loc 0)),o_ (.len .sl (.reg 0)),o_ (.mov (.loc 1)),o_ (.len .sl (.reg 2)),s_ 7 (.bin .neq (.reg 1) (.reg 3))])
(.cond (.loc 7)
(.seq (.region [s_ 3 (.mov (.cst (.bool false)))])
.ret)
.skip))
(.seq (.seq (.region [s_ 8 (.mov (.loc 0)),s_ 9 (.len .sl (.reg 0)),s_ 10 (.mov (i_ 0))])
(.block 0
(.loop t93L0)))
(.seq (.region [s_ 3 (.mov (.cst (.bool true)))])
.ret))))⟩
theorem c93 : compFunc Tryz.prog opts a93 Tryz.f93 = some t93 := by kernel_rfl
end Go.Proofs.YtookmpaholmmfaaGreatDoor
