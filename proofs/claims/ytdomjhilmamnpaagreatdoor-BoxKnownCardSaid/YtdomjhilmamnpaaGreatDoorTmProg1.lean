/- The functions of this seat, compiled for the evaluator TM; each held against the translation by the kernel. By program. Condition: none. -/
import Derived.Test.YtdomjhilmamnpaaGreatDoorPrim
set_option maxRecDepth 100000
set_option linter.unusedVariables false
namespace Go.Proofs.YtdomjhilmamnpaaGreatDoor
open Go Go.TM
def opts : Opts := ⟨fun f => ([3, 4, 6, 8, 9, 10, 12, 13, 14, 15, 17, 18, 19, 20, 21, 22, 23, 24, 25, 26, 27, 28, 30, 31, 32, 33, 34, 35, 36, 37, 38, 39, 40, 41, 42, 43, 44, 45, 46, 47, 48, 49, 50, 54, 55, 56, 57, 58, 59, 60, 62, 64, 65, 66, 67, 68, 69, 71, 72, 73, 74, 75, 76, 77, 78, 79, 80, 81, 82, 83, 84, 85, 86, 87, 88, 89, 93, 98, 99, 100, 101, 102, 103, 104, 105, 106, 107, 108, 109, 110, 112, 114, 115, 120, 122, 123, 124, 127, 130, 131, 132, 133, 134, 135, 139, 141, 142, 144, 145, 146, 149, 153, 154, 155, 161, 165, 167, 171, 174, 175, 176, 177, 178, 179, 181, 182, 189, 191, 193, 195, 196, 197, 201, 210, 211, 212, 213, 214, 215, 216, 217] : List Nat).contains f, fun f => ([66, 99, 163] : List Nat).contains f⟩
/-- pennant/pennantlaw11.CoreKnown -/
def a5 : Ann := { slots := [0, 1, 2, 3, 4, 5, 6, 7, 8, 31], lb := [8, 7, 5, 2, 1], mu := [], trunc := [], draws := [(3, ⟨[0, 1, 3, 0, 8, 24, 56, 127, 255], [0, 1, 2], [(3, [2], []), (4, [2], [5, 6, 7]), (8, [], [])]⟩), (14, ⟨[0, 1, 3, 7, 15, 31, 63, 127, 255, 511, 1023, 2047, 4095, 8191, 16383, 32767, 65535, 131071, 262143, 524287, 1048575, 2097151, 4194303, 8388607, 16777215, 33554431, 67108863, 134217727, 268435455, 536870911, 1073741823, 2147483647, 4294967295, 8589934591, 17179869183, 34359738367, 68719476735, 137438953471, 274877906943, 549755813887, 1099511627775, 2199023255551, 4398046511103, 8796093022207, 17592186044415, 35184372088831, 70368744177663, 140737488355327, 281474976710655, 562949953421311, 1125899906842623, 2251799813685247, 4503599627370495, 9007199254740991, 18014398509481983, 36028797018963967, 72057594037927935, 144115188075855871, 288230376151711743, 576460752303423487, 1152921504606846975, 2305843009213693951, 4611686018427387903, 9223372036854775807, 18446744073709551615, 36893488147419103231, 73786976294838206463, 147573952589676412927, 295147905179352825855, 590295810358705651711, 1180591620717411303423, 2361183241434822606847, 4722366482869645213695, 9444732965739290427391, 9444732965739290427391, 28334198897217871282175, 75557863725914323419135, 151115727451828646838271, 302231454903657293676543, 604462909807314587353087, 604462909807314587353087, 2417851639229258349412351, 4835703278458516698824703, 9671406556917033397649407, 19342813113834066795298815], [], [(0, [], [1, 2, 3, 4, 5, 6, 7, 8, 9, 10, 11, 12, 13, 14, 15, 16, 17, 18, 19, 20, 21, 22, 23, 24, 25]), (26, [], [27, 28, 29, 30]), (31, [], []), (32, [], []), (33, [], [34, 35, 36]), (37, [], []), (38, [], []), (39, [], [40, 41, 42, 43]), (44, [], [45, 46, 47, 48]), (49, [], [50, 51, 52, 53]), (54, [], [55, 56, 57, 58]), (59, [], [60, 61, 62, 63]), (64, [], [65, 66, 67, 68]), (69, [], [70, 71, 72, 73]), (74, [73], []), (75, [73], []), (76, [], [77, 78, 79, 80]), (81, [], [82, 83, 84])]⟩)] }
def t5 : TFunc := ⟨0, 10, [.loc 0],
 (.seq (.region [⟨.mov (.cst (.bool false)), (some 0), none⟩])
 (.seq (.region [⟨.call false false 22 [(.cst (.int .i64 1))], none, none⟩, ⟨.call false false 21 [(.reg 0)], none, none⟩, ⟨.allocL 1 [(.int .i64 0), (.int .i64 0), (.sl .nil []), (.bool false), (.sl .nil []), (.int .i64 0), (.int .i64 0), (.sl .nil [])], none, none⟩, ⟨.store 8 (.reg 2) (.reg 1), none, none⟩])
 (.seq (.region [⟨.call false false 22 [(.cst (.int .i64 1))], none, none⟩, ⟨.call false false 21 [(.reg 0)], none, none⟩, ⟨.allocL 2 [(.int .i64 0), (.int .i64 0), (.sl .nil []), (.bool false), (.sl .nil []), (.int .i64 0), (.int .i64 0), (.sl .nil [])], none, none⟩, ⟨.store 8 (.reg 2) (.reg 1), none, none⟩])
 (.seq (.draw [0, 1, 2] [(3, [2], []), (4, [2], [5, 6, 7]), (8, [], [])] [⟨.fieldAddr 0 (.loc 2), none, none⟩, ⟨.fieldAddr 4 (.reg 0), none, none⟩, ⟨.load1 (.reg 1), none, none⟩, ⟨.call false false 22 [(.cst (.int .i64 1))], none, none⟩, ⟨.call false false 23 [(.cst (.int .i64 0))], none, none⟩, ⟨.lit false [(.int .i64 0), (.int .i64 0), (.sl .nil []), (.bool false), (.sl .nil [])] 2 [(0, (.reg 3)), (1, (.reg 4))], none, none⟩, ⟨.build [(.int .i64 0), (.int .i64 0), (.sl .nil []), (.bool false), (.sl .nil [])] [(0, 1, (.cst (.int .i64 6))), (4, 1, (.reg 5))], none, none⟩, ⟨.indexAddrS 5 (.reg 2) (.cst (.int .i64 1)), none, none⟩, ⟨.store 5 (.reg 7) (.reg 6), none, none⟩])
 (.seq (.region [⟨.fieldAddr 0 (.loc 1), none, none⟩, ⟨.loadN 5 (.reg 0), none, none⟩, ⟨.call false false 15 [(.reg 1)], none, none⟩, ⟨.call false false 24 [], none, none⟩, ⟨.field 4 1 false (.reg 3), none, none⟩, ⟨.indexAddrS 5 (.reg 4) (.cst (.int .i64 0)), none, none⟩, ⟨.loadN 5 (.reg 5), none, none⟩, ⟨.call false false 17 [(.reg 6)], none, none⟩, ⟨.mov (.reg 2), (some 3), none⟩, ⟨.mov (.reg 7), (some 4), none⟩])
 (.seq (.region [⟨.call false false 22 [(.cst (.int .i64 0))], none, none⟩, ⟨.allocL 5 [(.int .i64 0), (.int .i64 0), (.sl .nil []), (.bool false), (.sl .nil [])], none, none⟩, ⟨.store 5 (.reg 1) (.reg 0), none, none⟩])
 (.seq (.seq (.region [⟨.mov (.cst (.int .i64 0)), (some 6), none⟩])
 (.block 0
  (.loop
   (.seq (.seq (.region [⟨.mov (.loc 6), none, none⟩, ⟨.bin .lss (.reg 0) (.cst (.int .i64 4000)), (some 9), none⟩])
   (.cond (.loc 9)
    .skip
    (.exit 0)))
   (.seq (.block 1
    (.region [⟨.loadN 5 (.loc 5), none, none⟩, ⟨.lit false [(.int .i64 0), (.int .i64 0), (.sl .nil []), (.bool false), (.sl .nil [])] 1 [(0, (.reg 0))], none, none⟩, ⟨.build [(.int .i64 0), (.int .i64 0), (.sl .nil []), (.bool false), (.sl .nil [])] [(0, 1, (.cst (.int .i64 10))), (4, 1, (.reg 1))], none, none⟩, ⟨.store 5 (.loc 5) (.reg 2), none, none⟩]))
   (.region [⟨.mov (.loc 6), none, none⟩, ⟨.bin .add (.reg 0) (.cst (.int .i64 1)), none, none⟩, ⟨.mov (.reg 1), (some 6), none⟩]))))))
 (.seq (.region [⟨.call false false 22 [(.cst (.int .i64 1))], none, none⟩, ⟨.call false false 21 [(.reg 0)], none, none⟩, ⟨.allocL 7 [(.int .i64 0), (.int .i64 0), (.sl .nil []), (.bool false), (.sl .nil []), (.int .i64 0), (.int .i64 0), (.sl .nil [])], none, none⟩, ⟨.store 8 (.reg 2) (.reg 1), none, none⟩])
 (.seq (.region [⟨.loadN 5 (.loc 5), none, none⟩, ⟨.fieldAddr 0 (.loc 7), none, none⟩, ⟨.store 5 (.reg 1) (.reg 0), none, none⟩])
 (.seq (.region [⟨.call false false 22 [(.cst (.int .i64 1))], none, none⟩, ⟨.call false false 21 [(.reg 0)], none, none⟩, ⟨.allocL 8 [(.int .i64 0), (.int .i64 0), (.sl .nil []), (.bool false), (.sl .nil []), (.int .i64 0), (.int .i64 0), (.sl .nil [])], none, none⟩, ⟨.store 8 (.reg 2) (.reg 1), none, none⟩])
 (.seq (.region [⟨.fieldAddr 7 (.loc 8), none, none⟩, ⟨.load1 (.reg 0), none, none⟩, ⟨.indexAddrS 5 (.reg 1) (.cst (.int .i64 0)), none, none⟩, ⟨.fieldAddr 2 (.reg 2), none, none⟩, ⟨.store 1 (.reg 3) (.cst (.str [48, 53])), none, none⟩])
 (.seq (.draw [] [(0, [], [1, 2, 3, 4, 5, 6, 7, 8, 9, 10, 11, 12, 13, 14, 15, 16, 17, 18, 19, 20, 21, 22, 23, 24, 25]), (26, [], [27, 28, 29, 30]), (31, [], []), (32, [], []), (33, [], [34, 35, 36]), (37, [], []), (38, [], []), (39, [], [40, 41, 42, 43]), (44, [], [45, 46, 47, 48]), (49, [], [50, 51, 52, 53]), (54, [], [55, 56, 57, 58]), (59, [], [60, 61, 62, 63]), (64, [], [65, 66, 67, 68]), (69, [], [70, 71, 72, 73]), (74, [73], []), (75, [73], []), (76, [], [77, 78, 79, 80]), (81, [], [82, 83, 84])] [⟨.call true false 11 [], none, none⟩, ⟨.mov (.reg 0), none, none⟩, ⟨.mov (.loc 3), none, (some (1, true))⟩, ⟨.len .sl (.reg 2), none, (some (1, true))⟩, ⟨.bin .eql (.reg 3) (.cst (.int .i64 2)), none, (some (1, true))⟩, ⟨.pick (.reg 1) (.reg 4) (.cst (.bool false)), none, none⟩, ⟨.mov (.reg 5), none, none⟩, ⟨.mov (.loc 3), none, (some (6, true))⟩, ⟨.indexAddrS 1 (.reg 7) (.cst (.int .i64 0)), none, (some (6, true))⟩, ⟨.load1 (.reg 8), none, (some (6, true))⟩, ⟨.bin .eql (.reg 9) (.cst (.int .i64 0)), none, (some (6, true))⟩, ⟨.pick (.reg 6) (.reg 10) (.cst (.bool false)), none, none⟩, ⟨.mov (.reg 11), none, none⟩, ⟨.mov (.loc 3), none, (some (12, true))⟩, ⟨.indexAddrS 1 (.reg 13) (.cst (.int .i64 1)), none, (some (12, true))⟩, ⟨.load1 (.reg 14), none, (some (12, true))⟩, ⟨.bin .eql (.reg 15) (.cst (.int .i64 1)), none, (some (12, true))⟩, ⟨.pick (.reg 12) (.reg 16) (.cst (.bool false)), none, none⟩, ⟨.mov (.reg 17), none, none⟩, ⟨.mov (.loc 4), none, (some (18, true))⟩, ⟨.len .sl (.reg 19), none, (some (18, true))⟩, ⟨.bin .eql (.reg 20) (.cst (.int .i64 2)), none, (some (18, true))⟩, ⟨.pick (.reg 18) (.reg 21) (.cst (.bool false)), none, none⟩, ⟨.mov (.reg 22), none, none⟩, ⟨.fieldAddr 0 (.loc 1), none, (some (23, true))⟩, ⟨.loadN 5 (.reg 24), none, (some (23, true))⟩, ⟨.call false false 14 [(.reg 25)], none, (some (23, true))⟩, ⟨.len .sl (.reg 26), none, (some (23, true))⟩, ⟨.bin .eql (.reg 27) (.cst (.int .i64 0)), none, (some (23, true))⟩, ⟨.pick (.reg 23) (.reg 28) (.cst (.bool false)), none, none⟩, ⟨.mov (.reg 29), none, none⟩, ⟨.call false false 25 [(.cst (.int .i64 0))], none, (some (30, true))⟩, ⟨.call false false 21 [(.reg 31)], none, (some (30, true))⟩, ⟨.call false false 13 [(.reg 32)], none, (some (30, true))⟩, ⟨.bin .eql (.reg 33) (.cst (.int .i64 6)), none, (some (30, true))⟩, ⟨.pick (.reg 30) (.reg 34) (.cst (.bool false)), none, none⟩, ⟨.mov (.reg 35), none, none⟩, ⟨.call false false 22 [(.cst (.int .i64 0))], none, (some (36, true))⟩, ⟨.call false false 21 [(.reg 37)], none, (some (36, true))⟩, ⟨.call false false 13 [(.reg 38)], none, (some (36, true))⟩, ⟨.bin .eql (.reg 39) (.cst (.int .i64 14)), none, (some (36, true))⟩, ⟨.pick (.reg 36) (.reg 40) (.cst (.bool false)), none, none⟩, ⟨.mov (.reg 41), none, none⟩, ⟨.loadN 8 (.loc 2), none, (some (42, true))⟩, ⟨.call false false 13 [(.reg 43)], none, (some (42, true))⟩, ⟨.bin .eql (.reg 44) (.cst (.int .i64 4)), none, (some (42, true))⟩, ⟨.pick (.reg 42) (.reg 45) (.cst (.bool false)), none, none⟩, ⟨.mov (.reg 46), none, none⟩, ⟨.loadN 8 (.loc 7), none, (some (47, true))⟩, ⟨.call false false 13 [(.reg 48)], none, (some (47, true))⟩, ⟨.bin .eql (.reg 49) (.cst (.int .i64 5)), none, (some (47, true))⟩, ⟨.pick (.reg 47) (.reg 50) (.cst (.bool false)), none, none⟩, ⟨.mov (.reg 51), none, none⟩, ⟨.loadN 8 (.loc 8), none, (some (52, true))⟩, ⟨.call false false 13 [(.reg 53)], none, (some (52, true))⟩, ⟨.bin .eql (.reg 54) (.cst (.int .i64 2)), none, (some (52, true))⟩, ⟨.pick (.reg 52) (.reg 55) (.cst (.bool false)), none, none⟩, ⟨.mov (.reg 56), none, none⟩, ⟨.build [(.int .i64 0), (.int .i64 0), (.sl .nil []), (.bool false), (.sl .nil []), (.int .i64 0), (.int .i64 0), (.sl .nil [])] [], none, (some (57, true))⟩, ⟨.call false false 13 [(.reg 58)], none, (some (57, true))⟩, ⟨.bin .eql (.reg 59) (.cst (.int .i64 4)), none, (some (57, true))⟩, ⟨.pick (.reg 57) (.reg 60) (.cst (.bool false)), none, none⟩, ⟨.mov (.reg 61), none, none⟩, ⟨.build [(.int .i64 0), (.int .i64 0), (.sl .nil []), (.bool false), (.sl .nil [])] [], none, (some (62, true))⟩, ⟨.call false false 26 [(.reg 63)], none, (some (62, true))⟩, ⟨.bin .eql (.reg 64) (.cst (.str [63])), none, (some (62, true))⟩, ⟨.pick (.reg 62) (.reg 65) (.cst (.bool false)), none, none⟩, ⟨.mov (.reg 66), none, none⟩, ⟨.loadN 8 (.loc 1), none, (some (67, true))⟩, ⟨.call false false 27 [(.reg 68)], none, (some (67, true))⟩, ⟨.bin .eql (.reg 69) (.cst (.str [103, 108, 111, 98, 97, 108, 115, 32, 49, 32, 118, 97, 114, 115, 32, 50, 10, 99, 48, 32, 53, 10, 99, 49, 32, 34, 97, 34, 10, 40, 98, 101, 103, 105, 110, 32, 40, 115, 101, 116, 33, 32, 103, 48, 32, 40, 108, 97, 109, 98, 100, 97, 32, 40, 118, 48, 32, 46, 32, 118, 49, 41, 32, 40, 105, 102, 32, 118, 48, 32, 40, 99, 97, 108, 108, 32, 103, 48, 32, 118, 49, 41, 32, 99, 48, 41, 41, 41, 32, 40, 99, 97, 108, 108, 32, 103, 48, 32, 99, 49, 41, 41])), none, (some (67, true))⟩, ⟨.pick (.reg 67) (.reg 70) (.cst (.bool false)), none, none⟩, ⟨.mov (.reg 71), none, none⟩, ⟨.loadN 8 (.loc 1), none, (some (72, true))⟩, ⟨.call false false 22 [(.cst (.int .i64 1))], none, (some (72, true))⟩, ⟨.call false false 21 [(.reg 74)], none, (some (72, true))⟩, ⟨.call false false 19 [(.reg 73), (.reg 75)], none, (some (72, true))⟩, ⟨.pick (.reg 72) (.reg 76) (.cst (.bool false)), none, none⟩, ⟨.mov (.reg 77), none, none⟩, ⟨.loadN 8 (.loc 1), none, (some (78, true))⟩, ⟨.loadN 8 (.loc 2), none, (some (78, true))⟩, ⟨.call false false 19 [(.reg 79), (.reg 80)], none, (some (78, true))⟩, ⟨.un .not (.reg 81), none, (some (78, true))⟩, ⟨.pick (.reg 78) (.reg 82) (.cst (.bool false)), none, none⟩, ⟨.mov (.reg 83), (some 0), none⟩])
 .ret))))))))))))⟩
theorem c5 : compFunc Tryz.prog opts a5 Tryz.f5 = some t5 := by kernel_rfl
/-- pennant/pennantlaw15.BoxKnown -/
def a7 : Ann := { slots := [0, 1, 2, 3, 4, 5], lb := [4, 2, 1], mu := [], trunc := [], draws := [] }
def t7 : TFunc := ⟨0, 6, [.loc 0],
 (.seq (.region [⟨.mov (.cst (.bool false)), (some 0), none⟩])
 (.seq (.region [⟨.lit false [(.int .i64 0)] 1 [(0, (.cst (.int .i64 0)))], none, none⟩, ⟨.call false false 33 [(.cst (.int .i64 0))], none, none⟩, ⟨.lit false [(.int .i64 0), (.int .i64 0), (.sl .nil []), (.bool false), (.sl .nil [])] 1 [(0, (.reg 1))], none, none⟩, ⟨.build [(.int .i64 0), (.int .i64 0), (.sl .nil []), (.bool false), (.sl .nil [])] [(0, 1, (.cst (.int .i64 7))), (2, 1, (.reg 0)), (4, 1, (.reg 2))], none, none⟩, ⟨.allocL 1 [(.int .i64 0), (.int .i64 0), (.sl .nil []), (.bool false), (.sl .nil [])], none, none⟩, ⟨.store 5 (.reg 4) (.reg 3), none, none⟩])
 (.seq (.region [⟨.call false false 35 [(.cst (.int .i64 0))], none, none⟩, ⟨.lit false [(.int .i64 0), (.int .i64 0), (.sl .nil []), (.bool false), (.sl .nil [])] 1 [(0, (.reg 0))], none, none⟩, ⟨.build [(.int .i64 0), (.int .i64 0), (.sl .nil []), (.bool false), (.sl .nil [])] [(0, 1, (.cst (.int .i64 12))), (4, 1, (.reg 1))], none, none⟩, ⟨.call false false 34 [(.cst (.int .i64 0)), (.reg 2)], none, none⟩, ⟨.call false false 31 [(.reg 3)], none, none⟩, ⟨.mov (.reg 4), none, none⟩, ⟨.extract 0 (.reg 5), none, none⟩, ⟨.extract 1 (.reg 5), none, none⟩, ⟨.allocL 2 [(.int .i64 0), (.int .i64 0), (.sl .nil []), (.bool false), (.sl .nil []), (.int .i64 0), (.int .i64 0), (.sl .nil [])], none, none⟩, ⟨.store 8 (.reg 8) (.reg 6), none, none⟩, ⟨.mov (.reg 7), (some 3), none⟩])
 (.seq (.region [⟨.call false false 33 [(.cst (.int .i64 0))], none, none⟩, ⟨.call false false 34 [(.cst (.int .i64 0)), (.reg 0)], none, none⟩, ⟨.call false false 31 [(.reg 1)], none, none⟩, ⟨.mov (.reg 2), none, none⟩, ⟨.extract 0 (.reg 3), none, none⟩, ⟨.extract 1 (.reg 3), none, none⟩, ⟨.allocL 4 [(.int .i64 0), (.int .i64 0), (.sl .nil []), (.bool false), (.sl .nil []), (.int .i64 0), (.int .i64 0), (.sl .nil [])], none, none⟩, ⟨.store 8 (.reg 6) (.reg 4), none, none⟩, ⟨.mov (.reg 5), (some 5), none⟩])
 (.seq (.region [⟨.call true false 29 [], none, none⟩, ⟨.mov (.reg 0), none, none⟩, ⟨.call false false 37 [], none, (some (1, true))⟩, ⟨.call false false 34 [(.cst (.int .i64 2)), (.reg 2)], none, (some (1, true))⟩, ⟨.call false false 36 [(.reg 3), (.cst (.str [40, 108, 97, 109, 98, 100, 97, 32, 40, 118, 48, 32, 46, 32, 118, 50, 41, 32, 40, 99, 97, 108, 108, 32, 40, 108, 97, 109, 98, 100, 97, 32, 40, 118, 49, 41, 32, 40, 115, 101, 116, 45, 98, 111, 120, 33, 32, 118, 49, 32, 118, 48, 41, 41, 32, 40, 98, 111, 120, 32, 118, 50, 41, 41, 41]))], none, (some (1, true))⟩, ⟨.pick (.reg 1) (.reg 4) (.cst (.bool false)), none, none⟩, ⟨.mov (.reg 5), none, none⟩, ⟨.loadN 5 (.loc 1), none, (some (6, true))⟩, ⟨.call false false 34 [(.cst (.int .i64 1)), (.reg 7)], none, (some (6, true))⟩, ⟨.call false false 36 [(.reg 8), (.cst (.str [40, 108, 97, 109, 98, 100, 97, 32, 40, 118, 48, 41, 32, 118, 48, 41]))], none, (some (6, true))⟩, ⟨.pick (.reg 6) (.reg 9) (.cst (.bool false)), none, none⟩, ⟨.mov (.reg 10), none, none⟩, ⟨.mov (.loc 3), none, (some (11, true))⟩, ⟨.bin .eql (.reg 12) (.cst (.int .i64 2)), none, (some (11, true))⟩, ⟨.pick (.reg 11) (.reg 13) (.cst (.bool false)), none, none⟩, ⟨.mov (.reg 14), none, none⟩, ⟨.mov (.loc 5), none, (some (15, true))⟩, ⟨.bin .eql (.reg 16) (.cst (.int .i64 4)), none, (some (15, true))⟩, ⟨.pick (.reg 15) (.reg 17) (.cst (.bool false)), none, none⟩, ⟨.mov (.reg 18), (some 0), none⟩])
 .ret)))))⟩
theorem c7 : compFunc Tryz.prog opts a7 Tryz.f7 = some t7 := by kernel_rfl
/-- pennant/pennantlaw11.awake -/
def a11 : Ann := { slots := [0, 1], lb := [1], mu := [], trunc := [], draws := [] }
def t11 : TFunc := ⟨0, 2, [.loc 0],
 (.seq (.region [⟨.mov (.cst (.bool false)), (some 0), none⟩])
 (.seq (.region [⟨.call false false 22 [(.cst (.int .i64 1))], none, none⟩, ⟨.call false false 21 [(.reg 0)], none, none⟩, ⟨.allocL 1 [(.int .i64 0), (.int .i64 0), (.sl .nil []), (.bool false), (.sl .nil []), (.int .i64 0), (.int .i64 0), (.sl .nil [])], none, none⟩, ⟨.store 8 (.reg 2) (.reg 1), none, none⟩])
 (.seq (.region [⟨.loadN 8 (.loc 1), none, none⟩, ⟨.call false false 13 [(.reg 0)], none, none⟩, ⟨.bin .eql (.reg 1) (.cst (.int .i64 0)), none, none⟩, ⟨.mov (.reg 2), none, none⟩, ⟨.fieldAddr 0 (.loc 1), none, (some (3, true))⟩, ⟨.loadN 5 (.reg 4), none, (some (3, true))⟩, ⟨.call false false 41 [(.reg 5)], none, (some (3, true))⟩, ⟨.bin .eql (.reg 6) (.cst (.int .i64 12)), none, (some (3, true))⟩, ⟨.pick (.reg 3) (.reg 7) (.cst (.bool false)), none, none⟩, ⟨.mov (.reg 8), none, none⟩, ⟨.call false false 24 [], none, (some (9, true))⟩, ⟨.call false false 26 [(.reg 10)], none, (some (9, true))⟩, ⟨.bin .eql (.reg 11) (.cst (.str [40, 108, 97, 109, 98, 100, 97, 32, 40, 118, 48, 32, 46, 32, 118, 49, 41, 32, 40, 105, 102, 32, 118, 48, 32, 40, 99, 97, 108, 108, 32, 103, 48, 32, 118, 49, 41, 32, 99, 48, 41, 41])), none, (some (9, true))⟩, ⟨.pick (.reg 9) (.reg 12) (.cst (.bool false)), none, none⟩, ⟨.mov (.reg 13), none, none⟩, ⟨.call false false 24 [], none, (some (14, true))⟩, ⟨.field 4 1 false (.reg 15), none, (some (14, true))⟩, ⟨.indexAddrS 5 (.reg 16) (.cst (.int .i64 0)), none, (some (14, true))⟩, ⟨.loadN 5 (.reg 17), none, (some (14, true))⟩, ⟨.call false false 17 [(.reg 18)], none, (some (14, true))⟩, ⟨.len .sl (.reg 19), none, (some (14, true))⟩, ⟨.bin .eql (.reg 20) (.cst (.int .i64 2)), none, (some (14, true))⟩, ⟨.pick (.reg 14) (.reg 21) (.cst (.bool false)), none, none⟩, ⟨.mov (.reg 22), (some 0), none⟩])
 .ret)))⟩
theorem c11 : compFunc Tryz.prog opts a11 Tryz.f11 = some t11 := by kernel_rfl
/-- pennant/core.Check -/
def a13 : Ann := { slots := [0, 1, 2, 4, 5, 18, 20, 21, 22, 23, 33], lb := [4, 1], mu := [], trunc := [], draws := [] }
def t13 : TFunc := ⟨1, 11, [.loc 2],
 (.seq (.region [⟨.boxL 1 (.loc 0), none, none⟩, ⟨.mov (.cst (.int .i64 0)), (some 2), none⟩])
 (.seq (.seq (.region [⟨.fieldAddr 5 (.loc 1), none, none⟩, ⟨.load1 (.reg 0), none, none⟩, ⟨.bin .lss (.reg 1) (.cst (.int .i64 0)), none, none⟩, ⟨.mov (.reg 2), none, none⟩, ⟨.fieldAddr 5 (.loc 1), none, (some (3, false))⟩, ⟨.load1 (.reg 4), none, (some (3, false))⟩, ⟨.bin .gtr (.reg 5) (.cst (.int .i64 20000)), none, (some (3, false))⟩, ⟨.pick (.reg 3) (.cst (.bool true)) (.reg 6), none, none⟩, ⟨.mov (.reg 7), none, none⟩, ⟨.fieldAddr 6 (.loc 1), none, (some (8, false))⟩, ⟨.load1 (.reg 9), none, (some (8, false))⟩, ⟨.bin .lss (.reg 10) (.cst (.int .i64 0)), none, (some (8, false))⟩, ⟨.pick (.reg 8) (.cst (.bool true)) (.reg 11), (some 5), none⟩])
 (.cond (.loc 5)
  (.seq (.region [⟨.mov (.cst (.int .i64 2)), (some 2), none⟩])
  .ret)
  .skip))
 (.seq (.seq (.region [⟨.fieldAddr 7 (.loc 1), none, none⟩, ⟨.load1 (.reg 0), (some 6), none⟩, ⟨.len .sl (.reg 1), (some 7), none⟩, ⟨.mov (.cst (.int .i64 0)), (some 8), none⟩])
 (.block 0
  (.loop
   (.seq (.region [⟨.bin .lss (.loc 8) (.loc 7), (some 9), none⟩])
   (.seq (.cond (.loc 9)
    .skip
    (.exit 0))
   (.seq (.block 1
    (.seq (.region [⟨.indexAddrS 5 (.loc 6) (.loc 8), none, none⟩, ⟨.loadN 5 (.reg 0), none, none⟩, ⟨.allocL 3 [(.int .i64 0), (.int .i64 0), (.str []), (.sl .nil []), (.int .i64 0)], none, none⟩, ⟨.store 5 (.reg 2) (.reg 1), none, none⟩])
    (.seq (.region [⟨.loadN 5 (.loc 3), none, none⟩, ⟨.call false false 42 [(.reg 0)], none, none⟩, ⟨.un .not (.reg 1), none, none⟩, ⟨.mov (.reg 2), none, none⟩, ⟨.loadN 5 (.loc 3), none, (some (3, false))⟩, ⟨.call false false 43 [(.reg 4)], none, (some (3, false))⟩, ⟨.un .not (.reg 5), none, (some (3, false))⟩, ⟨.pick (.reg 3) (.cst (.bool true)) (.reg 6), (some 10), none⟩])
    (.cond (.loc 10)
     (.seq (.region [⟨.mov (.cst (.int .i64 2)), (some 2), none⟩])
     .ret)
     .skip))))
   (.region [⟨.bin .add (.loc 8) (.cst (.int .i64 1)), none, none⟩, ⟨.mov (.reg 0), (some 8), none⟩])))))))
 (.seq (.region [⟨.loadN 8 (.loc 1), none, none⟩, ⟨.mkMap, none, none⟩, ⟨.mkMap, none, none⟩, ⟨.mkMap, none, none⟩, ⟨.build [(.int .i64 0), (.int .i64 0), (.sl .nil []), (.bool false), (.sl .nil []), (.int .i64 0), (.int .i64 0), (.sl .nil []), .nilm, .nilm, .nilm] [(0, 8, (.reg 0)), (8, 1, (.reg 1)), (9, 1, (.reg 2)), (10, 1, (.reg 3))], none, none⟩, ⟨.boxH 58 (.reg 4), none, none⟩, ⟨.mov (.reg 5), (some 4), none⟩])
 (.seq (.region [⟨.mov (.loc 4), none, none⟩, ⟨.fieldAddr 0 (.loc 1), none, none⟩, ⟨.loadN 5 (.reg 1), none, none⟩, ⟨.call false false 44 [(.reg 0), (.reg 2), (.cst (.int .i64 0))], none, none⟩, ⟨.mov (.reg 3), (some 2), none⟩])
 .ret)))))⟩
theorem c13 : compFunc Tryz.prog opts a13 Tryz.f13 = some t13 := by kernel_rfl
/-- pennant/core.Assigned -/
def a14 : Ann := { slots := [0, 1, 2, 3], lb := [1], mu := [], trunc := [], draws := [] }
def t14 : TFunc := ⟨1, 4, [.loc 2],
 (.seq (.region [⟨.boxL 1 (.loc 0), none, none⟩, ⟨.mov (.cst (.sl .nil [])), (some 2), none⟩])
 (.seq (.region [⟨.mkMap, none, none⟩, ⟨.allocH 56 [.nilm], (some 3), none⟩, ⟨.store 1 (.reg 1) (.reg 0), none, none⟩])
 (.seq (.region [⟨.loadN 5 (.loc 1), none, none⟩, ⟨.mkFn 46 [] [(.loc 3)], none, none⟩, ⟨.call false false 45 [(.reg 0), (.reg 1)], none, none⟩])
 (.seq (.region [⟨.load1 (.loc 3), none, none⟩, ⟨.call false false 47 [(.reg 0)], none, none⟩, ⟨.mov (.reg 1), (some 2), none⟩])
 .ret))))⟩
theorem c14 : compFunc Tryz.prog opts a14 Tryz.f14 = some t14 := by kernel_rfl
/-- pennant/core.Bound -/
def a15 : Ann := { slots := [0, 1, 2, 3], lb := [1], mu := [], trunc := [], draws := [] }
def t15 : TFunc := ⟨1, 4, [.loc 2],
 (.seq (.region [⟨.boxL 1 (.loc 0), none, none⟩, ⟨.mov (.cst (.sl .nil [])), (some 2), none⟩])
 (.seq (.region [⟨.mkMap, none, none⟩, ⟨.allocH 56 [.nilm], (some 3), none⟩, ⟨.store 1 (.reg 1) (.reg 0), none, none⟩])
 (.seq (.region [⟨.loadN 5 (.loc 1), none, none⟩, ⟨.mkFn 48 [] [(.loc 3)], none, none⟩, ⟨.call false false 45 [(.reg 0), (.reg 1)], none, none⟩])
 (.seq (.region [⟨.load1 (.loc 3), none, none⟩, ⟨.call false false 47 [(.reg 0)], none, none⟩, ⟨.mov (.reg 1), (some 2), none⟩])
 .ret))))⟩
theorem c15 : compFunc Tryz.prog opts a15 Tryz.f15 = some t15 := by kernel_rfl
/-- pennant/core.Free -/
def a17 : Ann := { slots := [0, 1, 2, 3], lb := [1], mu := [], trunc := [], draws := [] }
def t17 : TFunc := ⟨1, 4, [.loc 2],
 (.seq (.region [⟨.boxL 1 (.loc 0), none, none⟩, ⟨.mov (.cst (.sl .nil [])), (some 2), none⟩])
 (.seq (.region [⟨.mkMap, none, none⟩, ⟨.mov (.reg 0), (some 3), none⟩])
 (.seq (.region [⟨.loadN 5 (.loc 1), none, none⟩, ⟨.mkMap, none, none⟩, ⟨.mov (.loc 3), none, none⟩, ⟨.call false false 49 [(.reg 0), (.reg 1), (.reg 2)], none, none⟩])
 (.seq (.region [⟨.mov (.loc 3), none, none⟩, ⟨.call false false 47 [(.reg 0)], none, none⟩, ⟨.mov (.reg 1), (some 2), none⟩])
 .ret))))⟩
theorem c17 : compFunc Tryz.prog opts a17 Tryz.f17 = some t17 := by kernel_rfl
/-- pennant/core.Same -/
def a19 : Ann := { slots := [0, 1, 2, 3, 4], lb := [3, 2], mu := [], trunc := [], draws := [] }
def t19 : TFunc := ⟨2, 5, [.loc 4],
 (.seq (.region [⟨.boxL 2 (.loc 0), none, none⟩, ⟨.boxL 3 (.loc 1), none, none⟩, ⟨.mov (.cst (.bool false)), (some 4), none⟩])
 (.seq (.region [⟨.fieldAddr 5 (.loc 2), none, none⟩, ⟨.load1 (.reg 0), none, none⟩, ⟨.fieldAddr 5 (.loc 3), none, none⟩, ⟨.load1 (.reg 2), none, none⟩, ⟨.bin .eql (.reg 1) (.reg 3), none, none⟩, ⟨.mov (.reg 4), none, none⟩, ⟨.fieldAddr 6 (.loc 2), none, (some (5, true))⟩, ⟨.load1 (.reg 6), none, (some (5, true))⟩, ⟨.fieldAddr 6 (.loc 3), none, (some (5, true))⟩, ⟨.load1 (.reg 8), none, (some (5, true))⟩, ⟨.bin .eql (.reg 7) (.reg 9), none, (some (5, true))⟩, ⟨.pick (.reg 5) (.reg 10) (.cst (.bool false)), none, none⟩, ⟨.mov (.reg 11), none, none⟩, ⟨.fieldAddr 7 (.loc 2), none, (some (12, true))⟩, ⟨.load1 (.reg 13), none, (some (12, true))⟩, ⟨.fieldAddr 7 (.loc 3), none, (some (12, true))⟩, ⟨.load1 (.reg 15), none, (some (12, true))⟩, ⟨.call false false 54 [(.reg 14), (.reg 16), (.fn 55)], none, (some (12, true))⟩, ⟨.pick (.reg 12) (.reg 17) (.cst (.bool false)), none, none⟩, ⟨.mov (.reg 18), none, none⟩, ⟨.fieldAddr 0 (.loc 2), none, (some (19, true))⟩, ⟨.loadN 5 (.reg 20), none, (some (19, true))⟩, ⟨.fieldAddr 0 (.loc 3), none, (some (19, true))⟩, ⟨.loadN 5 (.reg 22), none, (some (19, true))⟩, ⟨.call false false 56 [(.reg 21), (.reg 23)], none, (some (19, true))⟩, ⟨.pick (.reg 19) (.reg 24) (.cst (.bool false)), none, none⟩, ⟨.mov (.reg 25), (some 4), none⟩])
 .ret))⟩
theorem c19 : compFunc Tryz.prog opts a19 Tryz.f19 = some t19 := by kernel_rfl
/-- pennant/pennantlaw11.given -/
def a21 : Ann := { slots := [0, 1, 2, 3], lb := [3, 2, 1], mu := [(2, 5), (2, 9)], trunc := [], draws := [(2, ⟨[0, 0, 0, 6, 14, 31, 63, 0, 0, 384, 1023, 2047], [0, 2, 7, 8, 9], [(1, [0, 2], [3]), (4, [0], [5, 6, 10]), (11, [], [])]⟩)] }
def t21 : TFunc := ⟨1, 4, [.cell 2 8 true],
 (.seq (.region [⟨.boxL 1 (.loc 0), none, none⟩, ⟨.allocL 2 [(.int .i64 0), (.int .i64 0), (.sl .nil []), (.bool false), (.sl .nil []), (.int .i64 0), (.int .i64 0), (.sl .nil [])], none, none⟩])
 (.seq (.region [⟨.call false false 24 [], none, none⟩, ⟨.lit false [(.int .i64 0), (.int .i64 0), (.sl .nil []), (.bool false), (.sl .nil [])] 1 [(0, (.reg 0))], none, none⟩, ⟨.build [(.int .i64 0), (.int .i64 0), (.sl .nil []), (.bool false), (.sl .nil [])] [(0, 1, (.cst (.int .i64 5))), (4, 1, (.reg 1))], none, none⟩, ⟨.allocL 3 [(.int .i64 0), (.int .i64 0), (.sl .nil []), (.bool false), (.sl .nil [])], none, none⟩, ⟨.store 5 (.reg 3) (.reg 2), none, none⟩])
 (.seq (.draw [0, 2, 7, 8, 9] [(1, [0, 2], [3]), (4, [0], [5, 6, 10]), (11, [], [])] [⟨.loadN 5 (.loc 3), none, none⟩, ⟨.call false false 23 [(.cst (.int .i64 0))], none, none⟩, ⟨.loadN 5 (.loc 1), none, none⟩, ⟨.lit false [(.int .i64 0), (.int .i64 0), (.sl .nil []), (.bool false), (.sl .nil [])] 2 [(0, (.reg 1)), (1, (.reg 2))], none, none⟩, ⟨.call false false 59 [(.reg 3)], none, none⟩, ⟨.lit true [(.int .i64 0), (.int .i64 0), (.sl .nil []), (.bool false), (.sl .nil [])] 2 [(0, (.reg 0)), (1, (.reg 4))], none, none⟩, ⟨.build [(.int .i64 0), (.int .i64 0), (.sl .nil []), (.bool false), (.sl .nil [])] [(0, 1, (.cst (.int .i64 10))), (4, 1, (.reg 5))], none, none⟩, ⟨.build [(.int .i64 0), (.int .i64 0), (.str []), (.sl .nil []), (.int .i64 0)] [(0, 1, (.cst (.int .i64 2))), (2, 1, (.cst (.str [53])))], none, none⟩, ⟨.build [(.int .i64 0), (.int .i64 0), (.str []), (.sl .nil []), (.int .i64 0)] [(0, 1, (.cst (.int .i64 4))), (2, 1, (.cst (.str [97])))], none, none⟩, ⟨.lit true [(.int .i64 0), (.int .i64 0), (.str []), (.sl .nil []), (.int .i64 0)] 2 [(0, (.reg 7)), (1, (.reg 8))], none, none⟩, ⟨.build [(.int .i64 0), (.int .i64 0), (.sl .nil []), (.bool false), (.sl .nil []), (.int .i64 0), (.int .i64 0), (.sl .nil [])] [(0, 5, (.reg 6)), (5, 1, (.cst (.int .i64 1))), (6, 1, (.cst (.int .i64 2))), (7, 1, (.reg 9))], none, none⟩, ⟨.store 8 (.loc 2) (.reg 10), none, none⟩])
 .ret)))⟩
theorem c21 : compFunc Tryz.prog opts a21 Tryz.f21 = some t21 := by kernel_rfl
/-- pennant/pennantlaw11.constant -/
def a22 : Ann := { slots := [0, 2], lb := [2], mu := [], trunc := [], draws := [] }
def t22 : TFunc := ⟨1, 2, [.cell 1 5 true],
 (.seq (.region [⟨.allocL 1 [(.int .i64 0), (.int .i64 0), (.sl .nil []), (.bool false), (.sl .nil [])], none, none⟩])
 (.seq (.region [⟨.mov (.loc 0), none, none⟩, ⟨.build [(.int .i64 0), (.int .i64 0), (.sl .nil []), (.bool false), (.sl .nil [])] [(0, 1, (.cst (.int .i64 1))), (1, 1, (.reg 0))], none, none⟩, ⟨.store 5 (.loc 1) (.reg 1), none, none⟩])
 .ret))⟩
theorem c22 : compFunc Tryz.prog opts a22 Tryz.f22 = some t22 := by kernel_rfl
/-- pennant/pennantlaw11.global -/
def a23 : Ann := { slots := [0, 2], lb := [2], mu := [], trunc := [], draws := [] }
def t23 : TFunc := ⟨1, 2, [.cell 1 5 true],
 (.seq (.region [⟨.allocL 1 [(.int .i64 0), (.int .i64 0), (.sl .nil []), (.bool false), (.sl .nil [])], none, none⟩])
 (.seq (.region [⟨.mov (.loc 0), none, none⟩, ⟨.build [(.int .i64 0), (.int .i64 0), (.sl .nil []), (.bool false), (.sl .nil [])] [(0, 1, (.cst (.int .i64 3))), (1, 1, (.reg 0))], none, none⟩, ⟨.store 5 (.loc 1) (.reg 1), none, none⟩])
 .ret))⟩
theorem c23 : compFunc Tryz.prog opts a23 Tryz.f23 = some t23 := by kernel_rfl
/-- pennant/pennantlaw11.lambda -/
def a24 : Ann := { slots := [0, 1], lb := [1, 0], mu := [], trunc := [], draws := [] }
def t24 : TFunc := ⟨0, 2, [.cell 0 5 true],
 (.seq (.region [⟨.allocL 0 [(.int .i64 0), (.int .i64 0), (.sl .nil []), (.bool false), (.sl .nil [])], none, none⟩])
 (.seq (.region [⟨.call false false 25 [(.cst (.int .i64 0))], none, none⟩, ⟨.call false false 23 [(.cst (.int .i64 0))], none, none⟩, ⟨.call false false 25 [(.cst (.int .i64 1))], none, none⟩, ⟨.lit false [(.int .i64 0), (.int .i64 0), (.sl .nil []), (.bool false), (.sl .nil [])] 2 [(0, (.reg 1)), (1, (.reg 2))], none, none⟩, ⟨.call false false 59 [(.reg 3)], none, none⟩, ⟨.call false false 22 [(.cst (.int .i64 0))], none, none⟩, ⟨.lit false [(.int .i64 0), (.int .i64 0), (.sl .nil []), (.bool false), (.sl .nil [])] 3 [(0, (.reg 0)), (1, (.reg 4)), (2, (.reg 5))], none, none⟩, ⟨.build [(.int .i64 0), (.int .i64 0), (.sl .nil []), (.bool false), (.sl .nil [])] [(0, 1, (.cst (.int .i64 6))), (4, 1, (.reg 6))], none, none⟩, ⟨.allocL 1 [(.int .i64 0), (.int .i64 0), (.sl .nil []), (.bool false), (.sl .nil [])], none, none⟩, ⟨.store 5 (.reg 8) (.reg 7), none, none⟩])
 (.seq (.region [⟨.lit false [(.int .i64 0)] 2 [(0, (.cst (.int .i64 0))), (1, (.cst (.int .i64 1)))], none, none⟩, ⟨.loadN 5 (.loc 1), none, none⟩, ⟨.lit false [(.int .i64 0), (.int .i64 0), (.sl .nil []), (.bool false), (.sl .nil [])] 1 [(0, (.reg 1))], none, none⟩, ⟨.build [(.int .i64 0), (.int .i64 0), (.sl .nil []), (.bool false), (.sl .nil [])] [(0, 1, (.cst (.int .i64 7))), (2, 1, (.reg 0)), (3, 1, (.cst (.bool true))), (4, 1, (.reg 2))], none, none⟩, ⟨.store 5 (.loc 0) (.reg 3), none, none⟩])
 .ret)))⟩
theorem c24 : compFunc Tryz.prog opts a24 Tryz.f24 = some t24 := by kernel_rfl
/-- pennant/pennantlaw11.local -/
def a25 : Ann := { slots := [0, 2], lb := [2], mu := [], trunc := [], draws := [] }
def t25 : TFunc := ⟨1, 2, [.cell 1 5 true],
 (.seq (.region [⟨.allocL 1 [(.int .i64 0), (.int .i64 0), (.sl .nil []), (.bool false), (.sl .nil [])], none, none⟩])
 (.seq (.region [⟨.mov (.loc 0), none, none⟩, ⟨.build [(.int .i64 0), (.int .i64 0), (.sl .nil []), (.bool false), (.sl .nil [])] [(0, 1, (.cst (.int .i64 2))), (1, 1, (.reg 0))], none, none⟩, ⟨.store 5 (.loc 1) (.reg 1), none, none⟩])
 .ret))⟩
theorem c25 : compFunc Tryz.prog opts a25 Tryz.f25 = some t25 := by kernel_rfl
/-- pennant/core.Text -/
def a26 : Ann := { slots := [0, 1, 2, 3, 4, 5, 6, 8, 38, 43, 44, 54, 65, 83, 86, 87, 88, 89], lb := [8, 3, 1], mu := [(4, 2)], trunc := [], draws := [(9, ⟨[0, 1, 0, 4, 12, 31, 63], [0, 1, 2, 3], [(4, [1], [5, 6])]⟩), (12, ⟨[0, 1, 3, 0, 8, 24, 63, 127, 255], [0, 1, 2, 3, 4], [(5, [2], [6, 7]), (8, [], [])]⟩)] }
def t26 : TFunc := ⟨1, 18, [.loc 2],
 (.seq (.region [⟨.boxL 1 (.loc 0), none, none⟩, ⟨.mov (.cst (.str [])), (some 2), none⟩])
 (.seq (.region [⟨.loadN 5 (.loc 1), none, none⟩, ⟨.call false false 60 [(.reg 0)], none, none⟩, ⟨.mov (.reg 1), none, none⟩, ⟨.extract 0 (.reg 2), none, none⟩, ⟨.extract 1 (.reg 2), none, none⟩, ⟨.allocL 3 [(.bool false), (.int .i64 0), (.bool false), (.str [])], none, none⟩, ⟨.store 4 (.reg 5) (.reg 3), none, none⟩, ⟨.mov (.reg 4), (some 4), none⟩])
 (.seq (.seq (.region [⟨.mov (.loc 4), none, none⟩, ⟨.un .not (.reg 0), none, none⟩, ⟨.mov (.reg 1), none, none⟩, ⟨.fieldAddr 4 (.loc 1), none, (some (2, false))⟩, ⟨.load1 (.reg 3), none, (some (2, false))⟩, ⟨.len .sl (.reg 4), none, (some (2, false))⟩, ⟨.fieldAddr 1 (.loc 3), none, (some (2, false))⟩, ⟨.load1 (.reg 6), none, (some (2, false))⟩, ⟨.bin .lss (.reg 5) (.reg 7), none, (some (2, false))⟩, ⟨.pick (.reg 2) (.cst (.bool true)) (.reg 8), none, none⟩, ⟨.mov (.reg 9), none, none⟩, ⟨.fieldAddr 3 (.loc 1), none, (some (10, false))⟩, ⟨.load1 (.reg 11), none, (some (10, false))⟩, ⟨.mov (.reg 12), none, (some (10, false))⟩, ⟨.fieldAddr 0 (.loc 1), none, (some (13, true))⟩, ⟨.load1 (.reg 14), none, (some (13, true))⟩, ⟨.bin .eql (.reg 15) (.cst (.int .i64 7)), none, (some (13, true))⟩, ⟨.pick (.reg 13) (.reg 16) (.cst (.bool false)), none, (some (10, false))⟩, ⟨.mov (.reg 17), none, (some (10, false))⟩, ⟨.fieldAddr 2 (.loc 1), none, (some (18, true))⟩, ⟨.load1 (.reg 19), none, (some (18, true))⟩, ⟨.len .sl (.reg 20), none, (some (18, true))⟩, ⟨.bin .eql (.reg 21) (.cst (.int .i64 0)), none, (some (18, true))⟩, ⟨.pick (.reg 18) (.reg 22) (.cst (.bool false)), none, (some (10, false))⟩, ⟨.pick (.reg 10) (.cst (.bool true)) (.reg 23), (some 8), none⟩])
 (.cond (.loc 8)
  (.seq (.region [⟨.mov (.cst (.str [63])), (some 2), none⟩])
  .ret)
  .skip))
 (.seq (.region [⟨.fieldAddr 3 (.loc 3), none, none⟩, ⟨.load1 (.reg 0), none, none⟩, ⟨.lit true [(.str [])] 1 [(0, (.reg 1))], none, none⟩, ⟨.mov (.reg 2), (some 5), none⟩])
 (.seq (.seq (.region [⟨.fieldAddr 0 (.loc 1), none, none⟩, ⟨.load1 (.reg 0), (some 9), none⟩])
 (.block 0
  (.seq (.seq (.region [⟨.bin .eql (.loc 9) (.cst (.int .i64 1)), none, none⟩, ⟨.mov (.reg 0), (some 10), none⟩])
  (.cond (.loc 10)
   .skip
   (.seq (.region [⟨.bin .eql (.loc 9) (.cst (.int .i64 2)), none, none⟩, ⟨.mov (.reg 0), (some 10), none⟩])
   (.cond (.loc 10)
    .skip
    (.region [⟨.bin .eql (.loc 9) (.cst (.int .i64 3)), none, none⟩, ⟨.mov (.reg 0), (some 10), none⟩])))))
  (.cond (.loc 10)
   (.seq (.draw [0, 1, 2, 3] [(4, [1], [5, 6])] [⟨.fieldAddr 3 (.loc 3), none, none⟩, ⟨.load1 (.reg 0), none, none⟩, ⟨.fieldAddr 1 (.loc 1), none, none⟩, ⟨.load1 (.reg 2), none, none⟩, ⟨.call true false 61 [(.reg 3)], none, none⟩, ⟨.bin .add (.reg 1) (.reg 4), none, none⟩, ⟨.mov (.reg 5), (some 2), none⟩])
   .ret)
   (.seq (.seq (.region [⟨.bin .eql (.loc 9) (.cst (.int .i64 4)), none, none⟩, ⟨.mov (.reg 0), (some 11), none⟩])
   (.cond (.loc 11)
    .skip
    (.region [⟨.bin .eql (.loc 9) (.cst (.int .i64 5)), none, none⟩, ⟨.mov (.reg 0), (some 11), none⟩])))
   (.cond (.loc 11)
    (.draw [0, 1, 2, 3, 4] [(5, [2], [6, 7]), (8, [], [])] [⟨.mov (.loc 5), none, none⟩, ⟨.indexAddrS 1 (.reg 0) (.cst (.int .i64 0)), none, none⟩, ⟨.load1 (.reg 1), none, none⟩, ⟨.fieldAddr 1 (.loc 1), none, none⟩, ⟨.load1 (.reg 3), none, none⟩, ⟨.call true false 61 [(.reg 4)], none, none⟩, ⟨.bin .add (.reg 2) (.reg 5), none, none⟩, ⟨.indexAddrS 1 (.reg 0) (.cst (.int .i64 0)), none, none⟩, ⟨.store 1 (.reg 7) (.reg 6), none, none⟩])
    (.seq (.region [⟨.bin .eql (.loc 9) (.cst (.int .i64 7)), none, none⟩, ⟨.mov (.reg 0), (some 12), none⟩])
    (.cond (.loc 12)
     (.region [⟨.mov (.loc 5), none, none⟩, ⟨.loadN 5 (.loc 1), none, none⟩, ⟨.call false false 62 [(.reg 1)], none, none⟩, ⟨.lit false [(.str [])] 1 [(0, (.reg 2))], none, none⟩, ⟨.append false 1 16 9 (.reg 0) (.reg 3), none, none⟩, ⟨.mov (.reg 4), (some 5), none⟩])
     .skip))))))))
 (.seq (.region [⟨.fieldAddr 4 (.loc 1), none, none⟩, ⟨.load1 (.reg 0), none, none⟩, ⟨.fieldAddr 1 (.loc 3), none, none⟩, ⟨.load1 (.reg 2), none, none⟩, ⟨.slice (.sl 5) (.reg 1) none (some (.reg 3)) none, none, none⟩, ⟨.mov (.reg 4), (some 6), none⟩])
 (.seq (.seq (.region [⟨.fieldAddr 2 (.loc 3), none, none⟩, ⟨.load1 (.reg 0), none, none⟩, ⟨.mov (.reg 1), none, none⟩, ⟨.fieldAddr 0 (.loc 1), none, (some (2, false))⟩, ⟨.load1 (.reg 3), none, (some (2, false))⟩, ⟨.bin .eql (.reg 4) (.cst (.int .i64 9)), none, (some (2, false))⟩, ⟨.pick (.reg 2) (.cst (.bool true)) (.reg 5), (some 13), none⟩])
 (.cond (.loc 13)
  (.region [⟨.fieldAddr 4 (.loc 1), none, none⟩, ⟨.load1 (.reg 0), none, none⟩, ⟨.mov (.reg 1), (some 6), none⟩])
  .skip))
 (.seq (.seq (.region [⟨.mov (.loc 6), (some 14), none⟩, ⟨.len .sl (.reg 0), (some 15), none⟩, ⟨.mov (.cst (.int .i64 0)), (some 16), none⟩])
 (.block 1
  (.loop
   (.seq (.region [⟨.bin .lss (.loc 16) (.loc 15), (some 17), none⟩])
   (.seq (.cond (.loc 17)
    .skip
    (.exit 1))
   (.seq (.block 2
    (.seq (.region [⟨.indexAddrS 5 (.loc 14) (.loc 16), none, none⟩, ⟨.loadN 5 (.reg 0), none, none⟩, ⟨.allocL 7 [(.int .i64 0), (.int .i64 0), (.sl .nil []), (.bool false), (.sl .nil [])], none, none⟩, ⟨.store 5 (.reg 2) (.reg 1), none, none⟩])
    (.region [⟨.mov (.loc 5), none, none⟩, ⟨.loadN 5 (.loc 7), none, none⟩, ⟨.call false false 26 [(.reg 1)], none, none⟩, ⟨.lit false [(.str [])] 1 [(0, (.reg 2))], none, none⟩, ⟨.append false 1 16 9 (.reg 0) (.reg 3), none, none⟩, ⟨.mov (.reg 4), (some 5), none⟩])))
   (.region [⟨.bin .add (.loc 16) (.cst (.int .i64 1)), none, none⟩, ⟨.mov (.reg 0), (some 16), none⟩])))))))
 (.seq (.region [⟨.mov (.loc 5), none, none⟩, ⟨.call true false 63 [(.reg 0), (.cst (.str [32]))], none, none⟩, ⟨.bin .add (.cst (.str [40])) (.reg 1), none, none⟩, ⟨.bin .add (.reg 2) (.cst (.str [41])), none, none⟩, ⟨.mov (.reg 3), (some 2), none⟩])
 .ret)))))))))⟩
theorem c26 : compFunc Tryz.prog opts a26 Tryz.f26 = some t26 := by kernel_rfl
/-- pennant/core.Write -/
def a27 : Ann := { slots := [0, 1, 2, 3, 4, 5, 17, 18, 19, 20], lb := [5, 1], mu := [], trunc := [], draws := [(2, ⟨[0, 1, 3, 7, 15, 0, 32, 103, 255, 511], [0, 1, 5, 6], [(2, [6], [3, 4]), (7, [], [8]), (9, [], [])]⟩), (6, ⟨[0, 1, 3, 7, 0, 19, 63, 127], [0, 4], [(1, [4], [2, 3]), (5, [], [6]), (7, [], [])]⟩)] }
def t27 : TFunc := ⟨1, 10, [.loc 2],
 (.seq (.region [⟨.boxL 1 (.loc 0), none, none⟩, ⟨.mov (.cst (.str [])), (some 2), none⟩])
 (.seq (.region [⟨.allocH 86 [.nilp, (.sl .nil [])], (some 3), none⟩])
 (.seq (.draw [0, 1, 5, 6] [(2, [6], [3, 4]), (7, [], [8]), (9, [], [])] [⟨.fieldAddr 5 (.loc 1), none, none⟩, ⟨.load1 (.reg 0), none, none⟩, ⟨.call true false 61 [(.reg 1)], none, none⟩, ⟨.bin .add (.cst (.str [103, 108, 111, 98, 97, 108, 115, 32])) (.reg 2), none, none⟩, ⟨.bin .add (.reg 3) (.cst (.str [32, 118, 97, 114, 115, 32])), none, none⟩, ⟨.fieldAddr 6 (.loc 1), none, none⟩, ⟨.load1 (.reg 5), none, none⟩, ⟨.call true false 61 [(.reg 6)], none, none⟩, ⟨.bin .add (.reg 4) (.reg 7), none, none⟩, ⟨.call false false 64 [(.loc 3), (.reg 8)], none, none⟩])
 (.seq (.seq (.region [⟨.fieldAddr 7 (.loc 1), none, none⟩, ⟨.load1 (.reg 0), (some 6), none⟩, ⟨.len .sl (.reg 1), (some 7), none⟩, ⟨.mov (.cst (.int .i64 0)), (some 8), none⟩])
 (.block 0
  (.loop
   (.seq (.region [⟨.bin .lss (.loc 8) (.loc 7), (some 9), none⟩])
   (.seq (.cond (.loc 9)
    .skip
    (.exit 0))
   (.seq (.block 1
    (.seq (.region [⟨.mov (.loc 8), none, none⟩, ⟨.indexAddrS 5 (.loc 6) (.loc 8), none, none⟩, ⟨.loadN 5 (.reg 1), none, none⟩, ⟨.allocL 5 [(.int .i64 0), (.int .i64 0), (.str []), (.sl .nil []), (.int .i64 0)], none, none⟩, ⟨.mov (.reg 0), (some 4), none⟩, ⟨.store 5 (.reg 3) (.reg 2), none, none⟩])
    (.draw [0, 4] [(1, [4], [2, 3]), (5, [], [6]), (7, [], [])] [⟨.mov (.loc 4), none, none⟩, ⟨.call true false 61 [(.reg 0)], none, none⟩, ⟨.bin .add (.cst (.str [10, 99])) (.reg 1), none, none⟩, ⟨.bin .add (.reg 2) (.cst (.str [32])), none, none⟩, ⟨.loadN 5 (.loc 5), none, none⟩, ⟨.call false false 65 [(.reg 4), (.cst (.bool false))], none, none⟩, ⟨.bin .add (.reg 3) (.reg 5), none, none⟩, ⟨.call false false 64 [(.loc 3), (.reg 6)], none, none⟩])))
   (.region [⟨.bin .add (.loc 8) (.cst (.int .i64 1)), none, none⟩, ⟨.mov (.reg 0), (some 8), none⟩])))))))
 (.seq (.region [⟨.fieldAddr 0 (.loc 1), none, none⟩, ⟨.loadN 5 (.reg 0), none, none⟩, ⟨.call false false 26 [(.reg 1)], none, none⟩, ⟨.bin .add (.cst (.str [10])) (.reg 2), none, none⟩, ⟨.call false false 64 [(.loc 3), (.reg 3)], none, none⟩])
 (.seq (.region [⟨.prim 66 [(.loc 3)], none, none⟩, ⟨.mov (.reg 0), (some 2), none⟩])
 .ret))))))⟩
theorem c27 : compFunc Tryz.prog opts a27 Tryz.f27 = some t27 := by kernel_rfl
/-- pennant/pennantlaw15.awake -/
def a29 : Ann := { slots := [0], lb := [], mu := [], trunc := [], draws := [] }
def t29 : TFunc := ⟨0, 1, [.loc 0],
 (.seq (.region [⟨.mov (.cst (.bool false)), (some 0), none⟩])
 (.seq (.region [⟨.call false false 69 [], none, none⟩, ⟨.call false false 34 [(.cst (.int .i64 1)), (.reg 0)], none, none⟩, ⟨.call false false 36 [(.reg 1), (.cst (.str [40, 108, 97, 109, 98, 100, 97, 32, 40, 118, 49, 41, 32, 40, 99, 97, 108, 108, 32, 40, 108, 97, 109, 98, 100, 97, 32, 40, 118, 48, 41, 32, 40, 98, 101, 103, 105, 110, 32, 40, 115, 101, 116, 45, 98, 111, 120, 33, 32, 118, 48, 32, 99, 48, 41, 32, 40, 117, 110, 98, 111, 120, 32, 118, 48, 41, 41, 41, 32, 40, 98, 111, 120, 32, 118, 49, 41, 41, 41]))], none, none⟩, ⟨.mov (.reg 2), (some 0), none⟩])
 .ret))⟩
theorem c29 : compFunc Tryz.prog opts a29 Tryz.f29 = some t29 := by kernel_rfl
/-- pennant/box.Convert -/
def a31 : Ann := { slots := [0, 1, 2, 3, 4, 5, 7, 8, 12, 17, 26, 27, 28, 29], lb := [8, 2, 1], mu := [], trunc := [], draws := [(13, ⟨[0, 0, 2, 0, 8, 24, 56, 0, 128, 384, 1023, 2047, 4095], [0, 1, 2, 3, 4, 5, 6, 7, 8], [(9, [0, 2, 6], [10]), (11, [], [12])]⟩)] }
def t31 : TFunc := ⟨1, 14, [.cell 2 8 true, .loc 3],
 (.seq (.region [⟨.boxL 1 (.loc 0), none, none⟩, ⟨.allocL 2 [(.int .i64 0), (.int .i64 0), (.sl .nil []), (.bool false), (.sl .nil []), (.int .i64 0), (.int .i64 0), (.sl .nil [])], none, none⟩, ⟨.mov (.cst (.int .i64 0)), (some 3), none⟩])
 (.seq (.seq (.region [⟨.loadN 8 (.loc 1), none, none⟩, ⟨.call false false 13 [(.reg 0)], none, none⟩, ⟨.mov (.reg 1), (some 4), none⟩])
 (.seq (.region [⟨.mov (.loc 4), none, none⟩, ⟨.bin .neq (.reg 0) (.cst (.int .i64 0)), (some 8), none⟩])
 (.cond (.loc 8)
  (.seq (.region [⟨.build [(.int .i64 0), (.int .i64 0), (.sl .nil []), (.bool false), (.sl .nil []), (.int .i64 0), (.int .i64 0), (.sl .nil [])] [], none, none⟩, ⟨.mov (.loc 4), none, none⟩, ⟨.store 8 (.loc 2) (.reg 0), none, none⟩, ⟨.mov (.reg 1), (some 3), none⟩])
  .ret)
  .skip)))
 (.seq (.seq (.region [⟨.fieldAddr 0 (.loc 1), none, none⟩, ⟨.loadN 5 (.reg 0), none, none⟩, ⟨.call false false 73 [(.reg 1)], (some 9), none⟩])
 (.cond (.loc 9)
  (.seq (.region [⟨.build [(.int .i64 0), (.int .i64 0), (.sl .nil []), (.bool false), (.sl .nil []), (.int .i64 0), (.int .i64 0), (.sl .nil [])] [], none, none⟩, ⟨.store 8 (.loc 2) (.reg 0), none, none⟩, ⟨.mov (.cst (.int .i64 2)), (some 3), none⟩])
  .ret)
  .skip))
 (.seq (.region [⟨.mkMap, none, none⟩, ⟨.fieldAddr 6 (.loc 1), none, none⟩, ⟨.load1 (.reg 1), none, none⟩, ⟨.build [.nilm, (.int .i64 0)] [(0, 1, (.reg 0)), (1, 1, (.reg 2))], none, none⟩, ⟨.boxH 96 (.reg 3), none, none⟩, ⟨.mov (.reg 4), (some 5), none⟩])
 (.seq (.seq (.region [⟨.fieldAddr 0 (.loc 1), none, none⟩, ⟨.loadN 5 (.reg 0), none, none⟩, ⟨.call false false 14 [(.reg 1)], (some 10), none⟩, ⟨.len .sl (.reg 2), (some 11), none⟩, ⟨.mov (.cst (.int .i64 0)), (some 12), none⟩])
 (.block 0
  (.loop
   (.seq (.region [⟨.bin .lss (.loc 12) (.loc 11), (some 13), none⟩])
   (.seq (.cond (.loc 13)
    .skip
    (.exit 0))
   (.seq (.block 1
    (.seq (.region [⟨.indexAddrS 1 (.loc 10) (.loc 12), none, none⟩, ⟨.load1 (.reg 0), none, none⟩, ⟨.mov (.reg 1), (some 6), none⟩])
    (.region [⟨.mov (.loc 5), none, none⟩, ⟨.nilCheck (.reg 0), none, none⟩, ⟨.fieldAddr 0 (.reg 1), none, none⟩, ⟨.load1 (.reg 2), none, none⟩, ⟨.mov (.loc 6), none, none⟩, ⟨.build [(.int .i64 0)] [], none, none⟩, ⟨.update (.leaf .int) (.reg 3) (.reg 4) (.reg 5), none, none⟩])))
   (.region [⟨.bin .add (.loc 12) (.cst (.int .i64 1)), none, none⟩, ⟨.mov (.reg 0), (some 12), none⟩])))))))
 (.seq (.region [⟨.mov (.loc 5), none, none⟩, ⟨.fieldAddr 0 (.loc 1), none, none⟩, ⟨.loadN 5 (.reg 1), none, none⟩, ⟨.call false false 74 [(.reg 0), (.reg 2)], none, none⟩, ⟨.allocL 7 [(.int .i64 0), (.int .i64 0), (.sl .nil []), (.bool false), (.sl .nil [])], none, none⟩, ⟨.store 5 (.reg 4) (.reg 3), none, none⟩])
 (.seq (.draw [0, 1, 2, 3, 4, 5, 6, 7, 8] [(9, [0, 2, 6], [10]), (11, [], [12])] [⟨.loadN 5 (.loc 7), none, none⟩, ⟨.fieldAddr 5 (.loc 1), none, none⟩, ⟨.load1 (.reg 1), none, none⟩, ⟨.mov (.loc 5), none, none⟩, ⟨.nilCheck (.reg 3), none, none⟩, ⟨.fieldAddr 1 (.reg 4), none, none⟩, ⟨.load1 (.reg 5), none, none⟩, ⟨.fieldAddr 7 (.loc 1), none, none⟩, ⟨.load1 (.reg 7), none, none⟩, ⟨.call false false 75 [(.reg 8)], none, none⟩, ⟨.build [(.int .i64 0), (.int .i64 0), (.sl .nil []), (.bool false), (.sl .nil []), (.int .i64 0), (.int .i64 0), (.sl .nil [])] [(0, 5, (.reg 0)), (5, 1, (.reg 2)), (6, 1, (.reg 6)), (7, 1, (.reg 9))], none, none⟩, ⟨.store 8 (.loc 2) (.reg 10), none, none⟩, ⟨.mov (.cst (.int .i64 0)), (some 3), none⟩])
 .ret)))))))⟩
theorem c31 : compFunc Tryz.prog opts a31 Tryz.f31 = some t31 := by kernel_rfl
/-- pennant/pennantlaw15.local -/
def a33 : Ann := { slots := [0, 2], lb := [2], mu := [], trunc := [], draws := [] }
def t33 : TFunc := ⟨1, 2, [.cell 1 5 true],
 (.seq (.region [⟨.allocL 1 [(.int .i64 0), (.int .i64 0), (.sl .nil []), (.bool false), (.sl .nil [])], none, none⟩])
 (.seq (.region [⟨.mov (.loc 0), none, none⟩, ⟨.build [(.int .i64 0), (.int .i64 0), (.sl .nil []), (.bool false), (.sl .nil [])] [(0, 1, (.cst (.int .i64 2))), (1, 1, (.reg 0))], none, none⟩, ⟨.store 5 (.loc 1) (.reg 1), none, none⟩])
 .ret))⟩
theorem c33 : compFunc Tryz.prog opts a33 Tryz.f33 = some t33 := by kernel_rfl
/-- pennant/pennantlaw15.of -/
def a34 : Ann := { slots := [0, 1, 3, 4], lb := [4, 3], mu := [], trunc := [], draws := [] }
def t34 : TFunc := ⟨2, 4, [.cell 3 8 true],
 (.seq (.region [⟨.boxL 2 (.loc 1), none, none⟩, ⟨.allocL 3 [(.int .i64 0), (.int .i64 0), (.sl .nil []), (.bool false), (.sl .nil []), (.int .i64 0), (.int .i64 0), (.sl .nil [])], none, none⟩])
 (.seq (.region [⟨.loadN 5 (.loc 2), none, none⟩, ⟨.mov (.loc 0), none, none⟩, ⟨.build [(.int .i64 0), (.int .i64 0), (.str []), (.sl .nil []), (.int .i64 0)] [(0, 1, (.cst (.int .i64 0)))], none, none⟩, ⟨.lit false [(.int .i64 0), (.int .i64 0), (.str []), (.sl .nil []), (.int .i64 0)] 1 [(0, (.reg 2))], none, none⟩, ⟨.build [(.int .i64 0), (.int .i64 0), (.sl .nil []), (.bool false), (.sl .nil []), (.int .i64 0), (.int .i64 0), (.sl .nil [])] [(0, 5, (.reg 0)), (6, 1, (.reg 1)), (7, 1, (.reg 3))], none, none⟩, ⟨.store 8 (.loc 3) (.reg 4), none, none⟩])
 .ret))⟩
theorem c34 : compFunc Tryz.prog opts a34 Tryz.f34 = some t34 := by kernel_rfl
/-- pennant/pennantlaw15.constant -/
def a35 : Ann := { slots := [0, 2], lb := [2], mu := [], trunc := [], draws := [] }
def t35 : TFunc := ⟨1, 2, [.cell 1 5 true],
 (.seq (.region [⟨.allocL 1 [(.int .i64 0), (.int .i64 0), (.sl .nil []), (.bool false), (.sl .nil [])], none, none⟩])
 (.seq (.region [⟨.mov (.loc 0), none, none⟩, ⟨.build [(.int .i64 0), (.int .i64 0), (.sl .nil []), (.bool false), (.sl .nil [])] [(0, 1, (.cst (.int .i64 1))), (1, 1, (.reg 0))], none, none⟩, ⟨.store 5 (.loc 1) (.reg 1), none, none⟩])
 .ret))⟩
theorem c35 : compFunc Tryz.prog opts a35 Tryz.f35 = some t35 := by kernel_rfl
/-- pennant/pennantlaw15.is -/
def a36 : Ann := { slots := [0, 1, 2, 4, 5, 6], lb := [5, 2], mu := [], trunc := [], draws := [] }
def t36 : TFunc := ⟨2, 6, [.loc 3],
 (.seq (.region [⟨.boxL 2 (.loc 0), none, none⟩, ⟨.mov (.cst (.bool false)), (some 3), none⟩])
 (.seq (.region [⟨.loadN 8 (.loc 2), none, none⟩, ⟨.call false false 31 [(.reg 0)], none, none⟩, ⟨.mov (.reg 1), none, none⟩, ⟨.extract 0 (.reg 2), none, none⟩, ⟨.extract 1 (.reg 2), none, none⟩, ⟨.allocL 4 [(.int .i64 0), (.int .i64 0), (.sl .nil []), (.bool false), (.sl .nil []), (.int .i64 0), (.int .i64 0), (.sl .nil [])], none, none⟩, ⟨.store 8 (.reg 5) (.reg 3), none, none⟩, ⟨.mov (.reg 4), (some 5), none⟩])
 (.seq (.region [⟨.mov (.loc 5), none, none⟩, ⟨.bin .eql (.reg 0) (.cst (.int .i64 0)), none, none⟩, ⟨.mov (.reg 1), none, none⟩, ⟨.fieldAddr 0 (.loc 4), none, (some (2, true))⟩, ⟨.loadN 5 (.reg 3), none, (some (2, true))⟩, ⟨.call false false 26 [(.reg 4)], none, (some (2, true))⟩, ⟨.mov (.loc 1), none, (some (2, true))⟩, ⟨.bin .eql (.reg 5) (.reg 6), none, (some (2, true))⟩, ⟨.pick (.reg 2) (.reg 7) (.cst (.bool false)), none, none⟩, ⟨.mov (.reg 8), (some 3), none⟩])
 .ret)))⟩
theorem c36 : compFunc Tryz.prog opts a36 Tryz.f36 = some t36 := by kernel_rfl
/-- pennant/pennantlaw15.second -/
def a37 : Ann := { slots := [0], lb := [0], mu := [], trunc := [], draws := [] }
def t37 : TFunc := ⟨0, 1, [.cell 0 5 true],
 (.seq (.region [⟨.allocL 0 [(.int .i64 0), (.int .i64 0), (.sl .nil []), (.bool false), (.sl .nil [])], none, none⟩])
 (.seq (.region [⟨.lit false [(.int .i64 0)] 2 [(0, (.cst (.int .i64 0))), (1, (.cst (.int .i64 1)))], none, none⟩, ⟨.call false false 33 [(.cst (.int .i64 0))], none, none⟩, ⟨.lit false [(.int .i64 0), (.int .i64 0), (.sl .nil []), (.bool false), (.sl .nil [])] 1 [(0, (.reg 1))], none, none⟩, ⟨.build [(.int .i64 0), (.int .i64 0), (.sl .nil []), (.bool false), (.sl .nil [])] [(0, 1, (.cst (.int .i64 4))), (1, 1, (.cst (.int .i64 1))), (4, 1, (.reg 2))], none, none⟩, ⟨.lit false [(.int .i64 0), (.int .i64 0), (.sl .nil []), (.bool false), (.sl .nil [])] 1 [(0, (.reg 3))], none, none⟩, ⟨.build [(.int .i64 0), (.int .i64 0), (.sl .nil []), (.bool false), (.sl .nil [])] [(0, 1, (.cst (.int .i64 7))), (2, 1, (.reg 0)), (3, 1, (.cst (.bool true))), (4, 1, (.reg 4))], none, none⟩, ⟨.store 5 (.loc 0) (.reg 5), none, none⟩])
 .ret))⟩
theorem c37 : compFunc Tryz.prog opts a37 Tryz.f37 = some t37 := by kernel_rfl
/-- pennant/core.Size -/
def a41 : Ann := { slots := [0, 1, 2], lb := [1], mu := [], trunc := [], draws := [] }
def t41 : TFunc := ⟨1, 3, [.cell 2 1 false],
 (.seq (.region [⟨.boxL 1 (.loc 0), none, none⟩, ⟨.allocH 4 [(.int .i64 0)], (some 2), none⟩])
 (.seq (.region [⟨.loadN 5 (.loc 1), none, none⟩, ⟨.mkFn 81 [] [(.loc 2)], none, none⟩, ⟨.call false false 45 [(.reg 0), (.reg 1)], none, none⟩])
 (.seq (.region [⟨.load1 (.loc 2), none, none⟩, ⟨.store 1 (.loc 2) (.reg 0), none, none⟩])
 .ret)))⟩
theorem c41 : compFunc Tryz.prog opts a41 Tryz.f41 = some t41 := by kernel_rfl
/-- pennant/datum.May -/
def a42 : Ann := { slots := [0, 1, 2, 4, 10, 17], lb := [1], mu := [], trunc := [], draws := [] }
def t42 : TFunc := ⟨1, 6, [.loc 2],
 (.seq (.region [⟨.boxL 1 (.loc 0), none, none⟩, ⟨.mov (.cst (.bool false)), (some 2), none⟩])
 (.seq (.block 0
  (.loop
   (.seq (.seq (.region [⟨.loadN 5 (.loc 1), none, none⟩, ⟨.call false false 82 [(.reg 0)], (some 3), none⟩])
   (.cond (.loc 3)
    .skip
    (.exit 0)))
   (.block 1
    (.seq (.seq (.region [⟨.fieldAddr 3 (.loc 1), none, none⟩, ⟨.load1 (.reg 0), none, none⟩, ⟨.indexAddrS 5 (.reg 1) (.cst (.int .i64 0)), none, none⟩, ⟨.loadN 5 (.reg 2), none, none⟩, ⟨.call false false 42 [(.reg 3)], none, none⟩, ⟨.un .not (.reg 4), (some 4), none⟩])
    (.cond (.loc 4)
     (.seq (.region [⟨.mov (.cst (.bool false)), (some 2), none⟩])
     .ret)
     .skip))
    (.region [⟨.fieldAddr 3 (.loc 1), none, none⟩, ⟨.load1 (.reg 0), none, none⟩, ⟨.indexAddrS 5 (.reg 1) (.cst (.int .i64 1)), none, none⟩, ⟨.loadN 5 (.reg 2), none, none⟩, ⟨.store 5 (.loc 1) (.reg 3), none, none⟩]))))))
 (.seq (.seq (.region [⟨.fieldAddr 0 (.loc 1), none, none⟩, ⟨.load1 (.reg 0), none, none⟩, ⟨.bin .eql (.reg 1) (.cst (.int .i64 7)), (some 5), none⟩])
 (.cond (.loc 5)
  (.seq (.region [⟨.fieldAddr 3 (.loc 1), none, none⟩, ⟨.load1 (.reg 0), none, none⟩, ⟨.call false false 83 [(.reg 1), (.fn 84)], none, none⟩, ⟨.un .not (.reg 2), none, none⟩, ⟨.mov (.reg 3), (some 2), none⟩])
  .ret)
  .skip))
 (.seq (.region [⟨.fieldAddr 3 (.loc 1), none, none⟩, ⟨.load1 (.reg 0), none, none⟩, ⟨.len .sl (.reg 1), none, none⟩, ⟨.bin .eql (.reg 2) (.cst (.int .i64 0)), none, none⟩, ⟨.mov (.reg 3), none, none⟩, ⟨.loadN 5 (.loc 1), none, (some (4, true))⟩, ⟨.call false false 85 [(.reg 5)], none, (some (4, true))⟩, ⟨.pick (.reg 4) (.reg 6) (.cst (.bool false)), none, none⟩, ⟨.mov (.reg 7), (some 2), none⟩])
 .ret))))⟩
theorem c42 : compFunc Tryz.prog opts a42 Tryz.f42 = some t42 := by kernel_rfl
/-- pennant/core.plain -/
def a43 : Ann := { slots := [0, 1, 2, 11, 17, 29], lb := [1], mu := [], trunc := [], draws := [] }
def t43 : TFunc := ⟨1, 6, [.loc 2],
 (.seq (.region [⟨.boxL 1 (.loc 0), none, none⟩, ⟨.mov (.cst (.bool false)), (some 2), none⟩])
 (.seq (.block 0
  (.loop
   (.seq (.seq (.region [⟨.fieldAddr 0 (.loc 1), none, none⟩, ⟨.load1 (.reg 0), none, none⟩, ⟨.bin .eql (.reg 1) (.cst (.int .i64 6)), none, none⟩, ⟨.mov (.reg 2), none, none⟩, ⟨.fieldAddr 3 (.loc 1), none, (some (3, true))⟩, ⟨.load1 (.reg 4), none, (some (3, true))⟩, ⟨.len .sl (.reg 5), none, (some (3, true))⟩, ⟨.bin .eql (.reg 6) (.cst (.int .i64 2)), none, (some (3, true))⟩, ⟨.pick (.reg 3) (.reg 7) (.cst (.bool false)), (some 3), none⟩])
   (.cond (.loc 3)
    .skip
    (.exit 0)))
   (.block 1
    (.seq (.seq (.region [⟨.fieldAddr 3 (.loc 1), none, none⟩, ⟨.load1 (.reg 0), none, none⟩, ⟨.indexAddrS 5 (.reg 1) (.cst (.int .i64 0)), none, none⟩, ⟨.loadN 5 (.reg 2), none, none⟩, ⟨.call false false 43 [(.reg 3)], none, none⟩, ⟨.un .not (.reg 4), (some 4), none⟩])
    (.cond (.loc 4)
     (.seq (.region [⟨.mov (.cst (.bool false)), (some 2), none⟩])
     .ret)
     .skip))
    (.region [⟨.fieldAddr 3 (.loc 1), none, none⟩, ⟨.load1 (.reg 0), none, none⟩, ⟨.indexAddrS 5 (.reg 1) (.cst (.int .i64 1)), none, none⟩, ⟨.loadN 5 (.reg 2), none, none⟩, ⟨.store 5 (.loc 1) (.reg 3), none, none⟩]))))))
 (.seq (.seq (.region [⟨.fieldAddr 0 (.loc 1), none, none⟩, ⟨.load1 (.reg 0), none, none⟩, ⟨.bin .eql (.reg 1) (.cst (.int .i64 5)), none, none⟩, ⟨.mov (.reg 2), none, none⟩, ⟨.fieldAddr 1 (.loc 1), none, (some (3, true))⟩, ⟨.load1 (.reg 4), none, (some (3, true))⟩, ⟨.bin .neq (.reg 5) (.cst (.int .i64 0)), none, (some (3, true))⟩, ⟨.pick (.reg 3) (.reg 6) (.cst (.bool false)), (some 5), none⟩])
 (.cond (.loc 5)
  (.seq (.region [⟨.mov (.cst (.bool false)), (some 2), none⟩])
  .ret)
  .skip))
 (.seq (.region [⟨.fieldAddr 3 (.loc 1), none, none⟩, ⟨.load1 (.reg 0), none, none⟩, ⟨.call false false 83 [(.reg 1), (.fn 86)], none, none⟩, ⟨.un .not (.reg 2), none, none⟩, ⟨.mov (.reg 3), (some 2), none⟩])
 .ret))))⟩
theorem c43 : compFunc Tryz.prog opts a43 Tryz.f43 = some t43 := by kernel_rfl
/-- (*pennant/core.checker).expr -/
def a44 : Ann := { slots := [0, 1, 2, 4, 6, 8, 10, 11, 13, 14, 17, 23, 24, 25, 26, 36, 52, 61, 87, 89, 90, 91, 92, 101, 105, 106, 107, 108], lb := [10, 4], mu := [], trunc := [], draws := [(14, ⟨[0, 1, 3, 7, 0, 16, 63, 127, 255], [0, 1, 2, 3, 4, 5, 6, 7, 8], []⟩), (16, ⟨[0, 1, 3, 7, 0, 16, 0, 127], [0, 1, 2, 3, 4, 5, 6], [(7, [], [])]⟩), (17, ⟨[0, 1, 3, 7, 15, 31, 63, 127, 255, 511, 1023, 2047, 4095, 511, 8703, 32767, 65535, 131071, 262143], [0, 1, 2, 3, 4, 5, 6, 7, 8, 9, 10, 11, 12, 13, 14, 15, 16, 17, 18], []⟩)] }
def t44 : TFunc := ⟨3, 28, [.loc 4],
 (.seq (.region [⟨.boxL 3 (.loc 1), none, none⟩, ⟨.mov (.cst (.int .i64 0)), (some 4), none⟩])
 (.seq (.block 0
  (.seq (.region [⟨.mov (.loc 2), none, none⟩, ⟨.bin .geq (.reg 0) (.cst (.int .i64 4000)), none, none⟩, ⟨.mov (.reg 1), (some 9), none⟩])
  (.cond (.loc 9)
   (.seq (.region [⟨.mov (.cst (.int .i64 5)), (some 4), none⟩])
   .ret)
   (.seq (.region [⟨.mov (.loc 0), none, none⟩, ⟨.loadN 5 (.loc 3), none, none⟩, ⟨.call false false 87 [(.reg 0), (.reg 1)], none, none⟩, ⟨.un .not (.reg 2), none, none⟩, ⟨.mov (.reg 3), (some 10), none⟩])
   (.cond (.loc 10)
    (.seq (.region [⟨.mov (.cst (.int .i64 4)), (some 4), none⟩])
    .ret)
    .skip)))))
 (.seq (.seq (.region [⟨.fieldAddr 2 (.loc 3), none, none⟩, ⟨.load1 (.reg 0), (some 11), none⟩, ⟨.len .sl (.reg 1), (some 12), none⟩, ⟨.mov (.cst (.int .i64 0)), (some 13), none⟩])
 (.block 1
  (.loop
   (.seq (.region [⟨.bin .lss (.loc 13) (.loc 12), (some 14), none⟩])
   (.seq (.cond (.loc 14)
    .skip
    (.exit 1))
   (.seq (.block 2
    (.seq (.region [⟨.indexAddrS 1 (.loc 11) (.loc 13), none, none⟩, ⟨.load1 (.reg 0), none, none⟩, ⟨.mov (.reg 1), (some 5), none⟩])
    (.seq (.seq (.region [⟨.mov (.loc 0), none, none⟩, ⟨.nilCheck (.reg 0), none, none⟩, ⟨.fieldAddr 8 (.reg 1), none, none⟩, ⟨.load1 (.reg 2), none, none⟩, ⟨.mov (.loc 5), none, none⟩, ⟨.lookup (.leaf .int) (.agg [(.int .i64 0)]) false (.reg 3) (.reg 4), none, none⟩, ⟨.field 0 1 false (.reg 5), none, none⟩, ⟨.bin .gtr (.reg 6) (.cst (.int .i64 0)), (some 15), none⟩])
    (.cond (.loc 15)
     (.seq (.region [⟨.mov (.cst (.int .i64 14)), (some 4), none⟩])
     .ret)
     .skip))
    (.seq (.region [⟨.mov (.loc 0), none, none⟩, ⟨.nilCheck (.reg 0), none, none⟩, ⟨.fieldAddr 8 (.reg 1), none, none⟩, ⟨.load1 (.reg 2), none, none⟩, ⟨.mov (.loc 5), none, none⟩, ⟨.build [(.int .i64 0)] [(0, 1, (.cst (.int .i64 1)))], none, none⟩, ⟨.update (.leaf .int) (.reg 3) (.reg 4) (.reg 5), none, none⟩])
    (.region [⟨.mov (.loc 0), none, none⟩, ⟨.nilCheck (.reg 0), none, none⟩, ⟨.fieldAddr 10 (.reg 1), none, none⟩, ⟨.load1 (.reg 2), none, none⟩, ⟨.mov (.loc 5), none, none⟩, ⟨.build [(.int .i64 0)] [(0, 1, (.cst (.int .i64 1)))], none, none⟩, ⟨.update (.leaf .int) (.reg 3) (.reg 4) (.reg 5), none, none⟩])))))
   (.region [⟨.bin .add (.loc 13) (.cst (.int .i64 1)), none, none⟩, ⟨.mov (.reg 0), (some 13), none⟩])))))))
 (.seq (.seq (.region [⟨.fieldAddr 0 (.loc 3), none, none⟩, ⟨.load1 (.reg 0), none, none⟩, ⟨.bin .eql (.reg 1) (.cst (.int .i64 1)), (some 16), none⟩])
 (.cond (.loc 16)
  (.seq (.seq (.draw [0, 1, 2, 3, 4, 5, 6, 7, 8] [] [⟨.mov (.loc 0), none, none⟩, ⟨.nilCheck (.reg 0), none, none⟩, ⟨.fieldAddr 9 (.reg 1), none, none⟩, ⟨.load1 (.reg 2), none, none⟩, ⟨.fieldAddr 1 (.loc 3), none, none⟩, ⟨.load1 (.reg 4), none, none⟩, ⟨.lookup (.leaf .int) (.agg [(.int .i64 0)]) false (.reg 3) (.reg 5), none, none⟩, ⟨.field 0 1 false (.reg 6), none, none⟩, ⟨.bin .gtr (.reg 7) (.cst (.int .i64 0)), (some 17), none⟩])
  (.cond (.loc 17)
   (.seq (.region [⟨.mov (.cst (.int .i64 14)), (some 4), none⟩])
   .ret)
   .skip))
  (.draw [0, 1, 2, 3, 4, 5, 6] [(7, [], [])] [⟨.mov (.loc 0), none, none⟩, ⟨.nilCheck (.reg 0), none, none⟩, ⟨.fieldAddr 9 (.reg 1), none, none⟩, ⟨.load1 (.reg 2), none, none⟩, ⟨.fieldAddr 1 (.loc 3), none, none⟩, ⟨.load1 (.reg 4), none, none⟩, ⟨.build [(.int .i64 0)] [(0, 1, (.cst (.int .i64 1)))], none, none⟩, ⟨.update (.leaf .int) (.reg 3) (.reg 5) (.reg 6), none, none⟩]))
  .skip))
 (.seq (.seq (.draw [0, 1, 2, 3, 4, 5, 6, 7, 8, 9, 10, 11, 12, 13, 14, 15, 16, 17, 18] [] [⟨.fieldAddr 0 (.loc 3), none, none⟩, ⟨.load1 (.reg 0), none, none⟩, ⟨.bin .eql (.reg 1) (.cst (.int .i64 2)), none, none⟩, ⟨.mov (.reg 2), none, none⟩, ⟨.fieldAddr 0 (.loc 3), none, (some (3, false))⟩, ⟨.load1 (.reg 4), none, (some (3, false))⟩, ⟨.bin .eql (.reg 5) (.cst (.int .i64 4)), none, (some (3, false))⟩, ⟨.pick (.reg 3) (.cst (.bool true)) (.reg 6), none, none⟩, ⟨.mov (.reg 7), none, none⟩, ⟨.mov (.loc 0), none, (some (8, true))⟩, ⟨.nilCheck (.reg 9), none, (some (8, true))⟩, ⟨.fieldAddr 10 (.reg 10), none, (some (8, true))⟩, ⟨.load1 (.reg 11), none, (some (8, true))⟩, ⟨.fieldAddr 1 (.loc 3), none, (some (8, true))⟩, ⟨.load1 (.reg 13), none, (some (8, true))⟩, ⟨.lookup (.leaf .int) (.agg [(.int .i64 0)]) false (.reg 12) (.reg 14), none, (some (8, true))⟩, ⟨.field 0 1 false (.reg 15), none, (some (8, true))⟩, ⟨.bin .eql (.reg 16) (.cst (.int .i64 0)), none, (some (8, true))⟩, ⟨.pick (.reg 8) (.reg 17) (.cst (.bool false)), (some 18), none⟩])
 (.cond (.loc 18)
  (.seq (.region [⟨.mov (.cst (.int .i64 6)), (some 4), none⟩])
  .ret)
  .skip))
 (.seq (.seq (.region [⟨.fieldAddr 4 (.loc 3), none, none⟩, ⟨.load1 (.reg 0), (some 19), none⟩, ⟨.len .sl (.reg 1), (some 20), none⟩, ⟨.mov (.cst (.int .i64 0)), (some 21), none⟩])
 (.block 3
  (.loop
   (.seq (.region [⟨.bin .lss (.loc 21) (.loc 20), (some 22), none⟩])
   (.seq (.cond (.loc 22)
    .skip
    (.exit 3))
   (.seq (.block 4
    (.seq (.region [⟨.indexAddrS 5 (.loc 19) (.loc 21), none, none⟩, ⟨.loadN 5 (.reg 0), none, none⟩, ⟨.allocL 6 [(.int .i64 0), (.int .i64 0), (.sl .nil []), (.bool false), (.sl .nil [])], none, none⟩, ⟨.store 5 (.reg 2) (.reg 1), none, none⟩])
    (.seq (.region [⟨.mov (.loc 0), none, none⟩, ⟨.loadN 5 (.loc 6), none, none⟩, ⟨.mov (.loc 2), none, none⟩, ⟨.bin .add (.reg 2) (.cst (.int .i64 1)), none, none⟩, ⟨.call false false 44 [(.reg 0), (.reg 1), (.reg 3)], none, none⟩, ⟨.mov (.reg 4), (some 7), none⟩])
    (.seq (.region [⟨.mov (.loc 7), none, none⟩, ⟨.bin .neq (.reg 0) (.cst (.int .i64 0)), (some 23), none⟩])
    (.cond (.loc 23)
     (.seq (.region [⟨.mov (.loc 7), none, none⟩, ⟨.mov (.reg 0), (some 4), none⟩])
     .ret)
     .skip)))))
   (.region [⟨.bin .add (.loc 21) (.cst (.int .i64 1)), none, none⟩, ⟨.mov (.reg 0), (some 21), none⟩])))))))
 (.seq (.seq (.region [⟨.fieldAddr 2 (.loc 3), none, none⟩, ⟨.load1 (.reg 0), (some 24), none⟩, ⟨.len .sl (.reg 1), (some 25), none⟩, ⟨.mov (.cst (.int .i64 0)), (some 26), none⟩])
 (.block 5
  (.loop
   (.seq (.region [⟨.bin .lss (.loc 26) (.loc 25), (some 27), none⟩])
   (.seq (.cond (.loc 27)
    .skip
    (.exit 5))
   (.seq (.block 6
    (.seq (.region [⟨.indexAddrS 1 (.loc 24) (.loc 26), none, none⟩, ⟨.load1 (.reg 0), none, none⟩, ⟨.mov (.reg 1), (some 8), none⟩])
    (.region [⟨.mov (.loc 0), none, none⟩, ⟨.nilCheck (.reg 0), none, none⟩, ⟨.fieldAddr 10 (.reg 1), none, none⟩, ⟨.load1 (.reg 2), none, none⟩, ⟨.mov (.loc 8), none, none⟩, ⟨.build [(.int .i64 0)] [], none, none⟩, ⟨.update (.leaf .int) (.reg 3) (.reg 4) (.reg 5), none, none⟩])))
   (.region [⟨.bin .add (.loc 26) (.cst (.int .i64 1)), none, none⟩, ⟨.mov (.reg 0), (some 26), none⟩])))))))
 (.seq (.region [⟨.mov (.cst (.int .i64 0)), (some 4), none⟩])
 .ret))))))))⟩
theorem c44 : compFunc Tryz.prog opts a44 Tryz.f44 = some t44 := by kernel_rfl
/-- pennant/core.walk -/
def a45 : Ann := { slots := [0, 1, 2, 5, 10, 11, 12, 13], lb := [5, 2], mu := [], trunc := [], draws := [] }
def t45 : TFunc := ⟨2, 8, [],
 (.seq (.region [⟨.boxL 2 (.loc 0), none, none⟩])
 (.seq (.region [⟨.mov (.loc 1), none, none⟩, ⟨.loadN 5 (.loc 2), none, none⟩, ⟨.callv (.reg 0) [(.reg 1)], none, none⟩])
 (.seq (.region [⟨.fieldAddr 4 (.loc 2), none, none⟩, ⟨.load1 (.reg 0), (some 4), none⟩, ⟨.len .sl (.reg 1), (some 5), none⟩, ⟨.mov (.cst (.int .i64 0)), (some 6), none⟩])
 (.block 0
  (.loop
   (.seq (.region [⟨.bin .lss (.loc 6) (.loc 5), (some 7), none⟩])
   (.seq (.cond (.loc 7)
    .skip
    (.exit 0))
   (.seq (.block 1
    (.seq (.region [⟨.indexAddrS 5 (.loc 4) (.loc 6), none, none⟩, ⟨.loadN 5 (.reg 0), none, none⟩, ⟨.allocL 3 [(.int .i64 0), (.int .i64 0), (.sl .nil []), (.bool false), (.sl .nil [])], none, none⟩, ⟨.store 5 (.reg 2) (.reg 1), none, none⟩])
    (.region [⟨.loadN 5 (.loc 3), none, none⟩, ⟨.mov (.loc 1), none, none⟩, ⟨.call false false 45 [(.reg 0), (.reg 1)], none, none⟩])))
   (.region [⟨.bin .add (.loc 6) (.cst (.int .i64 1)), none, none⟩, ⟨.mov (.reg 0), (some 6), none⟩])))))))))⟩
theorem c45 : compFunc Tryz.prog opts a45 Tryz.f45 = some t45 := by kernel_rfl
/-- pennant/core.Assigned$1 -/
def a46 : Ann := { slots := [0, 1, 2, 5], lb := [2], mu := [], trunc := [], draws := [] }
def t46 : TFunc := ⟨2, 4, [],
 (.seq (.region [⟨.boxL 2 (.loc 0), none, none⟩])
 (.seq (.region [⟨.fieldAddr 0 (.loc 2), none, none⟩, ⟨.load1 (.reg 0), none, none⟩, ⟨.bin .eql (.reg 1) (.cst (.int .i64 4)), (some 3), none⟩])
 (.cond (.loc 3)
  (.region [⟨.load1 (.loc 1), none, none⟩, ⟨.fieldAddr 1 (.loc 2), none, none⟩, ⟨.load1 (.reg 1), none, none⟩, ⟨.build [(.int .i64 0)] [], none, none⟩, ⟨.update (.leaf .int) (.reg 0) (.reg 2) (.reg 3), none, none⟩])
  .skip)))⟩
theorem c46 : compFunc Tryz.prog opts a46 Tryz.f46 = some t46 := by kernel_rfl
/-- pennant/core.rising -/
def a47 : Ann := { slots := [0, 2], lb := [], mu := [], trunc := [], draws := [] }
def t47 : TFunc := ⟨1, 2, [.loc 1],
 (.seq (.region [⟨.mov (.cst (.sl .nil [])), (some 1), none⟩])
 (.seq (.region [⟨.mov (.loc 0), none, none⟩, ⟨.call false false 89 [(.reg 0)], none, none⟩, ⟨.call false false 88 [(.reg 1)], none, none⟩, ⟨.mov (.reg 2), (some 1), none⟩])
 .ret))⟩
theorem c47 : compFunc Tryz.prog opts a47 Tryz.f47 = some t47 := by kernel_rfl
/-- pennant/core.Bound$1 -/
def a48 : Ann := { slots := [0, 1, 2, 4, 6, 7, 8, 9, 14], lb := [2], mu := [], trunc := [], draws := [] }
def t48 : TFunc := ⟨2, 9, [],
 (.seq (.region [⟨.boxL 2 (.loc 0), none, none⟩])
 (.seq (.region [⟨.fieldAddr 2 (.loc 2), none, none⟩, ⟨.load1 (.reg 0), (some 4), none⟩, ⟨.len .sl (.reg 1), (some 5), none⟩, ⟨.mov (.cst (.int .i64 0)), (some 6), none⟩])
 (.block 0
  (.loop
   (.seq (.region [⟨.bin .lss (.loc 6) (.loc 5), (some 7), none⟩])
   (.seq (.cond (.loc 7)
    .skip
    (.exit 0))
   (.seq (.block 1
    (.seq (.region [⟨.indexAddrS 1 (.loc 4) (.loc 6), none, none⟩, ⟨.load1 (.reg 0), none, none⟩, ⟨.mov (.reg 1), (some 3), none⟩])
    (.seq (.region [⟨.fieldAddr 0 (.loc 2), none, none⟩, ⟨.load1 (.reg 0), none, none⟩, ⟨.bin .eql (.reg 1) (.cst (.int .i64 7)), (some 8), none⟩])
    (.cond (.loc 8)
     (.region [⟨.load1 (.loc 1), none, none⟩, ⟨.mov (.loc 3), none, none⟩, ⟨.build [(.int .i64 0)] [], none, none⟩, ⟨.update (.leaf .int) (.reg 0) (.reg 1) (.reg 2), none, none⟩])
     .skip))))
   (.region [⟨.bin .add (.loc 6) (.cst (.int .i64 1)), none, none⟩, ⟨.mov (.reg 0), (some 6), none⟩]))))))))⟩
theorem c48 : compFunc Tryz.prog opts a48 Tryz.f48 = some t48 := by kernel_rfl
/-- pennant/core.free -/
def a49 : Ann := { slots := [0, 1, 2, 3, 4, 6, 8, 24, 33, 34, 35, 36], lb := [8], mu := [], trunc := [], draws := [] }
def t49 : TFunc := ⟨3, 12, [],
 (.seq (.region [⟨.boxH 26 (.loc 0), (some 3), none⟩, ⟨.boxH 56 (.loc 1), (some 4), none⟩])
 (.seq (.seq (.region [⟨.fieldAddr 0 (.loc 3), none, none⟩, ⟨.load1 (.reg 0), none, none⟩, ⟨.bin .eql (.reg 1) (.cst (.int .i64 2)), none, none⟩, ⟨.mov (.reg 2), none, none⟩, ⟨.fieldAddr 0 (.loc 3), none, (some (3, false))⟩, ⟨.load1 (.reg 4), none, (some (3, false))⟩, ⟨.bin .eql (.reg 5) (.cst (.int .i64 4)), none, (some (3, false))⟩, ⟨.pick (.reg 3) (.cst (.bool true)) (.reg 6), none, none⟩, ⟨.mov (.reg 7), none, none⟩, ⟨.load1 (.loc 4), none, (some (8, true))⟩, ⟨.fieldAddr 1 (.loc 3), none, (some (8, true))⟩, ⟨.load1 (.reg 10), none, (some (8, true))⟩, ⟨.lookup (.leaf .int) (.agg [(.int .i64 0)]) false (.reg 9) (.reg 11), none, (some (8, true))⟩, ⟨.field 0 1 false (.reg 12), none, (some (8, true))⟩, ⟨.bin .eql (.reg 13) (.cst (.int .i64 0)), none, (some (8, true))⟩, ⟨.pick (.reg 8) (.reg 14) (.cst (.bool false)), (some 7), none⟩])
 (.cond (.loc 7)
  (.region [⟨.mov (.loc 2), none, none⟩, ⟨.fieldAddr 1 (.loc 3), none, none⟩, ⟨.load1 (.reg 1), none, none⟩, ⟨.build [(.int .i64 0)] [], none, none⟩, ⟨.update (.leaf .int) (.reg 0) (.reg 2) (.reg 3), none, none⟩])
  .skip))
 (.seq (.region [⟨.mkFn 90 [] [(.loc 3), (.loc 4)], none, none⟩, ⟨.mov (.reg 0), (some 5), none⟩])
 (.seq (.region [⟨.mov (.loc 5), none, none⟩, ⟨.callv (.reg 0) [(.cst (.int .i64 1))], none, none⟩])
 (.seq (.seq (.region [⟨.fieldAddr 4 (.loc 3), none, none⟩, ⟨.load1 (.reg 0), (some 8), none⟩, ⟨.len .sl (.reg 1), (some 9), none⟩, ⟨.mov (.cst (.int .i64 0)), (some 10), none⟩])
 (.block 0
  (.loop
   (.seq (.region [⟨.bin .lss (.loc 10) (.loc 9), (some 11), none⟩])
   (.seq (.cond (.loc 11)
    .skip
    (.exit 0))
   (.seq (.block 1
    (.seq (.region [⟨.indexAddrS 5 (.loc 8) (.loc 10), none, none⟩, ⟨.loadN 5 (.reg 0), none, none⟩, ⟨.allocL 6 [(.int .i64 0), (.int .i64 0), (.sl .nil []), (.bool false), (.sl .nil [])], none, none⟩, ⟨.store 5 (.reg 2) (.reg 1), none, none⟩])
    (.region [⟨.loadN 5 (.loc 6), none, none⟩, ⟨.load1 (.loc 4), none, none⟩, ⟨.mov (.loc 2), none, none⟩, ⟨.call false false 49 [(.reg 0), (.reg 1), (.reg 2)], none, none⟩])))
   (.region [⟨.bin .add (.loc 10) (.cst (.int .i64 1)), none, none⟩, ⟨.mov (.reg 0), (some 10), none⟩])))))))
 (.region [⟨.mov (.loc 5), none, none⟩, ⟨.callv (.reg 0) [(.cst (.int .i64 (-1)))], none, none⟩]))))))⟩
theorem c49 : compFunc Tryz.prog opts a49 Tryz.f49 = some t49 := by kernel_rfl
/-- slices.EqualFunc[[]pennant/api.Datum,[]pennant/api.Datum,pennant/api.Datum,pennant/api.Datum] -/
def a54 : Ann := { slots := [0, 1, 2, 6, 7, 8, 9, 14, 15, 16, 17, 18, 30], lb := [9, 8], mu := [], trunc := [], draws := [] }
def t54 : TFunc := ⟨3, 13, [.loc 3],
 (.seq (.region [⟨.mov (.cst (.bool false)), (some 3), none⟩])
 (.seq (.seq (.region [⟨.mov (.loc 0), none, none⟩, ⟨.len .sl (.reg 0), none, none⟩, ⟨.mov (.loc 1), none, none⟩, ⟨.len .sl (.reg 2), none, none⟩, ⟨.bin .neq (.reg 1) (.reg 3), (some 7), none⟩])
 (.cond (.loc 7)
  (.seq (.region [⟨.mov (.cst (.bool false)), (some 3), none⟩])
  .ret)
  .skip))
 (.seq (.seq (.region [⟨.mov (.loc 0), (some 8), none⟩, ⟨.len .sl (.reg 0), (some 9), none⟩, ⟨.mov (.cst (.int .i64 0)), (some 10), none⟩])
 (.block 0
  (.loop
   (.seq (.region [⟨.bin .lss (.loc 10) (.loc 9), (some 11), none⟩])
   (.seq (.cond (.loc 11)
    .skip
    (.exit 0))
   (.seq (.block 1
    (.seq (.region [⟨.mov (.loc 10), none, none⟩, ⟨.indexAddrS 5 (.loc 8) (.loc 10), none, none⟩, ⟨.loadN 5 (.reg 1), none, none⟩, ⟨.allocL 5 [(.int .i64 0), (.int .i64 0), (.str []), (.sl .nil []), (.int .i64 0)], none, none⟩, ⟨.mov (.reg 0), (some 4), none⟩, ⟨.store 5 (.reg 3) (.reg 2), none, none⟩])
    (.seq (.region [⟨.mov (.loc 1), none, none⟩, ⟨.mov (.loc 4), none, none⟩, ⟨.indexAddrS 5 (.reg 0) (.reg 1), none, none⟩, ⟨.loadN 5 (.reg 2), none, none⟩, ⟨.allocL 6 [(.int .i64 0), (.int .i64 0), (.str []), (.sl .nil []), (.int .i64 0)], none, none⟩, ⟨.store 5 (.reg 4) (.reg 3), none, none⟩])
    (.seq (.region [⟨.mov (.loc 2), none, none⟩, ⟨.loadN 5 (.loc 5), none, none⟩, ⟨.loadN 5 (.loc 6), none, none⟩, ⟨.callv (.reg 0) [(.reg 1), (.reg 2)], none, none⟩, ⟨.un .not (.reg 3), (some 12), none⟩])
    (.cond (.loc 12)
     (.seq (.region [⟨.mov (.cst (.bool false)), (some 3), none⟩])
     .ret)
     .skip)))))
   (.region [⟨.bin .add (.loc 10) (.cst (.int .i64 1)), none, none⟩, ⟨.mov (.reg 0), (some 10), none⟩])))))))
 (.seq (.region [⟨.mov (.cst (.bool true)), (some 3), none⟩])
 .ret))))⟩
theorem c54 : compFunc Tryz.prog opts a54 Tryz.f54 = some t54 := by kernel_rfl
/-- pennant/datum.Same -/
def a55 : Ann := { slots := [0, 1, 2, 3, 4, 10, 20], lb := [3, 2], mu := [], trunc := [], draws := [(2, ⟨[0, 1, 3, 7, 0, 16, 48, 112, 255, 511], [0, 1, 2, 3, 4, 5, 6, 7], [(8, [], [9])]⟩), (4, ⟨[0, 1, 3, 7, 0, 16, 48, 112, 15, 511], [0, 1, 2, 3, 4, 5, 6, 7], [(8, [5, 7], []), (9, [], [])]⟩)] }
def t55 : TFunc := ⟨2, 7, [.loc 4],
 (.seq (.region [⟨.boxL 2 (.loc 0), none, none⟩, ⟨.boxL 3 (.loc 1), none, none⟩, ⟨.mov (.cst (.bool false)), (some 4), none⟩])
 (.seq (.block 0
  (.loop
   (.seq (.seq (.region [⟨.loadN 5 (.loc 2), none, none⟩, ⟨.call false false 82 [(.reg 0)], none, none⟩, ⟨.mov (.reg 1), none, none⟩, ⟨.loadN 5 (.loc 3), none, (some (2, true))⟩, ⟨.call false false 82 [(.reg 3)], none, (some (2, true))⟩, ⟨.pick (.reg 2) (.reg 4) (.cst (.bool false)), (some 5), none⟩])
   (.cond (.loc 5)
    .skip
    (.exit 0)))
   (.block 1
    (.seq (.seq (.draw [0, 1, 2, 3, 4, 5, 6, 7] [(8, [], [9])] [⟨.fieldAddr 3 (.loc 2), none, none⟩, ⟨.load1 (.reg 0), none, none⟩, ⟨.indexAddrS 5 (.reg 1) (.cst (.int .i64 0)), none, none⟩, ⟨.loadN 5 (.reg 2), none, none⟩, ⟨.fieldAddr 3 (.loc 3), none, none⟩, ⟨.load1 (.reg 4), none, none⟩, ⟨.indexAddrS 5 (.reg 5) (.cst (.int .i64 0)), none, none⟩, ⟨.loadN 5 (.reg 6), none, none⟩, ⟨.call false false 55 [(.reg 3), (.reg 7)], none, none⟩, ⟨.un .not (.reg 8), (some 6), none⟩])
    (.cond (.loc 6)
     (.seq (.region [⟨.mov (.cst (.bool false)), (some 4), none⟩])
     .ret)
     .skip))
    (.draw [0, 1, 2, 3, 4, 5, 6, 7] [(8, [5, 7], []), (9, [], [])] [⟨.fieldAddr 3 (.loc 2), none, none⟩, ⟨.load1 (.reg 0), none, none⟩, ⟨.indexAddrS 5 (.reg 1) (.cst (.int .i64 1)), none, none⟩, ⟨.loadN 5 (.reg 2), none, none⟩, ⟨.fieldAddr 3 (.loc 3), none, none⟩, ⟨.load1 (.reg 4), none, none⟩, ⟨.indexAddrS 5 (.reg 5) (.cst (.int .i64 1)), none, none⟩, ⟨.loadN 5 (.reg 6), none, none⟩, ⟨.store 5 (.loc 2) (.reg 3), none, none⟩, ⟨.store 5 (.loc 3) (.reg 7), none, none⟩]))))))
 (.seq (.region [⟨.fieldAddr 0 (.loc 2), none, none⟩, ⟨.load1 (.reg 0), none, none⟩, ⟨.fieldAddr 0 (.loc 3), none, none⟩, ⟨.load1 (.reg 2), none, none⟩, ⟨.bin .eql (.reg 1) (.reg 3), none, none⟩, ⟨.mov (.reg 4), none, none⟩, ⟨.fieldAddr 1 (.loc 2), none, (some (5, true))⟩, ⟨.load1 (.reg 6), none, (some (5, true))⟩, ⟨.fieldAddr 1 (.loc 3), none, (some (5, true))⟩, ⟨.load1 (.reg 8), none, (some (5, true))⟩, ⟨.bin .eql (.reg 7) (.reg 9), none, (some (5, true))⟩, ⟨.pick (.reg 5) (.reg 10) (.cst (.bool false)), none, none⟩, ⟨.mov (.reg 11), none, none⟩, ⟨.fieldAddr 2 (.loc 2), none, (some (12, true))⟩, ⟨.load1 (.reg 13), none, (some (12, true))⟩, ⟨.fieldAddr 2 (.loc 3), none, (some (12, true))⟩, ⟨.load1 (.reg 15), none, (some (12, true))⟩, ⟨.bin .eql (.reg 14) (.reg 16), none, (some (12, true))⟩, ⟨.pick (.reg 12) (.reg 17) (.cst (.bool false)), none, none⟩, ⟨.mov (.reg 18), none, none⟩, ⟨.fieldAddr 3 (.loc 2), none, (some (19, true))⟩, ⟨.load1 (.reg 20), none, (some (19, true))⟩, ⟨.fieldAddr 3 (.loc 3), none, (some (19, true))⟩, ⟨.load1 (.reg 22), none, (some (19, true))⟩, ⟨.call false false 54 [(.reg 21), (.reg 23), (.fn 55)], none, (some (19, true))⟩, ⟨.pick (.reg 19) (.reg 24) (.cst (.bool false)), none, none⟩, ⟨.mov (.reg 25), (some 4), none⟩])
 .ret)))⟩
theorem c55 : compFunc Tryz.prog opts a55 Tryz.f55 = some t55 := by kernel_rfl
/-- pennant/core.same -/
def a56 : Ann := { slots := [0, 1, 2, 3, 4], lb := [3, 2], mu := [], trunc := [], draws := [] }
def t56 : TFunc := ⟨2, 5, [.loc 4],
 (.seq (.region [⟨.boxL 2 (.loc 0), none, none⟩, ⟨.boxL 3 (.loc 1), none, none⟩, ⟨.mov (.cst (.bool false)), (some 4), none⟩])
 (.seq (.region [⟨.fieldAddr 0 (.loc 2), none, none⟩, ⟨.load1 (.reg 0), none, none⟩, ⟨.fieldAddr 0 (.loc 3), none, none⟩, ⟨.load1 (.reg 2), none, none⟩, ⟨.bin .eql (.reg 1) (.reg 3), none, none⟩, ⟨.mov (.reg 4), none, none⟩, ⟨.fieldAddr 1 (.loc 2), none, (some (5, true))⟩, ⟨.load1 (.reg 6), none, (some (5, true))⟩, ⟨.fieldAddr 1 (.loc 3), none, (some (5, true))⟩, ⟨.load1 (.reg 8), none, (some (5, true))⟩, ⟨.bin .eql (.reg 7) (.reg 9), none, (some (5, true))⟩, ⟨.pick (.reg 5) (.reg 10) (.cst (.bool false)), none, none⟩, ⟨.mov (.reg 11), none, none⟩, ⟨.fieldAddr 3 (.loc 2), none, (some (12, true))⟩, ⟨.load1 (.reg 13), none, (some (12, true))⟩, ⟨.fieldAddr 3 (.loc 3), none, (some (12, true))⟩, ⟨.load1 (.reg 15), none, (some (12, true))⟩, ⟨.eqB false .bool (.reg 14) (.reg 16), none, (some (12, true))⟩, ⟨.pick (.reg 12) (.reg 17) (.cst (.bool false)), none, none⟩, ⟨.mov (.reg 18), none, none⟩, ⟨.fieldAddr 2 (.loc 2), none, (some (19, true))⟩, ⟨.load1 (.reg 20), none, (some (19, true))⟩, ⟨.fieldAddr 2 (.loc 3), none, (some (19, true))⟩, ⟨.load1 (.reg 22), none, (some (19, true))⟩, ⟨.call true false 92 [(.reg 21), (.reg 23)], none, (some (19, true))⟩, ⟨.pick (.reg 19) (.reg 24) (.cst (.bool false)), none, none⟩, ⟨.mov (.reg 25), none, none⟩, ⟨.fieldAddr 4 (.loc 2), none, (some (26, true))⟩, ⟨.load1 (.reg 27), none, (some (26, true))⟩, ⟨.fieldAddr 4 (.loc 3), none, (some (26, true))⟩, ⟨.load1 (.reg 29), none, (some (26, true))⟩, ⟨.call false false 93 [(.reg 28), (.reg 30), (.fn 56)], none, (some (26, true))⟩, ⟨.pick (.reg 26) (.reg 31) (.cst (.bool false)), none, none⟩, ⟨.mov (.reg 32), (some 4), none⟩])
 .ret))⟩
theorem c56 : compFunc Tryz.prog opts a56 Tryz.f56 = some t56 := by kernel_rfl
/-- pennant/pennantlaw11.call -/
def a59 : Ann := { slots := [0, 2], lb := [2], mu := [], trunc := [], draws := [] }
def t59 : TFunc := ⟨1, 2, [.cell 1 5 true],
 (.seq (.region [⟨.allocL 1 [(.int .i64 0), (.int .i64 0), (.sl .nil []), (.bool false), (.sl .nil [])], none, none⟩])
 (.seq (.region [⟨.mov (.loc 0), none, none⟩, ⟨.build [(.int .i64 0), (.int .i64 0), (.sl .nil []), (.bool false), (.sl .nil [])] [(0, 1, (.cst (.int .i64 8))), (4, 1, (.reg 0))], none, none⟩, ⟨.store 5 (.loc 1) (.reg 1), none, none⟩])
 .ret))⟩
theorem c59 : compFunc Tryz.prog opts a59 Tryz.f59 = some t59 := by kernel_rfl
/-- pennant/core.of -/
def a60 : Ann := { slots := [0, 1, 2, 3, 5, 6, 9, 12, 15, 18, 21, 24, 27, 30, 44, 47, 56, 67, 70, 73], lb := [2, 1], mu := [], trunc := [], draws := [(19, ⟨[0, 1, 3, 7, 0, 16, 55, 127, 0, 256, 887, 1911, 2047, 8191], [0, 1, 4, 5, 8, 9], [(2, [5, 9], [3]), (6, [9], [7]), (10, [], [11]), (12, [], [13])]⟩), (25, ⟨[0, 1, 3, 7, 0, 0, 32, 112, 255, 511, 1023], [0, 1, 2, 3, 4, 5, 6, 7, 8], [(9, [], [10])]⟩)] }
def t60 : TFunc := ⟨1, 20, [.cell 2 4 true, .loc 3],
 (.seq (.region [⟨.boxL 1 (.loc 0), none, none⟩, ⟨.allocL 2 [(.bool false), (.int .i64 0), (.bool false), (.str [])], none, none⟩, ⟨.mov (.cst (.bool false)), (some 3), none⟩])
 (.seq (.seq (.region [⟨.fieldAddr 0 (.loc 1), none, none⟩, ⟨.load1 (.reg 0), (some 4), none⟩])
 (.block 0
  (.seq (.region [⟨.bin .eql (.loc 4) (.cst (.int .i64 1)), none, none⟩, ⟨.mov (.reg 0), (some 5), none⟩])
  (.cond (.loc 5)
   (.seq (.region [⟨.build [(.bool false), (.int .i64 0), (.bool false), (.str [])] [(0, 1, (.cst (.bool true))), (1, 1, (.cst (.int .i64 0))), (2, 1, (.cst (.bool false))), (3, 1, (.cst (.str [99])))], none, none⟩, ⟨.store 4 (.loc 2) (.reg 0), none, none⟩, ⟨.mov (.cst (.bool true)), (some 3), none⟩])
   .ret)
   (.seq (.region [⟨.bin .eql (.loc 4) (.cst (.int .i64 2)), none, none⟩, ⟨.mov (.reg 0), (some 6), none⟩])
   (.cond (.loc 6)
    (.seq (.region [⟨.build [(.bool false), (.int .i64 0), (.bool false), (.str [])] [(0, 1, (.cst (.bool true))), (1, 1, (.cst (.int .i64 0))), (2, 1, (.cst (.bool false))), (3, 1, (.cst (.str [118])))], none, none⟩, ⟨.store 4 (.loc 2) (.reg 0), none, none⟩, ⟨.mov (.cst (.bool true)), (some 3), none⟩])
    .ret)
    (.seq (.region [⟨.bin .eql (.loc 4) (.cst (.int .i64 3)), none, none⟩, ⟨.mov (.reg 0), (some 7), none⟩])
    (.cond (.loc 7)
     (.seq (.region [⟨.build [(.bool false), (.int .i64 0), (.bool false), (.str [])] [(0, 1, (.cst (.bool true))), (1, 1, (.cst (.int .i64 0))), (2, 1, (.cst (.bool false))), (3, 1, (.cst (.str [103])))], none, none⟩, ⟨.store 4 (.loc 2) (.reg 0), none, none⟩, ⟨.mov (.cst (.bool true)), (some 3), none⟩])
     .ret)
     (.seq (.region [⟨.bin .eql (.loc 4) (.cst (.int .i64 4)), none, none⟩, ⟨.mov (.reg 0), (some 8), none⟩])
     (.cond (.loc 8)
      (.seq (.region [⟨.build [(.bool false), (.int .i64 0), (.bool false), (.str [])] [(0, 1, (.cst (.bool true))), (1, 1, (.cst (.int .i64 1))), (2, 1, (.cst (.bool false))), (3, 1, (.cst (.str [115, 101, 116, 33, 32, 118])))], none, none⟩, ⟨.store 4 (.loc 2) (.reg 0), none, none⟩, ⟨.mov (.cst (.bool true)), (some 3), none⟩])
      .ret)
      (.seq (.region [⟨.bin .eql (.loc 4) (.cst (.int .i64 5)), none, none⟩, ⟨.mov (.reg 0), (some 9), none⟩])
      (.cond (.loc 9)
       (.seq (.region [⟨.build [(.bool false), (.int .i64 0), (.bool false), (.str [])] [(0, 1, (.cst (.bool true))), (1, 1, (.cst (.int .i64 1))), (2, 1, (.cst (.bool false))), (3, 1, (.cst (.str [115, 101, 116, 33, 32, 103])))], none, none⟩, ⟨.store 4 (.loc 2) (.reg 0), none, none⟩, ⟨.mov (.cst (.bool true)), (some 3), none⟩])
       .ret)
       (.seq (.region [⟨.bin .eql (.loc 4) (.cst (.int .i64 6)), none, none⟩, ⟨.mov (.reg 0), (some 10), none⟩])
       (.cond (.loc 10)
        (.seq (.region [⟨.build [(.bool false), (.int .i64 0), (.bool false), (.str [])] [(0, 1, (.cst (.bool false))), (1, 1, (.cst (.int .i64 3))), (2, 1, (.cst (.bool false))), (3, 1, (.cst (.str [105, 102])))], none, none⟩, ⟨.store 4 (.loc 2) (.reg 0), none, none⟩, ⟨.mov (.cst (.bool true)), (some 3), none⟩])
        .ret)
        (.seq (.region [⟨.bin .eql (.loc 4) (.cst (.int .i64 7)), none, none⟩, ⟨.mov (.reg 0), (some 11), none⟩])
        (.cond (.loc 11)
         (.seq (.region [⟨.build [(.bool false), (.int .i64 0), (.bool false), (.str [])] [(0, 1, (.cst (.bool false))), (1, 1, (.cst (.int .i64 1))), (2, 1, (.cst (.bool false))), (3, 1, (.cst (.str [108, 97, 109, 98, 100, 97])))], none, none⟩, ⟨.store 4 (.loc 2) (.reg 0), none, none⟩, ⟨.mov (.cst (.bool true)), (some 3), none⟩])
         .ret)
         (.seq (.region [⟨.bin .eql (.loc 4) (.cst (.int .i64 8)), none, none⟩, ⟨.mov (.reg 0), (some 12), none⟩])
         (.cond (.loc 12)
          (.seq (.region [⟨.build [(.bool false), (.int .i64 0), (.bool false), (.str [])] [(0, 1, (.cst (.bool false))), (1, 1, (.cst (.int .i64 1))), (2, 1, (.cst (.bool true))), (3, 1, (.cst (.str [99, 97, 108, 108])))], none, none⟩, ⟨.store 4 (.loc 2) (.reg 0), none, none⟩, ⟨.mov (.cst (.bool true)), (some 3), none⟩])
          .ret)
          (.seq (.region [⟨.bin .eql (.loc 4) (.cst (.int .i64 9)), none, none⟩, ⟨.mov (.reg 0), (some 13), none⟩])
          (.cond (.loc 13)
           (.seq (.draw [0, 1, 4, 5, 8, 9] [(2, [5, 9], [3]), (6, [9], [7]), (10, [], [11]), (12, [], [13])] [⟨.fieldAddr 1 (.loc 1), none, none⟩, ⟨.load1 (.reg 0), none, none⟩, ⟨.call true false 94 [(.reg 1)], none, none⟩, ⟨.minmax true [(.cst (.int .i64 0)), (.reg 2)], none, none⟩, ⟨.fieldAddr 1 (.loc 1), none, none⟩, ⟨.load1 (.reg 4), none, none⟩, ⟨.call true false 95 [(.reg 5)], none, none⟩, ⟨.build [(.bool false), (.int .i64 0), (.bool false), (.str [])] [(0, 1, (.cst (.bool true))), (1, 1, (.reg 3)), (2, 1, (.cst (.bool false))), (3, 1, (.reg 6))], none, none⟩, ⟨.fieldAddr 1 (.loc 1), none, none⟩, ⟨.load1 (.reg 8), none, none⟩, ⟨.call true false 94 [(.reg 9)], none, none⟩, ⟨.bin .geq (.reg 10) (.cst (.int .i64 0)), none, none⟩, ⟨.store 4 (.loc 2) (.reg 7), none, none⟩, ⟨.mov (.reg 11), (some 3), none⟩])
           .ret)
           (.seq (.region [⟨.bin .eql (.loc 4) (.cst (.int .i64 10)), none, none⟩, ⟨.mov (.reg 0), (some 14), none⟩])
           (.cond (.loc 14)
            (.seq (.region [⟨.build [(.bool false), (.int .i64 0), (.bool false), (.str [])] [(0, 1, (.cst (.bool false))), (1, 1, (.cst (.int .i64 1))), (2, 1, (.cst (.bool true))), (3, 1, (.cst (.str [98, 101, 103, 105, 110])))], none, none⟩, ⟨.store 4 (.loc 2) (.reg 0), none, none⟩, ⟨.mov (.cst (.bool true)), (some 3), none⟩])
            .ret)
            (.seq (.region [⟨.bin .eql (.loc 4) (.cst (.int .i64 11)), none, none⟩, ⟨.mov (.reg 0), (some 15), none⟩])
            (.cond (.loc 15)
             (.seq (.seq (.region [⟨.fieldAddr 1 (.loc 1), none, none⟩, ⟨.load1 (.reg 0), none, none⟩, ⟨.bin .lss (.reg 1) (.cst (.int .i64 0)), none, none⟩, ⟨.mov (.reg 2), none, none⟩, ⟨.fieldAddr 1 (.loc 1), none, (some (3, false))⟩, ⟨.load1 (.reg 4), none, (some (3, false))⟩, ⟨.bin .gtr (.reg 5) (.cst (.int .i64 2)), none, (some (3, false))⟩, ⟨.pick (.reg 3) (.cst (.bool true)) (.reg 6), (some 16), none⟩])
             (.cond (.loc 16)
              (.seq (.region [⟨.build [(.bool false), (.int .i64 0), (.bool false), (.str [])] [], none, none⟩, ⟨.store 4 (.loc 2) (.reg 0), none, none⟩, ⟨.mov (.cst (.bool false)), (some 3), none⟩])
              .ret)
              .skip))
             (.seq (.draw [0, 1, 2, 3, 4, 5, 6, 7, 8] [(9, [], [10])] [⟨.fieldAddr 1 (.loc 1), none, none⟩, ⟨.load1 (.reg 0), none, none⟩, ⟨.bin .add (.reg 1) (.cst (.int .i64 1)), none, none⟩, ⟨.minmax false [(.reg 2), (.cst (.int .i64 2))], none, none⟩, ⟨.build [(.str []), (.str []), (.str [])] [(0, 1, (.cst (.str [99, 97, 108, 108, 47, 99, 99]))), (1, 1, (.cst (.str [97, 112, 112, 108, 121]))), (2, 1, (.cst (.str [99, 97, 108, 108, 45, 119, 105, 116, 104, 45, 118, 97, 108, 117, 101, 115])))], none, none⟩, ⟨.fieldAddr 1 (.loc 1), none, none⟩, ⟨.load1 (.reg 5), none, none⟩, ⟨.indexA 3 1 false (.reg 4) (.reg 6), none, none⟩, ⟨.build [(.bool false), (.int .i64 0), (.bool false), (.str [])] [(0, 1, (.cst (.bool true))), (1, 1, (.reg 3)), (2, 1, (.cst (.bool false))), (3, 1, (.reg 7))], none, none⟩, ⟨.store 4 (.loc 2) (.reg 8), none, none⟩, ⟨.mov (.cst (.bool true)), (some 3), none⟩])
             .ret))
             (.seq (.region [⟨.bin .eql (.loc 4) (.cst (.int .i64 12)), none, none⟩, ⟨.mov (.reg 0), (some 17), none⟩])
             (.cond (.loc 17)
              (.seq (.region [⟨.build [(.bool false), (.int .i64 0), (.bool false), (.str [])] [(0, 1, (.cst (.bool false))), (1, 1, (.cst (.int .i64 1))), (2, 1, (.cst (.bool false))), (3, 1, (.cst (.str [98, 111, 120])))], none, none⟩, ⟨.store 4 (.loc 2) (.reg 0), none, none⟩, ⟨.mov (.cst (.bool true)), (some 3), none⟩])
              .ret)
              (.seq (.region [⟨.bin .eql (.loc 4) (.cst (.int .i64 13)), none, none⟩, ⟨.mov (.reg 0), (some 18), none⟩])
              (.cond (.loc 18)
               (.seq (.region [⟨.build [(.bool false), (.int .i64 0), (.bool false), (.str [])] [(0, 1, (.cst (.bool false))), (1, 1, (.cst (.int .i64 1))), (2, 1, (.cst (.bool false))), (3, 1, (.cst (.str [117, 110, 98, 111, 120])))], none, none⟩, ⟨.store 4 (.loc 2) (.reg 0), none, none⟩, ⟨.mov (.cst (.bool true)), (some 3), none⟩])
               .ret)
               (.seq (.region [⟨.bin .eql (.loc 4) (.cst (.int .i64 14)), none, none⟩, ⟨.mov (.reg 0), (some 19), none⟩])
               (.cond (.loc 19)
                (.seq (.region [⟨.build [(.bool false), (.int .i64 0), (.bool false), (.str [])] [(0, 1, (.cst (.bool false))), (1, 1, (.cst (.int .i64 2))), (2, 1, (.cst (.bool false))), (3, 1, (.cst (.str [115, 101, 116, 45, 98, 111, 120, 33])))], none, none⟩, ⟨.store 4 (.loc 2) (.reg 0), none, none⟩, ⟨.mov (.cst (.bool true)), (some 3), none⟩])
                .ret)
                .skip))))))))))))))))))))))))))))))
 (.seq (.region [⟨.build [(.bool false), (.int .i64 0), (.bool false), (.str [])] [], none, none⟩, ⟨.store 4 (.loc 2) (.reg 0), none, none⟩, ⟨.mov (.cst (.bool false)), (some 3), none⟩])
 .ret)))⟩
theorem c60 : compFunc Tryz.prog opts a60 Tryz.f60 = some t60 := by kernel_rfl
/-- strconv.Itoa -/
def a61 : Ann := { slots := [0, 2], lb := [], mu := [], trunc := [], draws := [] }
def t61 : TFunc := ⟨1, 2, [.loc 1],
 (.seq (.region [⟨.mov (.cst (.str [])), (some 1), none⟩])
 (.seq (.region [⟨.mov (.loc 0), none, none⟩, ⟨.call true false 96 [(.reg 0)], none, none⟩, ⟨.mov (.reg 1), (some 1), none⟩])
 .ret))⟩
theorem c61 : compFunc Tryz.prog opts a61 Tryz.f61 = some t61 := by kernel_rfl
/-- pennant/core.params -/
def a62 : Ann := { slots := [0, 1, 2, 3, 5, 6, 8, 9, 10, 11, 22, 32], lb := [1], mu := [(5, 4)], trunc := [], draws := [(11, ⟨[0, 0, 2, 7, 0, 0, 32, 112, 240, 496, 1023, 2047], [0, 1, 2, 3, 4, 5, 6, 7, 8, 9], [(10, [], [11])]⟩)] }
def t62 : TFunc := ⟨1, 12, [.loc 2],
 (.seq (.region [⟨.boxL 1 (.loc 0), none, none⟩, ⟨.mov (.cst (.str [])), (some 2), none⟩])
 (.seq (.region [⟨.mov (.cst (.sl .nil [])), (some 3), none⟩])
 (.seq (.seq (.region [⟨.fieldAddr 2 (.loc 1), none, none⟩, ⟨.load1 (.reg 0), (some 6), none⟩, ⟨.len .sl (.reg 1), (some 7), none⟩, ⟨.mov (.cst (.int .i64 0)), (some 8), none⟩])
 (.block 0
  (.loop
   (.seq (.region [⟨.bin .lss (.loc 8) (.loc 7), (some 9), none⟩])
   (.seq (.cond (.loc 9)
    .skip
    (.exit 0))
   (.seq (.block 1
    (.seq (.region [⟨.indexAddrS 1 (.loc 6) (.loc 8), none, none⟩, ⟨.load1 (.reg 0), none, none⟩, ⟨.mov (.reg 1), (some 4), none⟩])
    (.region [⟨.mov (.loc 3), none, none⟩, ⟨.mov (.loc 4), none, none⟩, ⟨.call true false 97 [(.reg 1)], none, none⟩, ⟨.lit false [(.str [])] 1 [(0, (.reg 2))], none, none⟩, ⟨.append true 1 16 9 (.reg 0) (.reg 3), none, none⟩, ⟨.mov (.reg 4), (some 3), none⟩])))
   (.region [⟨.bin .add (.loc 8) (.cst (.int .i64 1)), none, none⟩, ⟨.mov (.reg 0), (some 8), none⟩])))))))
 (.seq (.seq (.region [⟨.mov (.loc 3), none, none⟩, ⟨.len .sl (.reg 0), none, none⟩, ⟨.mov (.reg 1), (some 5), none⟩])
 (.block 2
  (.seq (.region [⟨.fieldAddr 3 (.loc 1), none, none⟩, ⟨.load1 (.reg 0), none, none⟩, ⟨.mov (.reg 1), none, none⟩, ⟨.mov (.loc 5), none, (some (2, true))⟩, ⟨.bin .eql (.reg 3) (.cst (.int .i64 1)), none, (some (2, true))⟩, ⟨.pick (.reg 2) (.reg 4) (.cst (.bool false)), none, none⟩, ⟨.mov (.reg 5), (some 10), none⟩])
  (.cond (.loc 10)
   (.seq (.region [⟨.mov (.loc 3), none, none⟩, ⟨.indexAddrS 1 (.reg 0) (.cst (.int .i64 0)), none, none⟩, ⟨.load1 (.reg 1), none, none⟩, ⟨.mov (.reg 2), (some 2), none⟩])
   .ret)
   (.seq (.region [⟨.fieldAddr 3 (.loc 1), none, none⟩, ⟨.load1 (.reg 0), none, none⟩, ⟨.mov (.reg 1), (some 11), none⟩])
   (.cond (.loc 11)
    (.draw [0, 1, 2, 3, 4, 5, 6, 7, 8, 9] [(10, [], [11])] [⟨.mov (.loc 3), none, none⟩, ⟨.mov (.loc 5), none, none⟩, ⟨.bin .sub (.reg 1) (.cst (.int .i64 1)), none, none⟩, ⟨.slice (.sl 1) (.reg 0) none (some (.reg 2)) none, none, none⟩, ⟨.mov (.loc 3), none, none⟩, ⟨.mov (.loc 5), none, none⟩, ⟨.bin .sub (.reg 5) (.cst (.int .i64 1)), none, none⟩, ⟨.indexAddrS 1 (.reg 4) (.reg 6), none, none⟩, ⟨.load1 (.reg 7), none, none⟩, ⟨.lit false [(.str [])] 2 [(0, (.cst (.str [46]))), (1, (.reg 8))], none, none⟩, ⟨.append false 1 16 9 (.reg 3) (.reg 9), none, none⟩, ⟨.mov (.reg 10), (some 3), none⟩])
    .skip))))))
 (.seq (.region [⟨.mov (.loc 3), none, none⟩, ⟨.call true false 63 [(.reg 0), (.cst (.str [32]))], none, none⟩, ⟨.bin .add (.cst (.str [40])) (.reg 1), none, none⟩, ⟨.bin .add (.reg 2) (.cst (.str [41])), none, none⟩, ⟨.mov (.reg 3), (some 2), none⟩])
 .ret)))))⟩
theorem c62 : compFunc Tryz.prog opts a62 Tryz.f62 = some t62 := by kernel_rfl
/-- strings.Join -/
def a63 : Ann := { slots := [0, 1, 4, 5, 7, 8, 10, 12, 13, 15, 22, 29, 39, 40, 41, 42, 49, 63, 64, 65, 66], lb := [], mu := [], trunc := [], draws := [] }
def t63 : TFunc := ⟨2, 21, [.loc 2],
 (.seq (.region [⟨.mov (.cst (.str [])), (some 2), none⟩])
 (.seq (.seq (.region [⟨.mov (.loc 0), none, none⟩, ⟨.len .sl (.reg 0), (some 7), none⟩])
 (.block 0
  (.seq (.region [⟨.bin .eql (.loc 7) (.cst (.int .i64 0)), none, none⟩, ⟨.mov (.reg 0), (some 8), none⟩])
  (.cond (.loc 8)
   (.seq (.region [⟨.mov (.cst (.str [])), (some 2), none⟩])
   .ret)
   (.seq (.region [⟨.bin .eql (.loc 7) (.cst (.int .i64 1)), none, none⟩, ⟨.mov (.reg 0), (some 9), none⟩])
   (.cond (.loc 9)
    (.seq (.region [⟨.mov (.loc 0), none, none⟩, ⟨.indexAddrS 1 (.reg 0) (.cst (.int .i64 0)), none, none⟩, ⟨.load1 (.reg 1), none, none⟩, ⟨.mov (.reg 2), (some 2), none⟩])
    .ret)
    .skip))))))
 (.seq (.region [⟨.mov (.cst (.int .i64 0)), (some 3), none⟩])
 (.seq (.seq (.region [⟨.mov (.loc 1), none, none⟩, ⟨.len .str (.reg 0), none, none⟩, ⟨.bin .gtr (.reg 1) (.cst (.int .i64 0)), (some 10), none⟩])
 (.cond (.loc 10)
  (.seq (.seq (.region [⟨.mov (.loc 1), none, none⟩, ⟨.len .str (.reg 0), none, none⟩, ⟨.mov (.loc 0), none, none⟩, ⟨.len .sl (.reg 2), none, none⟩, ⟨.bin .sub (.reg 3) (.cst (.int .i64 1)), none, none⟩, ⟨.bin .quo (.cst (.int .i64 9223372036854775807)) (.reg 4), none, none⟩, ⟨.bin .geq (.reg 1) (.reg 5), (some 11), none⟩])
  (.cond (.loc 11)
   (.region [⟨.bad, none, none⟩, ⟨.bad, none, none⟩])
   .skip))
  (.region [⟨.mov (.loc 3), none, none⟩, ⟨.mov (.loc 1), none, none⟩, ⟨.len .str (.reg 1), none, none⟩, ⟨.mov (.loc 0), none, none⟩, ⟨.len .sl (.reg 3), none, none⟩, ⟨.bin .sub (.reg 4) (.cst (.int .i64 1)), none, none⟩, ⟨.bin .mul (.reg 2) (.reg 5), none, none⟩, ⟨.bin .add (.reg 0) (.reg 6), none, none⟩, ⟨.mov (.reg 7), (some 3), none⟩]))
  .skip))
 (.seq (.seq (.region [⟨.mov (.loc 0), (some 12), none⟩, ⟨.len .sl (.reg 0), (some 13), none⟩, ⟨.mov (.cst (.int .i64 0)), (some 14), none⟩])
 (.block 1
  (.loop
   (.seq (.region [⟨.bin .lss (.loc 14) (.loc 13), (some 15), none⟩])
   (.seq (.cond (.loc 15)
    .skip
    (.exit 1))
   (.seq (.block 2
    (.seq (.region [⟨.indexAddrS 1 (.loc 12) (.loc 14), none, none⟩, ⟨.load1 (.reg 0), none, none⟩, ⟨.mov (.reg 1), (some 4), none⟩])
    (.seq (.seq (.region [⟨.mov (.loc 4), none, none⟩, ⟨.len .str (.reg 0), none, none⟩, ⟨.mov (.loc 3), none, none⟩, ⟨.bin .sub (.cst (.int .i64 9223372036854775807)) (.reg 2), none, none⟩, ⟨.bin .gtr (.reg 1) (.reg 3), (some 16), none⟩])
    (.cond (.loc 16)
     (.region [⟨.bad, none, none⟩, ⟨.bad, none, none⟩])
     .skip))
    (.region [⟨.mov (.loc 3), none, none⟩, ⟨.mov (.loc 4), none, none⟩, ⟨.len .str (.reg 1), none, none⟩, ⟨.bin .add (.reg 0) (.reg 2), none, none⟩, ⟨.mov (.reg 3), (some 3), none⟩]))))
   (.region [⟨.bin .add (.loc 14) (.cst (.int .i64 1)), none, none⟩, ⟨.mov (.reg 0), (some 14), none⟩])))))))
 (.seq (.region [⟨.allocH 86 [.nilp, (.sl .nil [])], (some 5), none⟩])
 (.seq (.region [⟨.mov (.loc 3), none, none⟩, ⟨.call false false 98 [(.loc 5), (.reg 0)], none, none⟩])
 (.seq (.region [⟨.mov (.loc 0), none, none⟩, ⟨.indexAddrS 1 (.reg 0) (.cst (.int .i64 0)), none, none⟩, ⟨.load1 (.reg 1), none, none⟩, ⟨.call false false 64 [(.loc 5), (.reg 2)], none, none⟩])
 (.seq (.seq (.region [⟨.mov (.loc 0), none, none⟩, ⟨.slice (.sl 1) (.reg 0) (some (.cst (.int .i64 1))) none none, (some 17), none⟩, ⟨.len .sl (.reg 1), (some 18), none⟩, ⟨.mov (.cst (.int .i64 0)), (some 19), none⟩])
 (.block 3
  (.loop
   (.seq (.region [⟨.bin .lss (.loc 19) (.loc 18), (some 20), none⟩])
   (.seq (.cond (.loc 20)
    .skip
    (.exit 3))
   (.seq (.block 4
    (.seq (.region [⟨.indexAddrS 1 (.loc 17) (.loc 19), none, none⟩, ⟨.load1 (.reg 0), none, none⟩, ⟨.mov (.reg 1), (some 6), none⟩])
    (.seq (.region [⟨.mov (.loc 1), none, none⟩, ⟨.call false false 64 [(.loc 5), (.reg 0)], none, none⟩])
    (.region [⟨.mov (.loc 6), none, none⟩, ⟨.call false false 64 [(.loc 5), (.reg 0)], none, none⟩]))))
   (.region [⟨.bin .add (.loc 19) (.cst (.int .i64 1)), none, none⟩, ⟨.mov (.reg 0), (some 19), none⟩])))))))
 (.seq (.region [⟨.prim 66 [(.loc 5)], none, none⟩, ⟨.mov (.reg 0), (some 2), none⟩])
 .ret))))))))))⟩
theorem c63 : compFunc Tryz.prog opts a63 Tryz.f63 = some t63 := by kernel_rfl
/-- (*strings.Builder).WriteString -/
def a64 : Ann := { slots := [0, 1, 4, 5], lb := [], mu := [], trunc := [], draws := [] }
def t64 : TFunc := ⟨2, 4, [.loc 2, .loc 3],
 (.seq (.region [⟨.mov (.cst (.int .i64 0)), (some 2), none⟩, ⟨.mov (.cst .nili), (some 3), none⟩])
 (.seq (.region [⟨.mov (.loc 0), none, none⟩, ⟨.prim 99 [(.reg 0)], none, none⟩])
 (.seq (.region [⟨.mov (.loc 0), none, none⟩, ⟨.mov (.loc 0), none, none⟩, ⟨.nilCheck (.reg 1), none, none⟩, ⟨.fieldAddr 1 (.reg 2), none, none⟩, ⟨.load1 (.reg 3), none, none⟩, ⟨.mov (.loc 1), none, none⟩, ⟨.append false 1 1 5 (.reg 4) (.reg 5), none, none⟩, ⟨.nilCheck (.reg 0), none, none⟩, ⟨.fieldAddr 1 (.reg 7), none, none⟩, ⟨.store 1 (.reg 8) (.reg 6), none, none⟩])
 (.seq (.region [⟨.mov (.loc 1), none, none⟩, ⟨.len .str (.reg 0), none, none⟩, ⟨.mov (.reg 1), (some 2), none⟩, ⟨.mov (.cst .nili), (some 3), none⟩])
 .ret))))⟩
theorem c64 : compFunc Tryz.prog opts a64 Tryz.f64 = some t64 := by kernel_rfl
/-- pennant/datum.Write -/
def a65 : Ann := { slots := [0, 1, 2, 4, 5, 8], lb := [2], mu := [], trunc := [], draws := [] }
def t65 : TFunc := ⟨2, 6, [.loc 3],
 (.seq (.region [⟨.boxL 2 (.loc 0), none, none⟩, ⟨.mov (.cst (.str [])), (some 3), none⟩])
 (.seq (.seq (.region [⟨.loadN 5 (.loc 2), none, none⟩, ⟨.call false false 42 [(.reg 0)], none, none⟩, ⟨.un .not (.reg 1), (some 5), none⟩])
 (.cond (.loc 5)
  (.seq (.region [⟨.mov (.cst (.str [])), (some 3), none⟩])
  .ret)
  .skip))
 (.seq (.region [⟨.mov (.loc 1), none, none⟩, ⟨.build [.nilp, (.sl .nil []), (.bool false)] [(2, 1, (.reg 0))], none, none⟩, ⟨.boxH 121 (.reg 1), none, none⟩, ⟨.mov (.reg 2), (some 4), none⟩])
 (.seq (.region [⟨.mov (.loc 4), none, none⟩, ⟨.loadN 5 (.loc 2), none, none⟩, ⟨.call false false 100 [(.reg 0), (.reg 1)], none, none⟩])
 (.seq (.region [⟨.mov (.loc 4), none, none⟩, ⟨.nilCheck (.reg 0), none, none⟩, ⟨.fieldAddr 0 (.reg 1), none, none⟩, ⟨.prim 66 [(.reg 2)], none, none⟩, ⟨.mov (.reg 3), (some 3), none⟩])
 .ret)))))⟩
theorem c65 : compFunc Tryz.prog opts a65 Tryz.f65 = some t65 := by kernel_rfl
/-- pennant/pennantlaw15.first -/
def a69 : Ann := { slots := [0, 1], lb := [1, 0], mu := [], trunc := [], draws := [(2, ⟨[0, 0, 0, 6, 14, 30, 63, 127], [0, 1], [(2, [1], [3, 4, 5, 6]), (7, [], [])]⟩)] }
def t69 : TFunc := ⟨0, 2, [.cell 0 5 true],
 (.seq (.region [⟨.allocL 0 [(.int .i64 0), (.int .i64 0), (.sl .nil []), (.bool false), (.sl .nil [])], none, none⟩])
 (.seq (.region [⟨.call false false 35 [(.cst (.int .i64 0))], none, none⟩, ⟨.lit false [(.int .i64 0), (.int .i64 0), (.sl .nil []), (.bool false), (.sl .nil [])] 1 [(0, (.reg 0))], none, none⟩, ⟨.build [(.int .i64 0), (.int .i64 0), (.sl .nil []), (.bool false), (.sl .nil [])] [(0, 1, (.cst (.int .i64 4))), (4, 1, (.reg 1))], none, none⟩, ⟨.allocL 1 [(.int .i64 0), (.int .i64 0), (.sl .nil []), (.bool false), (.sl .nil [])], none, none⟩, ⟨.store 5 (.reg 3) (.reg 2), none, none⟩])
 (.seq (.draw [0, 1] [(2, [1], [3, 4, 5, 6]), (7, [], [])] [⟨.lit false [(.int .i64 0)] 1 [(0, (.cst (.int .i64 0)))], none, none⟩, ⟨.loadN 5 (.loc 1), none, none⟩, ⟨.call false false 33 [(.cst (.int .i64 0))], none, none⟩, ⟨.lit false [(.int .i64 0), (.int .i64 0), (.sl .nil []), (.bool false), (.sl .nil [])] 2 [(0, (.reg 1)), (1, (.reg 2))], none, none⟩, ⟨.build [(.int .i64 0), (.int .i64 0), (.sl .nil []), (.bool false), (.sl .nil [])] [(0, 1, (.cst (.int .i64 10))), (4, 1, (.reg 3))], none, none⟩, ⟨.lit false [(.int .i64 0), (.int .i64 0), (.sl .nil []), (.bool false), (.sl .nil [])] 1 [(0, (.reg 4))], none, none⟩, ⟨.build [(.int .i64 0), (.int .i64 0), (.sl .nil []), (.bool false), (.sl .nil [])] [(0, 1, (.cst (.int .i64 7))), (2, 1, (.reg 0)), (4, 1, (.reg 5))], none, none⟩, ⟨.store 5 (.loc 0) (.reg 6), none, none⟩])
 .ret)))⟩
theorem c69 : compFunc Tryz.prog opts a69 Tryz.f69 = some t69 := by kernel_rfl
/-- pennant/box.boxed -/
def a73 : Ann := { slots := [0, 1, 2], lb := [1], mu := [], trunc := [], draws := [] }
def t73 : TFunc := ⟨1, 3, [.loc 2],
 (.seq (.region [⟨.boxL 1 (.loc 0), none, none⟩, ⟨.mov (.cst (.bool false)), (some 2), none⟩])
 (.seq (.region [⟨.fieldAddr 0 (.loc 1), none, none⟩, ⟨.load1 (.reg 0), none, none⟩, ⟨.bin .geq (.reg 1) (.cst (.int .i64 12)), none, none⟩, ⟨.mov (.reg 2), none, none⟩, ⟨.fieldAddr 0 (.loc 1), none, (some (3, true))⟩, ⟨.load1 (.reg 4), none, (some (3, true))⟩, ⟨.bin .leq (.reg 5) (.cst (.int .i64 14)), none, (some (3, true))⟩, ⟨.pick (.reg 3) (.reg 6) (.cst (.bool false)), none, none⟩, ⟨.mov (.reg 7), none, none⟩, ⟨.fieldAddr 4 (.loc 1), none, (some (8, false))⟩, ⟨.load1 (.reg 9), none, (some (8, false))⟩, ⟨.call false false 104 [(.reg 10), (.fn 73)], none, (some (8, false))⟩, ⟨.pick (.reg 8) (.cst (.bool true)) (.reg 11), none, none⟩, ⟨.mov (.reg 12), (some 2), none⟩])
 .ret))⟩
theorem c73 : compFunc Tryz.prog opts a73 Tryz.f73 = some t73 := by kernel_rfl
/-- (*pennant/box.converter).expr -/
def a74 : Ann := { slots := [0, 1, 3, 4, 5, 12, 25], lb := [4, 3], mu := [], trunc := [], draws := [(6, ⟨[0, 1, 3, 0, 0, 16, 48, 112, 255, 511, 1023, 2047], [0, 1, 3, 4, 5, 6, 7], [(2, [5, 7], []), (8, [], [9, 10]), (11, [], [])]⟩)] }
def t74 : TFunc := ⟨2, 7, [.cell 3 5 true],
 (.seq (.region [⟨.boxL 2 (.loc 1), none, none⟩, ⟨.allocL 3 [(.int .i64 0), (.int .i64 0), (.sl .nil []), (.bool false), (.sl .nil [])], none, none⟩])
 (.seq (.block 0
  (.seq (.region [⟨.fieldAddr 0 (.loc 2), none, none⟩, ⟨.load1 (.reg 0), none, none⟩, ⟨.bin .eql (.reg 1) (.cst (.int .i64 7)), none, none⟩, ⟨.mov (.reg 2), (some 4), none⟩])
  (.cond (.loc 4)
   (.seq (.region [⟨.mov (.loc 0), none, none⟩, ⟨.loadN 5 (.loc 2), none, none⟩, ⟨.call false false 105 [(.reg 0), (.reg 1)], none, none⟩, ⟨.store 5 (.loc 3) (.reg 2), none, none⟩])
   .ret)
   (.seq (.region [⟨.fieldAddr 0 (.loc 2), none, none⟩, ⟨.load1 (.reg 0), none, none⟩, ⟨.bin .eql (.reg 1) (.cst (.int .i64 2)), none, none⟩, ⟨.mov (.reg 2), none, none⟩, ⟨.mov (.loc 0), none, (some (3, true))⟩, ⟨.fieldAddr 1 (.loc 2), none, (some (3, true))⟩, ⟨.load1 (.reg 5), none, (some (3, true))⟩, ⟨.call false false 106 [(.reg 4), (.reg 6)], none, (some (3, true))⟩, ⟨.pick (.reg 3) (.reg 7) (.cst (.bool false)), none, none⟩, ⟨.mov (.reg 8), (some 5), none⟩])
   (.cond (.loc 5)
    (.seq (.region [⟨.loadN 5 (.loc 2), none, none⟩, ⟨.lit false [(.int .i64 0), (.int .i64 0), (.sl .nil []), (.bool false), (.sl .nil [])] 1 [(0, (.reg 0))], none, none⟩, ⟨.build [(.int .i64 0), (.int .i64 0), (.sl .nil []), (.bool false), (.sl .nil [])] [(0, 1, (.cst (.int .i64 13))), (4, 1, (.reg 1))], none, none⟩, ⟨.store 5 (.loc 3) (.reg 2), none, none⟩])
    .ret)
    (.seq (.region [⟨.fieldAddr 0 (.loc 2), none, none⟩, ⟨.load1 (.reg 0), none, none⟩, ⟨.bin .eql (.reg 1) (.cst (.int .i64 4)), none, none⟩, ⟨.mov (.reg 2), (some 6), none⟩])
    (.cond (.loc 6)
     (.seq (.draw [0, 1, 3, 4, 5, 6, 7] [(2, [5, 7], []), (8, [], [9, 10]), (11, [], [])] [⟨.fieldAddr 1 (.loc 2), none, none⟩, ⟨.load1 (.reg 0), none, none⟩, ⟨.call false false 107 [(.reg 1)], none, none⟩, ⟨.mov (.loc 0), none, none⟩, ⟨.fieldAddr 4 (.loc 2), none, none⟩, ⟨.load1 (.reg 4), none, none⟩, ⟨.indexAddrS 5 (.reg 5) (.cst (.int .i64 0)), none, none⟩, ⟨.loadN 5 (.reg 6), none, none⟩, ⟨.call false false 74 [(.reg 3), (.reg 7)], none, none⟩, ⟨.lit false [(.int .i64 0), (.int .i64 0), (.sl .nil []), (.bool false), (.sl .nil [])] 2 [(0, (.reg 2)), (1, (.reg 8))], none, none⟩, ⟨.build [(.int .i64 0), (.int .i64 0), (.sl .nil []), (.bool false), (.sl .nil [])] [(0, 1, (.cst (.int .i64 14))), (4, 1, (.reg 9))], none, none⟩, ⟨.store 5 (.loc 3) (.reg 10), none, none⟩])
     .ret)
     .skip)))))))
 (.seq (.region [⟨.fieldAddr 4 (.loc 2), none, none⟩, ⟨.load1 (.reg 0), none, none⟩, ⟨.mov (.loc 0), none, none⟩, ⟨.mkFn 74 [(.reg 2)] [], none, none⟩, ⟨.call false false 108 [(.reg 1), (.reg 3)], none, none⟩, ⟨.fieldAddr 4 (.loc 2), none, none⟩, ⟨.store 1 (.reg 5) (.reg 4), none, none⟩])
 (.seq (.region [⟨.loadN 5 (.loc 2), none, none⟩, ⟨.store 5 (.loc 3) (.reg 0), none, none⟩])
 .ret))))⟩
theorem c74 : compFunc Tryz.prog opts a74 Tryz.f74 = some t74 := by kernel_rfl
/-- slices.Clone[[]pennant/api.Datum,pennant/api.Datum] -/
def a75 : Ann := { slots := [0, 2, 4], lb := [], mu := [(3, 2)], trunc := [], draws := [] }
def t75 : TFunc := ⟨1, 3, [.loc 1],
 (.seq (.region [⟨.mov (.cst (.sl .nil [])), (some 1), none⟩])
 (.seq (.seq (.region [⟨.mov (.loc 0), none, none⟩, ⟨.eqB false .sl (.reg 0) (.cst (.sl .nil [])), (some 2), none⟩])
 (.cond (.loc 2)
  (.seq (.region [⟨.mov (.cst (.sl .nil [])), (some 1), none⟩])
  .ret)
  .skip))
 (.seq (.region [⟨.lit false [(.int .i64 0), (.int .i64 0), (.str []), (.sl .nil []), (.int .i64 0)] 0 [], none, none⟩, ⟨.mov (.loc 0), none, none⟩, ⟨.append true 5 64 39 (.reg 0) (.reg 1), none, none⟩, ⟨.mov (.reg 2), (some 1), none⟩])
 .ret)))⟩
theorem c75 : compFunc Tryz.prog opts a75 Tryz.f75 = some t75 := by kernel_rfl
/-- pennant/core.Size$1 -/
def a81 : Ann := { slots := [0, 1, 2], lb := [2], mu := [], trunc := [], draws := [] }
def t81 : TFunc := ⟨2, 3, [],
 (.seq (.region [⟨.boxL 2 (.loc 0), none, none⟩])
 (.region [⟨.load1 (.loc 1), none, none⟩, ⟨.bin .add (.reg 0) (.cst (.int .i64 1)), none, none⟩, ⟨.store 1 (.loc 1) (.reg 1), none, none⟩]))⟩
theorem c81 : compFunc Tryz.prog opts a81 Tryz.f81 = some t81 := by kernel_rfl
/-- pennant/datum.isPair -/
def a82 : Ann := { slots := [0, 1, 2], lb := [1], mu := [], trunc := [], draws := [] }
def t82 : TFunc := ⟨1, 3, [.loc 2],
 (.seq (.region [⟨.boxL 1 (.loc 0), none, none⟩, ⟨.mov (.cst (.bool false)), (some 2), none⟩])
 (.seq (.region [⟨.fieldAddr 0 (.loc 1), none, none⟩, ⟨.load1 (.reg 0), none, none⟩, ⟨.bin .eql (.reg 1) (.cst (.int .i64 6)), none, none⟩, ⟨.mov (.reg 2), none, none⟩, ⟨.fieldAddr 3 (.loc 1), none, (some (3, true))⟩, ⟨.load1 (.reg 4), none, (some (3, true))⟩, ⟨.len .sl (.reg 5), none, (some (3, true))⟩, ⟨.bin .eql (.reg 6) (.cst (.int .i64 2)), none, (some (3, true))⟩, ⟨.pick (.reg 3) (.reg 7) (.cst (.bool false)), none, none⟩, ⟨.mov (.reg 8), (some 2), none⟩])
 .ret))⟩
theorem c82 : compFunc Tryz.prog opts a82 Tryz.f82 = some t82 := by kernel_rfl
/-- slices.ContainsFunc[[]pennant/api.Datum,pennant/api.Datum] -/
def a83 : Ann := { slots := [0, 1, 4], lb := [], mu := [], trunc := [], draws := [] }
def t83 : TFunc := ⟨2, 3, [.loc 2],
 (.seq (.region [⟨.mov (.cst (.bool false)), (some 2), none⟩])
 (.seq (.region [⟨.mov (.loc 0), none, none⟩, ⟨.mov (.loc 1), none, none⟩, ⟨.call false false 115 [(.reg 0), (.reg 1)], none, none⟩, ⟨.bin .geq (.reg 2) (.cst (.int .i64 0)), none, none⟩, ⟨.mov (.reg 3), (some 2), none⟩])
 .ret))⟩
theorem c83 : compFunc Tryz.prog opts a83 Tryz.f83 = some t83 := by kernel_rfl
/-- pennant/datum.May$1 -/
def a84 : Ann := { slots := [0, 1, 2], lb := [1], mu := [], trunc := [], draws := [] }
def t84 : TFunc := ⟨1, 3, [.loc 2],
 (.seq (.region [⟨.boxL 1 (.loc 0), none, none⟩, ⟨.mov (.cst (.bool false)), (some 2), none⟩])
 (.seq (.region [⟨.loadN 5 (.loc 1), none, none⟩, ⟨.call false false 42 [(.reg 0)], none, none⟩, ⟨.un .not (.reg 1), none, none⟩, ⟨.mov (.reg 2), (some 2), none⟩])
 .ret))⟩
theorem c84 : compFunc Tryz.prog opts a84 Tryz.f84 = some t84 := by kernel_rfl
/-- pennant/datum.bare -/
def a85 : Ann := { slots := [0, 1, 2, 4, 6, 7, 12, 22, 27, 32], lb := [1], mu := [], trunc := [], draws := [] }
def t85 : TFunc := ⟨1, 10, [.loc 2],
 (.seq (.region [⟨.boxL 1 (.loc 0), none, none⟩, ⟨.mov (.cst (.bool false)), (some 2), none⟩])
 (.seq (.seq (.region [⟨.fieldAddr 0 (.loc 1), none, none⟩, ⟨.load1 (.reg 0), (some 4), none⟩])
 (.block 0
  (.seq (.seq (.region [⟨.bin .eql (.loc 4) (.cst (.int .i64 0)), none, none⟩, ⟨.mov (.reg 0), (some 5), none⟩])
  (.cond (.loc 5)
   .skip
   (.seq (.region [⟨.bin .eql (.loc 4) (.cst (.int .i64 8)), none, none⟩, ⟨.mov (.reg 0), (some 5), none⟩])
   (.cond (.loc 5)
    .skip
    (.seq (.region [⟨.bin .eql (.loc 4) (.cst (.int .i64 9)), none, none⟩, ⟨.mov (.reg 0), (some 5), none⟩])
    (.cond (.loc 5)
     .skip
     (.region [⟨.bin .eql (.loc 4) (.cst (.int .i64 10)), none, none⟩, ⟨.mov (.reg 0), (some 5), none⟩])))))))
  (.cond (.loc 5)
   (.seq (.region [⟨.mov (.cst (.bool true)), (some 2), none⟩])
   .ret)
   (.seq (.region [⟨.bin .eql (.loc 4) (.cst (.int .i64 1)), none, none⟩, ⟨.mov (.reg 0), (some 6), none⟩])
   (.cond (.loc 6)
    (.seq (.region [⟨.fieldAddr 1 (.loc 1), none, none⟩, ⟨.load1 (.reg 0), none, none⟩, ⟨.bin .eql (.reg 1) (.cst (.int .i64 0)), none, none⟩, ⟨.mov (.reg 2), none, none⟩, ⟨.fieldAddr 1 (.loc 1), none, (some (3, false))⟩, ⟨.load1 (.reg 4), none, (some (3, false))⟩, ⟨.bin .eql (.reg 5) (.cst (.int .i64 1)), none, (some (3, false))⟩, ⟨.pick (.reg 3) (.cst (.bool true)) (.reg 6), none, none⟩, ⟨.mov (.reg 7), (some 2), none⟩])
    .ret)
    (.seq (.region [⟨.bin .eql (.loc 4) (.cst (.int .i64 2)), none, none⟩, ⟨.mov (.reg 0), (some 7), none⟩])
    (.cond (.loc 7)
     (.seq (.region [⟨.fieldAddr 2 (.loc 1), none, none⟩, ⟨.load1 (.reg 0), none, none⟩, ⟨.call true false 116 [(.reg 1)], none, none⟩, ⟨.mov (.reg 2), (some 2), none⟩])
     .ret)
     (.seq (.region [⟨.bin .eql (.loc 4) (.cst (.int .i64 3)), none, none⟩, ⟨.mov (.reg 0), (some 8), none⟩])
     (.cond (.loc 8)
      (.seq (.region [⟨.fieldAddr 1 (.loc 1), none, none⟩, ⟨.load1 (.reg 0), none, none⟩, ⟨.call true false 117 [(.reg 1)], none, none⟩, ⟨.mov (.reg 2), (some 2), none⟩])
      .ret)
      (.seq (.seq (.region [⟨.bin .eql (.loc 4) (.cst (.int .i64 4)), none, none⟩, ⟨.mov (.reg 0), (some 9), none⟩])
      (.cond (.loc 9)
       .skip
       (.region [⟨.bin .eql (.loc 4) (.cst (.int .i64 5)), none, none⟩, ⟨.mov (.reg 0), (some 9), none⟩])))
      (.cond (.loc 9)
       (.seq (.region [⟨.fieldAddr 2 (.loc 1), none, none⟩, ⟨.load1 (.reg 0), none, none⟩, ⟨.call true false 118 [(.reg 1)], none, none⟩, ⟨.mov (.reg 2), none, none⟩, ⟨.extract 0 (.reg 3), none, none⟩, ⟨.extract 1 (.reg 3), none, none⟩, ⟨.mov (.reg 4), none, none⟩, ⟨.mov (.reg 5), (some 3), none⟩])
       (.seq (.region [⟨.mov (.loc 3), none, none⟩, ⟨.bin .eql (.reg 0) (.cst (.int .i64 0)), none, none⟩, ⟨.mov (.reg 1), none, none⟩, ⟨.fieldAddr 0 (.loc 1), none, (some (2, true))⟩, ⟨.load1 (.reg 3), none, (some (2, true))⟩, ⟨.bin .eql (.reg 4) (.cst (.int .i64 4)), none, (some (2, true))⟩, ⟨.mov (.reg 5), none, (some (2, true))⟩, ⟨.fieldAddr 2 (.loc 1), none, (some (6, false))⟩, ⟨.load1 (.reg 7), none, (some (6, false))⟩, ⟨.bin .neq (.reg 8) (.cst (.str [])), none, (some (6, false))⟩, ⟨.pick (.reg 6) (.cst (.bool true)) (.reg 9), none, (some (2, true))⟩, ⟨.pick (.reg 2) (.reg 10) (.cst (.bool false)), none, none⟩, ⟨.mov (.reg 11), (some 2), none⟩])
       .ret))
       .skip))))))))))))
 (.seq (.region [⟨.mov (.cst (.bool false)), (some 2), none⟩])
 .ret)))⟩
theorem c85 : compFunc Tryz.prog opts a85 Tryz.f85 = some t85 := by kernel_rfl
/-- pennant/core.plain$1 -/
def a86 : Ann := { slots := [0, 1, 2], lb := [1], mu := [], trunc := [], draws := [] }
def t86 : TFunc := ⟨1, 3, [.loc 2],
 (.seq (.region [⟨.boxL 1 (.loc 0), none, none⟩, ⟨.mov (.cst (.bool false)), (some 2), none⟩])
 (.seq (.region [⟨.loadN 5 (.loc 1), none, none⟩, ⟨.call false false 43 [(.reg 0)], none, none⟩, ⟨.un .not (.reg 1), none, none⟩, ⟨.mov (.reg 2), (some 2), none⟩])
 .ret))⟩
theorem c86 : compFunc Tryz.prog opts a86 Tryz.f86 = some t86 := by kernel_rfl
/-- (*pennant/core.checker).formed -/
def a87 : Ann := { slots := [0, 1, 2, 3, 4, 5, 6, 7, 8, 73, 75, 76, 88, 100], lb := [5, 3], mu := [], trunc := [], draws := [(8, ⟨[0, 0, 2, 0, 8, 24, 56, 120, 248, 511, 1023], [0, 1, 2, 3, 4, 5, 6, 7, 8], [(9, [], [10])]⟩), (11, ⟨[0, 0, 2, 0, 8, 24, 56, 120, 255, 511], [0, 1, 2, 3, 4, 5, 6, 7], [(8, [], [9])]⟩), (14, ⟨[0, 0, 2, 0, 8, 24, 56, 120, 255, 511], [0, 1, 2, 3, 4, 5, 6, 7], [(8, [], [9])]⟩)] }
def t87 : TFunc := ⟨2, 14, [.loc 4],
 (.seq (.region [⟨.boxH 55 (.loc 0), (some 2), none⟩, ⟨.boxL 3 (.loc 1), none, none⟩, ⟨.mov (.cst (.bool false)), (some 4), none⟩])
 (.seq (.region [⟨.loadN 5 (.loc 3), none, none⟩, ⟨.call false false 60 [(.reg 0)], none, none⟩, ⟨.mov (.reg 1), none, none⟩, ⟨.extract 0 (.reg 2), none, none⟩, ⟨.extract 1 (.reg 2), none, none⟩, ⟨.allocL 5 [(.bool false), (.int .i64 0), (.bool false), (.str [])], none, none⟩, ⟨.store 4 (.reg 5) (.reg 3), none, none⟩, ⟨.mov (.reg 4), (some 6), none⟩])
 (.seq (.region [⟨.fieldAddr 0 (.loc 3), none, none⟩, ⟨.load1 (.reg 0), none, none⟩, ⟨.bin .eql (.reg 1) (.cst (.int .i64 7)), none, none⟩, ⟨.mov (.reg 2), (some 7), none⟩])
 (.seq (.seq (.region [⟨.mov (.loc 6), none, none⟩, ⟨.un .not (.reg 0), none, none⟩, ⟨.mov (.reg 1), none, none⟩, ⟨.fieldAddr 4 (.loc 3), none, (some (2, false))⟩, ⟨.load1 (.reg 3), none, (some (2, false))⟩, ⟨.len .sl (.reg 4), none, (some (2, false))⟩, ⟨.fieldAddr 1 (.loc 5), none, (some (2, false))⟩, ⟨.load1 (.reg 6), none, (some (2, false))⟩, ⟨.bin .lss (.reg 5) (.reg 7), none, (some (2, false))⟩, ⟨.pick (.reg 2) (.cst (.bool true)) (.reg 8), none, none⟩, ⟨.mov (.reg 9), none, none⟩, ⟨.fieldAddr 4 (.loc 3), none, (some (10, false))⟩, ⟨.load1 (.reg 11), none, (some (10, false))⟩, ⟨.len .sl (.reg 12), none, (some (10, false))⟩, ⟨.fieldAddr 1 (.loc 5), none, (some (10, false))⟩, ⟨.load1 (.reg 14), none, (some (10, false))⟩, ⟨.bin .gtr (.reg 13) (.reg 15), none, (some (10, false))⟩, ⟨.mov (.reg 16), none, (some (10, false))⟩, ⟨.fieldAddr 2 (.loc 5), none, (some (17, true))⟩, ⟨.load1 (.reg 18), none, (some (17, true))⟩, ⟨.un .not (.reg 19), none, (some (17, true))⟩, ⟨.pick (.reg 17) (.reg 20) (.cst (.bool false)), none, (some (10, false))⟩, ⟨.pick (.reg 10) (.cst (.bool true)) (.reg 21), none, none⟩, ⟨.mov (.reg 22), none, none⟩, ⟨.fieldAddr 0 (.loc 5), none, (some (23, false))⟩, ⟨.load1 (.reg 24), none, (some (23, false))⟩, ⟨.un .not (.reg 25), none, (some (23, false))⟩, ⟨.mov (.reg 26), none, (some (23, false))⟩, ⟨.fieldAddr 1 (.loc 3), none, (some (27, true))⟩, ⟨.load1 (.reg 28), none, (some (27, true))⟩, ⟨.bin .neq (.reg 29) (.cst (.int .i64 0)), none, (some (27, true))⟩, ⟨.pick (.reg 27) (.reg 30) (.cst (.bool false)), none, (some (23, false))⟩, ⟨.pick (.reg 23) (.cst (.bool true)) (.reg 31), none, none⟩, ⟨.mov (.reg 32), none, none⟩, ⟨.mov (.loc 7), none, (some (33, false))⟩, ⟨.un .not (.reg 34), none, (some (33, false))⟩, ⟨.mov (.reg 35), none, (some (33, false))⟩, ⟨.fieldAddr 2 (.loc 3), none, (some (36, true))⟩, ⟨.load1 (.reg 37), none, (some (36, true))⟩, ⟨.len .sl (.reg 38), none, (some (36, true))⟩, ⟨.bin .gtr (.reg 39) (.cst (.int .i64 0)), none, (some (36, true))⟩, ⟨.mov (.reg 40), none, (some (36, true))⟩, ⟨.fieldAddr 3 (.loc 3), none, (some (41, false))⟩, ⟨.load1 (.reg 42), none, (some (41, false))⟩, ⟨.pick (.reg 41) (.cst (.bool true)) (.reg 43), none, (some (36, true))⟩, ⟨.pick (.reg 36) (.reg 44) (.cst (.bool false)), none, (some (33, false))⟩, ⟨.pick (.reg 33) (.cst (.bool true)) (.reg 45), none, none⟩, ⟨.mov (.reg 46), none, none⟩, ⟨.fieldAddr 3 (.loc 3), none, (some (47, false))⟩, ⟨.load1 (.reg 48), none, (some (47, false))⟩, ⟨.mov (.reg 49), none, (some (47, false))⟩, ⟨.fieldAddr 2 (.loc 3), none, (some (50, true))⟩, ⟨.load1 (.reg 51), none, (some (50, true))⟩, ⟨.len .sl (.reg 52), none, (some (50, true))⟩, ⟨.bin .eql (.reg 53) (.cst (.int .i64 0)), none, (some (50, true))⟩, ⟨.pick (.reg 50) (.reg 54) (.cst (.bool false)), none, (some (47, false))⟩, ⟨.pick (.reg 47) (.cst (.bool true)) (.reg 55), (some 9), none⟩])
 (.cond (.loc 9)
  (.seq (.region [⟨.mov (.cst (.bool false)), (some 4), none⟩])
  .ret)
  .skip))
 (.seq (.region [⟨.allocH 135 [.nilf], (some 8), none⟩, ⟨.store 1 (.reg 0) (.fn 119), none, none⟩])
 (.seq (.seq (.region [⟨.fieldAddr 0 (.loc 3), none, none⟩, ⟨.load1 (.reg 0), (some 10), none⟩])
 (.block 0
  (.seq (.region [⟨.bin .eql (.loc 10) (.cst (.int .i64 1)), none, none⟩, ⟨.mov (.reg 0), (some 11), none⟩])
  (.cond (.loc 11)
   (.seq (.draw [0, 1, 2, 3, 4, 5, 6, 7, 8] [(9, [], [10])] [⟨.load1 (.loc 8), none, none⟩, ⟨.fieldAddr 1 (.loc 3), none, none⟩, ⟨.load1 (.reg 1), none, none⟩, ⟨.load1 (.loc 2), none, none⟩, ⟨.nilCheck (.reg 3), none, none⟩, ⟨.fieldAddr 0 (.reg 4), none, none⟩, ⟨.fieldAddr 7 (.reg 5), none, none⟩, ⟨.load1 (.reg 6), none, none⟩, ⟨.len .sl (.reg 7), none, none⟩, ⟨.callv (.reg 0) [(.reg 2), (.reg 8)], none, none⟩, ⟨.mov (.reg 9), (some 4), none⟩])
   .ret)
   (.seq (.seq (.region [⟨.bin .eql (.loc 10) (.cst (.int .i64 2)), none, none⟩, ⟨.mov (.reg 0), (some 12), none⟩])
   (.cond (.loc 12)
    .skip
    (.region [⟨.bin .eql (.loc 10) (.cst (.int .i64 4)), none, none⟩, ⟨.mov (.reg 0), (some 12), none⟩])))
   (.cond (.loc 12)
    (.seq (.draw [0, 1, 2, 3, 4, 5, 6, 7] [(8, [], [9])] [⟨.load1 (.loc 8), none, none⟩, ⟨.fieldAddr 1 (.loc 3), none, none⟩, ⟨.load1 (.reg 1), none, none⟩, ⟨.load1 (.loc 2), none, none⟩, ⟨.nilCheck (.reg 3), none, none⟩, ⟨.fieldAddr 0 (.reg 4), none, none⟩, ⟨.fieldAddr 6 (.reg 5), none, none⟩, ⟨.load1 (.reg 6), none, none⟩, ⟨.callv (.reg 0) [(.reg 2), (.reg 7)], none, none⟩, ⟨.mov (.reg 8), (some 4), none⟩])
    .ret)
    (.seq (.seq (.region [⟨.bin .eql (.loc 10) (.cst (.int .i64 3)), none, none⟩, ⟨.mov (.reg 0), (some 13), none⟩])
    (.cond (.loc 13)
     .skip
     (.region [⟨.bin .eql (.loc 10) (.cst (.int .i64 5)), none, none⟩, ⟨.mov (.reg 0), (some 13), none⟩])))
    (.cond (.loc 13)
     (.seq (.draw [0, 1, 2, 3, 4, 5, 6, 7] [(8, [], [9])] [⟨.load1 (.loc 8), none, none⟩, ⟨.fieldAddr 1 (.loc 3), none, none⟩, ⟨.load1 (.reg 1), none, none⟩, ⟨.load1 (.loc 2), none, none⟩, ⟨.nilCheck (.reg 3), none, none⟩, ⟨.fieldAddr 0 (.reg 4), none, none⟩, ⟨.fieldAddr 5 (.reg 5), none, none⟩, ⟨.load1 (.reg 6), none, none⟩, ⟨.callv (.reg 0) [(.reg 2), (.reg 7)], none, none⟩, ⟨.mov (.reg 8), (some 4), none⟩])
     .ret)
     .skip))))))))
 (.seq (.region [⟨.fieldAddr 2 (.loc 3), none, none⟩, ⟨.load1 (.reg 0), none, none⟩, ⟨.mkFn 121 [] [(.loc 8), (.loc 2)], none, none⟩, ⟨.call false false 120 [(.reg 1), (.reg 2)], none, none⟩, ⟨.un .not (.reg 3), none, none⟩, ⟨.mov (.reg 4), (some 4), none⟩])
 .ret)))))))⟩
theorem c87 : compFunc Tryz.prog opts a87 Tryz.f87 = some t87 := by kernel_rfl
/-- slices.Sorted[int] -/
def a88 : Ann := { slots := [0, 2, 3], lb := [], mu := [], trunc := [], draws := [] }
def t88 : TFunc := ⟨1, 3, [.loc 1],
 (.seq (.region [⟨.mov (.cst (.sl .nil [])), (some 1), none⟩])
 (.seq (.region [⟨.mov (.loc 0), none, none⟩, ⟨.call false false 122 [(.reg 0)], none, none⟩, ⟨.mov (.reg 1), (some 2), none⟩])
 (.seq (.region [⟨.mov (.loc 2), none, none⟩, ⟨.call false false 123 [(.reg 0)], none, none⟩])
 (.seq (.region [⟨.mov (.loc 2), none, none⟩, ⟨.mov (.reg 0), (some 1), none⟩])
 .ret))))⟩
theorem c88 : compFunc Tryz.prog opts a88 Tryz.f88 = some t88 := by kernel_rfl
/-- maps.Keys[map[int]pennant/core.seen,int,pennant/core.seen] -/
def a89 : Ann := { slots := [0, 1, 2], lb := [], mu := [], trunc := [], draws := [] }
def t89 : TFunc := ⟨1, 3, [.loc 2],
 (.seq (.region [⟨.boxH 56 (.loc 0), (some 1), none⟩, ⟨.mov (.cst .nilf), (some 2), none⟩])
 (.seq (.region [⟨.mkFn 124 [] [(.loc 1)], none, none⟩, ⟨.mov (.reg 0), (some 2), none⟩])
 .ret))⟩
theorem c89 : compFunc Tryz.prog opts a89 Tryz.f89 = some t89 := by kernel_rfl
/-- pennant/core.free$1 -/
def a90 : Ann := { slots := [0, 1, 2, 5, 7, 8, 9, 10, 15], lb := [], mu := [], trunc := [], draws := [] }
def t90 : TFunc := ⟨3, 9, [],
 (.seq (.region [⟨.fieldAddr 2 (.loc 1), none, none⟩, ⟨.load1 (.reg 0), (some 4), none⟩, ⟨.len .sl (.reg 1), (some 5), none⟩, ⟨.mov (.cst (.int .i64 0)), (some 6), none⟩])
 (.block 0
  (.loop
   (.seq (.region [⟨.bin .lss (.loc 6) (.loc 5), (some 7), none⟩])
   (.seq (.cond (.loc 7)
    .skip
    (.exit 0))
   (.seq (.block 1
    (.seq (.region [⟨.indexAddrS 1 (.loc 4) (.loc 6), none, none⟩, ⟨.load1 (.reg 0), none, none⟩, ⟨.mov (.reg 1), (some 3), none⟩])
    (.seq (.region [⟨.fieldAddr 0 (.loc 1), none, none⟩, ⟨.load1 (.reg 0), none, none⟩, ⟨.bin .eql (.reg 1) (.cst (.int .i64 7)), (some 8), none⟩])
    (.cond (.loc 8)
     (.region [⟨.load1 (.loc 2), none, none⟩, ⟨.mov (.loc 3), none, none⟩, ⟨.load1 (.loc 2), none, none⟩, ⟨.mov (.loc 3), none, none⟩, ⟨.lookup (.leaf .int) (.agg [(.int .i64 0)]) false (.reg 2) (.reg 3), none, none⟩, ⟨.field 0 1 false (.reg 4), none, none⟩, ⟨.mov (.loc 0), none, none⟩, ⟨.bin .add (.reg 5) (.reg 6), none, none⟩, ⟨.build [(.int .i64 0)] [(0, 1, (.reg 7))], none, none⟩, ⟨.update (.leaf .int) (.reg 0) (.reg 1) (.reg 8), none, none⟩])
     .skip))))
   (.region [⟨.bin .add (.loc 6) (.cst (.int .i64 1)), none, none⟩, ⟨.mov (.reg 0), (some 6), none⟩])))))))⟩
theorem c90 : compFunc Tryz.prog opts a90 Tryz.f90 = some t90 := by kernel_rfl
/-- slices.Equal[[]int,int] -/
def a92 : Ann := { slots := [0, 1, 4, 5, 10, 12, 13, 14, 24], lb := [], mu := [], trunc := [], draws := [(6, ⟨[0, 0, 3, 7, 0, 0, 48, 112, 255], [0, 1, 2, 3, 4, 5, 6, 7, 8], []⟩)] }
def t92 : TFunc := ⟨2, 9, [.loc 2],
 (.seq (.region [⟨.mov (.cst (.bool false)), (some 2), none⟩])
 (.seq (.seq (.region [⟨.mov (.loc 0), none, none⟩, ⟨.len .sl (.reg 0), none, none⟩, ⟨.mov (.loc 1), none, none⟩, ⟨.len .sl (.reg 2), none, none⟩, ⟨.bin .neq (.reg 1) (.reg 3), (some 4), none⟩])
 (.cond (.loc 4)
  (.seq (.region [⟨.mov (.cst (.bool false)), (some 2), none⟩])
  .ret)
  .skip))
 (.seq (.seq (.region [⟨.mov (.loc 0), none, none⟩, ⟨.len .sl (.reg 0), (some 5), none⟩, ⟨.mov (.cst (.int .i64 0)), (some 6), none⟩])
 (.block 0
  (.loop
   (.seq (.region [⟨.bin .lss (.loc 6) (.loc 5), (some 7), none⟩])
   (.seq (.cond (.loc 7)
    .skip
    (.exit 0))
   (.seq (.block 1
    (.seq (.region [⟨.mov (.loc 6), none, none⟩, ⟨.mov (.reg 0), (some 3), none⟩])
    (.seq (.draw [0, 1, 2, 3, 4, 5, 6, 7, 8] [] [⟨.mov (.loc 0), none, none⟩, ⟨.mov (.loc 3), none, none⟩, ⟨.indexAddrS 1 (.reg 0) (.reg 1), none, none⟩, ⟨.load1 (.reg 2), none, none⟩, ⟨.mov (.loc 1), none, none⟩, ⟨.mov (.loc 3), none, none⟩, ⟨.indexAddrS 1 (.reg 4) (.reg 5), none, none⟩, ⟨.load1 (.reg 6), none, none⟩, ⟨.bin .neq (.reg 3) (.reg 7), (some 8), none⟩])
    (.cond (.loc 8)
     (.seq (.region [⟨.mov (.cst (.bool false)), (some 2), none⟩])
     .ret)
     .skip))))
   (.region [⟨.bin .add (.loc 6) (.cst (.int .i64 1)), none, none⟩, ⟨.mov (.reg 0), (some 6), none⟩])))))))
 (.seq (.region [⟨.mov (.cst (.bool true)), (some 2), none⟩])
 .ret))))⟩
theorem c92 : compFunc Tryz.prog opts a92 Tryz.f92 = some t92 := by kernel_rfl
/-- slices.EqualFunc[[]pennant/api.Expr,[]pennant/api.Expr,pennant/api.Expr,pennant/api.Expr] -/
def a93 : Ann := { slots := [0, 1, 2, 6, 7, 8, 9, 14, 15, 16, 17, 18, 30], lb := [9, 8], mu := [], trunc := [], draws := [] }
def t93 : TFunc := ⟨3, 13, [.loc 3],
 (.seq (.region [⟨.mov (.cst (.bool false)), (some 3), none⟩])
 (.seq (.seq (.region [⟨.mov (.loc 0), none, none⟩, ⟨.len .sl (.reg 0), none, none⟩, ⟨.mov (.loc 1), none, none⟩, ⟨.len .sl (.reg 2), none, none⟩, ⟨.bin .neq (.reg 1) (.reg 3), (some 7), none⟩])
 (.cond (.loc 7)
  (.seq (.region [⟨.mov (.cst (.bool false)), (some 3), none⟩])
  .ret)
  .skip))
 (.seq (.seq (.region [⟨.mov (.loc 0), (some 8), none⟩, ⟨.len .sl (.reg 0), (some 9), none⟩, ⟨.mov (.cst (.int .i64 0)), (some 10), none⟩])
 (.block 0
  (.loop
   (.seq (.region [⟨.bin .lss (.loc 10) (.loc 9), (some 11), none⟩])
   (.seq (.cond (.loc 11)
    .skip
    (.exit 0))
   (.seq (.block 1
    (.seq (.region [⟨.mov (.loc 10), none, none⟩, ⟨.indexAddrS 5 (.loc 8) (.loc 10), none, none⟩, ⟨.loadN 5 (.reg 1), none, none⟩, ⟨.allocL 5 [(.int .i64 0), (.int .i64 0), (.sl .nil []), (.bool false), (.sl .nil [])], none, none⟩, ⟨.mov (.reg 0), (some 4), none⟩, ⟨.store 5 (.reg 3) (.reg 2), none, none⟩])
    (.seq (.region [⟨.mov (.loc 1), none, none⟩, ⟨.mov (.loc 4), none, none⟩, ⟨.indexAddrS 5 (.reg 0) (.reg 1), none, none⟩, ⟨.loadN 5 (.reg 2), none, none⟩, ⟨.allocL 6 [(.int .i64 0), (.int .i64 0), (.sl .nil []), (.bool false), (.sl .nil [])], none, none⟩, ⟨.store 5 (.reg 4) (.reg 3), none, none⟩])
    (.seq (.region [⟨.mov (.loc 2), none, none⟩, ⟨.loadN 5 (.loc 5), none, none⟩, ⟨.loadN 5 (.loc 6), none, none⟩, ⟨.callv (.reg 0) [(.reg 1), (.reg 2)], none, none⟩, ⟨.un .not (.reg 3), (some 12), none⟩])
    (.cond (.loc 12)
     (.seq (.region [⟨.mov (.cst (.bool false)), (some 3), none⟩])
     .ret)
     .skip)))))
   (.region [⟨.bin .add (.loc 10) (.cst (.int .i64 1)), none, none⟩, ⟨.mov (.reg 0), (some 10), none⟩])))))))
 (.seq (.region [⟨.mov (.cst (.bool true)), (some 3), none⟩])
 .ret))))⟩
theorem c93 : compFunc Tryz.prog opts a93 Tryz.f93 = some t93 := by kernel_rfl
/-- pennant/api.PrimArgs -/
def a94 : Ann := { slots := [0, 2, 3, 10], lb := [3], mu := [], trunc := [], draws := [] }
def t94 : TFunc := ⟨1, 4, [.loc 1],
 (.seq (.region [⟨.mov (.cst (.int .i64 0)), (some 1), none⟩])
 (.seq (.region [⟨.build [(.int .i64 0), (.int .i64 0), (.int .i64 0), (.int .i64 0), (.int .i64 0), (.int .i64 0), (.int .i64 0), (.int .i64 0), (.int .i64 0), (.int .i64 0), (.int .i64 0), (.int .i64 0), (.int .i64 0), (.int .i64 0), (.int .i64 0), (.int .i64 0), (.int .i64 0), (.int .i64 0), (.int .i64 0), (.int .i64 0), (.int .i64 0), (.int .i64 0), (.int .i64 0), (.int .i64 0), (.int .i64 0), (.int .i64 0), (.int .i64 0), (.int .i64 0), (.int .i64 0), (.int .i64 0), (.int .i64 0), (.int .i64 0), (.int .i64 0), (.int .i64 0), (.int .i64 0), (.int .i64 0), (.int .i64 0), (.int .i64 0), (.int .i64 0), (.int .i64 0), (.int .i64 0), (.int .i64 0)] [(0, 1, (.cst (.int .i64 2))), (1, 1, (.cst (.int .i64 1))), (2, 1, (.cst (.int .i64 2))), (3, 1, (.cst (.int .i64 1))), (4, 1, (.cst (.int .i64 1))), (5, 1, (.cst (.int .i64 2))), (6, 1, (.cst (.int .i64 2))), (7, 1, (.cst (.int .i64 1))), (8, 1, (.cst (.int .i64 2))), (9, 1, (.cst (.int .i64 2))), (10, 1, (.cst (.int .i64 2))), (11, 1, (.cst (.int .i64 2))), (12, 1, (.cst (.int .i64 2))), (13, 1, (.cst (.int .i64 2))), (14, 1, (.cst (.int .i64 2))), (15, 1, (.cst (.int .i64 1))), (16, 1, (.cst (.int .i64 1))), (17, 1, (.cst (.int .i64 1))), (18, 1, (.cst (.int .i64 1))), (19, 1, (.cst (.int .i64 2))), (20, 1, (.cst (.int .i64 1))), (21, 1, (.cst (.int .i64 2))), (22, 1, (.cst (.int .i64 3))), (23, 1, (.cst (.int .i64 1))), (24, 1, (.cst (.int .i64 1))), (25, 1, (.cst (.int .i64 1))), (26, 1, (.cst (.int .i64 1))), (27, 1, (.cst (.int .i64 2))), (28, 1, (.cst (.int .i64 1))), (29, 1, (.cst (.int .i64 2))), (30, 1, (.cst (.int .i64 3))), (31, 1, (.cst (.int .i64 1))), (32, 1, (.cst (.int .i64 2))), (33, 1, (.cst (.int .i64 1))), (34, 1, (.cst (.int .i64 2))), (35, 1, (.cst (.int .i64 3))), (36, 1, (.cst (.int .i64 1))), (37, 1, (.cst (.int .i64 0))), (38, 1, (.cst (.int .i64 1))), (39, 1, (.cst (.int .i64 1))), (40, 1, (.cst (.int .i64 0))), (41, 1, (.cst (.int .i64 0)))], none, none⟩, ⟨.allocL 2 [(.int .i64 0), (.int .i64 0), (.int .i64 0), (.int .i64 0), (.int .i64 0), (.int .i64 0), (.int .i64 0), (.int .i64 0), (.int .i64 0), (.int .i64 0), (.int .i64 0), (.int .i64 0), (.int .i64 0), (.int .i64 0), (.int .i64 0), (.int .i64 0), (.int .i64 0), (.int .i64 0), (.int .i64 0), (.int .i64 0), (.int .i64 0), (.int .i64 0), (.int .i64 0), (.int .i64 0), (.int .i64 0), (.int .i64 0), (.int .i64 0), (.int .i64 0), (.int .i64 0), (.int .i64 0), (.int .i64 0), (.int .i64 0), (.int .i64 0), (.int .i64 0), (.int .i64 0), (.int .i64 0), (.int .i64 0), (.int .i64 0), (.int .i64 0), (.int .i64 0), (.int .i64 0), (.int .i64 0)], none, none⟩, ⟨.store 42 (.reg 1) (.reg 0), none, none⟩])
 (.seq (.seq (.region [⟨.mov (.loc 0), none, none⟩, ⟨.bin .lss (.reg 0) (.cst (.int .i64 0)), none, none⟩, ⟨.mov (.reg 1), none, none⟩, ⟨.mov (.loc 0), none, (some (2, false))⟩, ⟨.bin .geq (.reg 3) (.cst (.int .i64 42)), none, (some (2, false))⟩, ⟨.pick (.reg 2) (.cst (.bool true)) (.reg 4), (some 3), none⟩])
 (.cond (.loc 3)
  (.seq (.region [⟨.mov (.cst (.int .i64 (-1))), (some 1), none⟩])
  .ret)
  .skip))
 (.seq (.region [⟨.mov (.loc 0), none, none⟩, ⟨.indexAddrA 42 1 (.loc 2) (.reg 0), none, none⟩, ⟨.load1 (.reg 1), none, none⟩, ⟨.mov (.reg 2), (some 1), none⟩])
 .ret))))⟩
theorem c94 : compFunc Tryz.prog opts a94 Tryz.f94 = some t94 := by kernel_rfl
/-- pennant/api.PrimName -/
def a95 : Ann := { slots := [0, 2, 3, 10], lb := [3], mu := [], trunc := [], draws := [] }
def t95 : TFunc := ⟨1, 4, [.loc 1],
 (.seq (.region [⟨.mov (.cst (.str [])), (some 1), none⟩])
 (.seq (.region [⟨.build [(.str []), (.str []), (.str []), (.str []), (.str []), (.str []), (.str []), (.str []), (.str []), (.str []), (.str []), (.str []), (.str []), (.str []), (.str []), (.str []), (.str []), (.str []), (.str []), (.str []), (.str []), (.str []), (.str []), (.str []), (.str []), (.str []), (.str []), (.str []), (.str []), (.str []), (.str []), (.str []), (.str []), (.str []), (.str []), (.str []), (.str []), (.str []), (.str []), (.str []), (.str []), (.str [])] [(0, 1, (.cst (.str [101, 113, 63]))), (1, 1, (.cst (.str [112, 97, 105, 114, 63]))), (2, 1, (.cst (.str [99, 111, 110, 115]))), (3, 1, (.cst (.str [99, 97, 114]))), (4, 1, (.cst (.str [99, 100, 114]))), (5, 1, (.cst (.str [115, 101, 116, 45, 99, 97, 114, 33]))), (6, 1, (.cst (.str [115, 101, 116, 45, 99, 100, 114, 33]))), (7, 1, (.cst (.str [105, 110, 116, 101, 103, 101, 114, 63]))), (8, 1, (.cst (.str [37, 43]))), (9, 1, (.cst (.str [37, 45]))), (10, 1, (.cst (.str [37, 42]))), (11, 1, (.cst (.str [113, 117, 111, 116, 105, 101, 110, 116]))), (12, 1, (.cst (.str [114, 101, 109, 97, 105, 110, 100, 101, 114]))), (13, 1, (.cst (.str [37, 61]))), (14, 1, (.cst (.str [37, 60]))), (15, 1, (.cst (.str [99, 104, 97, 114, 63]))), (16, 1, (.cst (.str [99, 104, 97, 114, 45, 62, 105, 110, 116, 101, 103, 101, 114]))), (17, 1, (.cst (.str [105, 110, 116, 101, 103, 101, 114, 45, 62, 99, 104, 97, 114]))), (18, 1, (.cst (.str [115, 116, 114, 105, 110, 103, 63]))), (19, 1, (.cst (.str [109, 97, 107, 101, 45, 115, 116, 114, 105, 110, 103]))), (20, 1, (.cst (.str [115, 116, 114, 105, 110, 103, 45, 108, 101, 110, 103, 116, 104]))), (21, 1, (.cst (.str [115, 116, 114, 105, 110, 103, 45, 114, 101, 102]))), (22, 1, (.cst (.str [115, 116, 114, 105, 110, 103, 45, 115, 101, 116, 33]))), (23, 1, (.cst (.str [115, 121, 109, 98, 111, 108, 63]))), (24, 1, (.cst (.str [115, 121, 109, 98, 111, 108, 45, 62, 115, 116, 114, 105, 110, 103]))), (25, 1, (.cst (.str [115, 116, 114, 105, 110, 103, 45, 62, 115, 121, 109, 98, 111, 108]))), (26, 1, (.cst (.str [118, 101, 99, 116, 111, 114, 63]))), (27, 1, (.cst (.str [109, 97, 107, 101, 45, 118, 101, 99, 116, 111, 114]))), (28, 1, (.cst (.str [118, 101, 99, 116, 111, 114, 45, 108, 101, 110, 103, 116, 104]))), (29, 1, (.cst (.str [118, 101, 99, 116, 111, 114, 45, 114, 101, 102]))), (30, 1, (.cst (.str [118, 101, 99, 116, 111, 114, 45, 115, 101, 116, 33]))), (31, 1, (.cst (.str [98, 121, 116, 101, 118, 101, 99, 116, 111, 114, 63]))), (32, 1, (.cst (.str [109, 97, 107, 101, 45, 98, 121, 116, 101, 118, 101, 99, 116, 111, 114]))), (33, 1, (.cst (.str [98, 121, 116, 101, 118, 101, 99, 116, 111, 114, 45, 108, 101, 110, 103, 116, 104]))), (34, 1, (.cst (.str [98, 121, 116, 101, 118, 101, 99, 116, 111, 114, 45, 117, 56, 45, 114, 101, 102]))), (35, 1, (.cst (.str [98, 121, 116, 101, 118, 101, 99, 116, 111, 114, 45, 117, 56, 45, 115, 101, 116, 33]))), (36, 1, (.cst (.str [112, 114, 111, 99, 101, 100, 117, 114, 101, 63]))), (37, 1, (.cst (.str [114, 101, 97, 100, 45, 117, 56]))), (38, 1, (.cst (.str [119, 114, 105, 116, 101, 45, 117, 56]))), (39, 1, (.cst (.str [37, 104, 97, 108, 116]))), (40, 1, (.cst (.str [101, 111, 102, 45, 111, 98, 106, 101, 99, 116]))), (41, 1, (.cst (.str [37, 110, 111, 110, 101])))], none, none⟩, ⟨.allocL 2 [(.str []), (.str []), (.str []), (.str []), (.str []), (.str []), (.str []), (.str []), (.str []), (.str []), (.str []), (.str []), (.str []), (.str []), (.str []), (.str []), (.str []), (.str []), (.str []), (.str []), (.str []), (.str []), (.str []), (.str []), (.str []), (.str []), (.str []), (.str []), (.str []), (.str []), (.str []), (.str []), (.str []), (.str []), (.str []), (.str []), (.str []), (.str []), (.str []), (.str []), (.str []), (.str [])], none, none⟩, ⟨.store 42 (.reg 1) (.reg 0), none, none⟩])
 (.seq (.seq (.region [⟨.mov (.loc 0), none, none⟩, ⟨.bin .lss (.reg 0) (.cst (.int .i64 0)), none, none⟩, ⟨.mov (.reg 1), none, none⟩, ⟨.mov (.loc 0), none, (some (2, false))⟩, ⟨.bin .geq (.reg 3) (.cst (.int .i64 42)), none, (some (2, false))⟩, ⟨.pick (.reg 2) (.cst (.bool true)) (.reg 4), (some 3), none⟩])
 (.cond (.loc 3)
  (.seq (.region [⟨.mov (.cst (.str [])), (some 1), none⟩])
  .ret)
  .skip))
 (.seq (.region [⟨.mov (.loc 0), none, none⟩, ⟨.indexAddrA 42 1 (.loc 2) (.reg 0), none, none⟩, ⟨.load1 (.reg 1), none, none⟩, ⟨.mov (.reg 2), (some 1), none⟩])
 .ret))))⟩
theorem c95 : compFunc Tryz.prog opts a95 Tryz.f95 = some t95 := by kernel_rfl
/-- internal/strconv.Itoa -/
def a96 : Ann := { slots := [0, 2], lb := [], mu := [], trunc := [], draws := [] }
def t96 : TFunc := ⟨1, 2, [.loc 1],
 (.seq (.region [⟨.mov (.cst (.str [])), (some 1), none⟩])
 (.seq (.region [⟨.mov (.loc 0), none, none⟩, ⟨.call true false 126 [(.reg 0), (.cst (.int .i64 10))], none, none⟩, ⟨.mov (.reg 1), (some 1), none⟩])
 .ret))⟩
theorem c96 : compFunc Tryz.prog opts a96 Tryz.f96 = some t96 := by kernel_rfl
/-- pennant/core.variable -/
def a97 : Ann := { slots := [0, 2], lb := [], mu := [], trunc := [], draws := [] }
def t97 : TFunc := ⟨1, 2, [.loc 1],
 (.seq (.region [⟨.mov (.cst (.str [])), (some 1), none⟩])
 (.seq (.region [⟨.mov (.loc 0), none, none⟩, ⟨.call true false 61 [(.reg 0)], none, none⟩, ⟨.bin .add (.cst (.str [118])) (.reg 1), none, none⟩, ⟨.mov (.reg 2), (some 1), none⟩])
 .ret))⟩
theorem c97 : compFunc Tryz.prog opts a97 Tryz.f97 = some t97 := by kernel_rfl
/-- (*strings.Builder).Grow -/
def a98 : Ann := { slots := [0, 1, 7, 21], lb := [], mu := [], trunc := [], draws := [(3, ⟨[0, 1, 3, 7, 15, 0, 32, 96, 224, 480, 1023, 0, 4095], [0, 1, 2, 3, 4, 5, 6, 7, 8, 9, 10, 11, 12], []⟩)] }
def t98 : TFunc := ⟨2, 4, [],
 (.seq (.region [⟨.mov (.loc 0), none, none⟩, ⟨.prim 99 [(.reg 0)], none, none⟩])
 (.seq (.seq (.region [⟨.mov (.loc 1), none, none⟩, ⟨.bin .lss (.reg 0) (.cst (.int .i64 0)), (some 2), none⟩])
 (.cond (.loc 2)
  (.region [⟨.bad, none, none⟩, ⟨.bad, none, none⟩])
  .skip))
 (.seq (.draw [0, 1, 2, 3, 4, 5, 6, 7, 8, 9, 10, 11, 12] [] [⟨.mov (.loc 0), none, none⟩, ⟨.nilCheck (.reg 0), none, none⟩, ⟨.fieldAddr 1 (.reg 1), none, none⟩, ⟨.load1 (.reg 2), none, none⟩, ⟨.cap (.reg 3), none, none⟩, ⟨.mov (.loc 0), none, none⟩, ⟨.nilCheck (.reg 5), none, none⟩, ⟨.fieldAddr 1 (.reg 6), none, none⟩, ⟨.load1 (.reg 7), none, none⟩, ⟨.len .sl (.reg 8), none, none⟩, ⟨.bin .sub (.reg 4) (.reg 9), none, none⟩, ⟨.mov (.loc 1), none, none⟩, ⟨.bin .lss (.reg 10) (.reg 11), (some 3), none⟩])
 (.cond (.loc 3)
  (.region [⟨.mov (.loc 0), none, none⟩, ⟨.mov (.loc 1), none, none⟩, ⟨.call false false 127 [(.reg 0), (.reg 1)], none, none⟩])
  .skip))))⟩
theorem c98 : compFunc Tryz.prog opts a98 Tryz.f98 = some t98 := by kernel_rfl
/-- (*pennant/datum.writer).datum -/
def a100 : Ann := { slots := [0, 1, 3, 5, 9, 15, 28, 37, 43, 59, 65, 79, 94, 100], lb := [3], mu := [], trunc := [], draws := [(6, ⟨[0, 1, 3, 0, 8, 0, 32, 96, 248, 504, 1023], [0, 1, 2, 3, 4, 5, 6, 7, 8, 9], [(10, [], [])]⟩), (9, ⟨[0, 1, 3, 0, 8, 31], [0, 1, 2, 3, 4], [(5, [], [])]⟩), (12, ⟨[0, 1, 3, 0, 8, 24, 56, 127], [0, 1, 2, 3, 4], [(5, [], [6]), (7, [], [])]⟩), (13, ⟨[0, 1, 3, 0, 8, 24, 63], [0, 1, 2, 3, 4, 5], [(6, [], [])]⟩)] }
def t100 : TFunc := ⟨2, 14, [],
 (.seq (.region [⟨.boxL 2 (.loc 1), none, none⟩])
 (.seq (.region [⟨.fieldAddr 0 (.loc 2), none, none⟩, ⟨.load1 (.reg 0), (some 3), none⟩])
 (.block 0
  (.seq (.region [⟨.bin .eql (.loc 3) (.cst (.int .i64 0)), none, none⟩, ⟨.mov (.reg 0), (some 4), none⟩])
  (.cond (.loc 4)
   (.region [⟨.mov (.loc 0), none, none⟩, ⟨.nilCheck (.reg 0), none, none⟩, ⟨.fieldAddr 0 (.reg 1), none, none⟩, ⟨.call false false 64 [(.reg 2), (.cst (.str [40, 41]))], none, none⟩])
   (.seq (.region [⟨.bin .eql (.loc 3) (.cst (.int .i64 1)), none, none⟩, ⟨.mov (.reg 0), (some 5), none⟩])
   (.cond (.loc 5)
    (.draw [0, 1, 2, 3, 4, 5, 6, 7, 8, 9] [(10, [], [])] [⟨.mov (.loc 0), none, none⟩, ⟨.nilCheck (.reg 0), none, none⟩, ⟨.fieldAddr 0 (.reg 1), none, none⟩, ⟨.fieldAddr 1 (.loc 2), none, none⟩, ⟨.load1 (.reg 3), none, none⟩, ⟨.fieldAddr 1 (.loc 2), none, none⟩, ⟨.load1 (.reg 5), none, none⟩, ⟨.bin .add (.reg 6) (.cst (.int .i64 1)), none, none⟩, ⟨.slice .str (.cst (.str [102, 116])) (some (.reg 4)) (some (.reg 7)) none, none, none⟩, ⟨.bin .add (.cst (.str [35])) (.reg 8), none, none⟩, ⟨.call false false 64 [(.reg 2), (.reg 9)], none, none⟩])
    (.seq (.seq (.region [⟨.bin .eql (.loc 3) (.cst (.int .i64 2)), none, none⟩, ⟨.mov (.reg 0), (some 6), none⟩])
    (.cond (.loc 6)
     .skip
     (.region [⟨.bin .eql (.loc 3) (.cst (.int .i64 5)), none, none⟩, ⟨.mov (.reg 0), (some 6), none⟩])))
    (.cond (.loc 6)
     (.draw [0, 1, 2, 3, 4] [(5, [], [])] [⟨.mov (.loc 0), none, none⟩, ⟨.nilCheck (.reg 0), none, none⟩, ⟨.fieldAddr 0 (.reg 1), none, none⟩, ⟨.fieldAddr 2 (.loc 2), none, none⟩, ⟨.load1 (.reg 3), none, none⟩, ⟨.call false false 64 [(.reg 2), (.reg 4)], none, none⟩])
     (.seq (.region [⟨.bin .eql (.loc 3) (.cst (.int .i64 3)), none, none⟩, ⟨.mov (.reg 0), (some 7), none⟩])
     (.cond (.loc 7)
      (.seq (.seq (.region [⟨.mov (.loc 0), none, none⟩, ⟨.nilCheck (.reg 0), none, none⟩, ⟨.fieldAddr 2 (.reg 1), none, none⟩, ⟨.load1 (.reg 2), none, none⟩, ⟨.un .not (.reg 3), (some 8), none⟩])
      (.cond (.loc 8)
       (.seq (.draw [0, 1, 2, 3, 4] [(5, [], [6]), (7, [], [])] [⟨.mov (.loc 0), none, none⟩, ⟨.nilCheck (.reg 0), none, none⟩, ⟨.fieldAddr 0 (.reg 1), none, none⟩, ⟨.fieldAddr 1 (.loc 2), none, none⟩, ⟨.load1 (.reg 3), none, none⟩, ⟨.call true false 129 [(.reg 4)], none, none⟩, ⟨.bin .add (.cst (.str [35, 92])) (.reg 5), none, none⟩, ⟨.call false false 64 [(.reg 2), (.reg 6)], none, none⟩])
       .ret)
       .skip))
      (.draw [0, 1, 2, 3, 4, 5] [(6, [], [])] [⟨.mov (.loc 0), none, none⟩, ⟨.nilCheck (.reg 0), none, none⟩, ⟨.fieldAddr 0 (.reg 1), none, none⟩, ⟨.fieldAddr 1 (.loc 2), none, none⟩, ⟨.load1 (.reg 3), none, none⟩, ⟨.conv (.toInt .i32) (.reg 4), none, none⟩, ⟨.call false false 130 [(.reg 2), (.reg 5)], none, none⟩]))
      (.seq (.region [⟨.bin .eql (.loc 3) (.cst (.int .i64 4)), none, none⟩, ⟨.mov (.reg 0), (some 9), none⟩])
      (.cond (.loc 9)
       (.region [⟨.mov (.loc 0), none, none⟩, ⟨.fieldAddr 2 (.loc 2), none, none⟩, ⟨.load1 (.reg 1), none, none⟩, ⟨.call false false 131 [(.reg 0), (.reg 2)], none, none⟩])
       (.seq (.region [⟨.bin .eql (.loc 3) (.cst (.int .i64 7)), none, none⟩, ⟨.mov (.reg 0), (some 10), none⟩])
       (.cond (.loc 10)
        (.seq (.region [⟨.mov (.loc 0), none, none⟩, ⟨.nilCheck (.reg 0), none, none⟩, ⟨.fieldAddr 0 (.reg 1), none, none⟩, ⟨.call false false 64 [(.reg 2), (.cst (.str [35, 40]))], none, none⟩])
        (.seq (.region [⟨.mov (.loc 0), none, none⟩, ⟨.fieldAddr 3 (.loc 2), none, none⟩, ⟨.load1 (.reg 1), none, none⟩, ⟨.call false false 132 [(.reg 0), (.reg 2)], none, none⟩])
        (.region [⟨.mov (.loc 0), none, none⟩, ⟨.nilCheck (.reg 0), none, none⟩, ⟨.fieldAddr 0 (.reg 1), none, none⟩, ⟨.call false false 133 [(.reg 2), (.cst (.int .u8 41))], none, none⟩])))
        (.seq (.region [⟨.bin .eql (.loc 3) (.cst (.int .i64 8)), none, none⟩, ⟨.mov (.reg 0), (some 11), none⟩])
        (.cond (.loc 11)
         (.seq (.region [⟨.mov (.loc 0), none, none⟩, ⟨.nilCheck (.reg 0), none, none⟩, ⟨.fieldAddr 0 (.reg 1), none, none⟩, ⟨.call false false 64 [(.reg 2), (.cst (.str [35, 117, 56, 40]))], none, none⟩])
         (.seq (.region [⟨.mov (.loc 0), none, none⟩, ⟨.fieldAddr 2 (.loc 2), none, none⟩, ⟨.load1 (.reg 1), none, none⟩, ⟨.call false false 134 [(.reg 2)], none, none⟩, ⟨.call false false 132 [(.reg 0), (.reg 3)], none, none⟩])
         (.region [⟨.mov (.loc 0), none, none⟩, ⟨.nilCheck (.reg 0), none, none⟩, ⟨.fieldAddr 0 (.reg 1), none, none⟩, ⟨.call false false 133 [(.reg 2), (.cst (.int .u8 41))], none, none⟩])))
         (.seq (.region [⟨.bin .eql (.loc 3) (.cst (.int .i64 9)), none, none⟩, ⟨.mov (.reg 0), (some 12), none⟩])
         (.cond (.loc 12)
          (.region [⟨.mov (.loc 0), none, none⟩, ⟨.nilCheck (.reg 0), none, none⟩, ⟨.fieldAddr 0 (.reg 1), none, none⟩, ⟨.call false false 64 [(.reg 2), (.cst (.str [35, 33, 101, 111, 102]))], none, none⟩])
          (.seq (.region [⟨.bin .eql (.loc 3) (.cst (.int .i64 10)), none, none⟩, ⟨.mov (.reg 0), (some 13), none⟩])
          (.cond (.loc 13)
           (.region [⟨.mov (.loc 0), none, none⟩, ⟨.nilCheck (.reg 0), none, none⟩, ⟨.fieldAddr 0 (.reg 1), none, none⟩, ⟨.call false false 64 [(.reg 2), (.cst (.str [35, 33, 110, 111, 110, 101]))], none, none⟩])
           (.region [⟨.mov (.loc 0), none, none⟩, ⟨.loadN 5 (.loc 2), none, none⟩, ⟨.call false false 135 [(.reg 0), (.reg 1)], none, none⟩]))))))))))))))))))))))⟩
theorem c100 : compFunc Tryz.prog opts a100 Tryz.f100 = some t100 := by kernel_rfl
/-- slices.ContainsFunc[[]pennant/api.Expr,pennant/api.Expr] -/
def a104 : Ann := { slots := [0, 1, 4], lb := [], mu := [], trunc := [], draws := [] }
def t104 : TFunc := ⟨2, 3, [.loc 2],
 (.seq (.region [⟨.mov (.cst (.bool false)), (some 2), none⟩])
 (.seq (.region [⟨.mov (.loc 0), none, none⟩, ⟨.mov (.loc 1), none, none⟩, ⟨.call false false 141 [(.reg 0), (.reg 1)], none, none⟩, ⟨.bin .geq (.reg 2) (.cst (.int .i64 0)), none, none⟩, ⟨.mov (.reg 3), (some 2), none⟩])
 .ret))⟩
theorem c104 : compFunc Tryz.prog opts a104 Tryz.f104 = some t104 := by kernel_rfl
/-- (*pennant/box.converter).lambda -/
def a105 : Ann := { slots := [0, 1, 2, 3, 4, 5, 6, 7, 8, 9, 22], lb := [9, 7, 4, 3], mu := [], trunc := [], draws := [(3, ⟨[0, 0, 2, 6, 14, 31, 0, 127], [0, 1, 2, 3, 4, 6], [(5, [], []), (7, [], [])]⟩)] }
def t105 : TFunc := ⟨2, 11, [.cell 4 5 true],
 (.seq (.region [⟨.boxH 93 (.loc 0), (some 2), none⟩, ⟨.boxL 3 (.loc 1), none, none⟩, ⟨.allocL 4 [(.int .i64 0), (.int .i64 0), (.sl .nil []), (.bool false), (.sl .nil [])], none, none⟩])
 (.seq (.region [⟨.allocH 23 [(.sl .nil [])], (some 5), none⟩])
 (.seq (.region [⟨.fieldAddr 2 (.loc 3), none, none⟩, ⟨.load1 (.reg 0), none, none⟩, ⟨.mkFn 143 [] [(.loc 2), (.loc 5)], none, none⟩, ⟨.call false false 142 [(.reg 1), (.reg 2)], none, none⟩, ⟨.mov (.reg 3), (some 6), none⟩])
 (.seq (.draw [0, 1, 2, 3, 4, 6] [(5, [], []), (7, [], [])] [⟨.load1 (.loc 2), none, none⟩, ⟨.fieldAddr 4 (.loc 3), none, none⟩, ⟨.load1 (.reg 1), none, none⟩, ⟨.indexAddrS 5 (.reg 2) (.cst (.int .i64 0)), none, none⟩, ⟨.loadN 5 (.reg 3), none, none⟩, ⟨.call false false 74 [(.reg 0), (.reg 4)], none, none⟩, ⟨.allocH 26 [(.int .i64 0), (.int .i64 0), (.sl .nil []), (.bool false), (.sl .nil [])], (some 7), none⟩, ⟨.store 5 (.reg 6) (.reg 5), none, none⟩])
 (.seq (.seq (.region [⟨.load1 (.loc 5), none, none⟩, ⟨.len .sl (.reg 0), none, none⟩, ⟨.bin .gtr (.reg 1) (.cst (.int .i64 0)), (some 10), none⟩])
 (.cond (.loc 10)
  (.seq (.region [⟨.load1 (.loc 5), none, none⟩, ⟨.mkFn 145 [] [(.loc 2)], none, none⟩, ⟨.call false false 144 [(.reg 0), (.reg 1)], none, none⟩, ⟨.mov (.reg 2), (some 8), none⟩])
  (.seq (.region [⟨.load1 (.loc 5), none, none⟩, ⟨.loadN 5 (.loc 7), none, none⟩, ⟨.lit false [(.int .i64 0), (.int .i64 0), (.sl .nil []), (.bool false), (.sl .nil [])] 1 [(0, (.reg 1))], none, none⟩, ⟨.build [(.int .i64 0), (.int .i64 0), (.sl .nil []), (.bool false), (.sl .nil [])] [(0, 1, (.cst (.int .i64 7))), (2, 1, (.reg 0)), (4, 1, (.reg 2))], none, none⟩, ⟨.allocL 9 [(.int .i64 0), (.int .i64 0), (.sl .nil []), (.bool false), (.sl .nil [])], none, none⟩, ⟨.store 5 (.reg 4) (.reg 3), none, none⟩])
  (.region [⟨.loadN 5 (.loc 9), none, none⟩, ⟨.lit false [(.int .i64 0), (.int .i64 0), (.sl .nil []), (.bool false), (.sl .nil [])] 1 [(0, (.reg 0))], none, none⟩, ⟨.mov (.loc 8), none, none⟩, ⟨.append false 5 72 25 (.reg 1) (.reg 2), none, none⟩, ⟨.build [(.int .i64 0), (.int .i64 0), (.sl .nil []), (.bool false), (.sl .nil [])] [(0, 1, (.cst (.int .i64 8))), (4, 1, (.reg 3))], none, none⟩, ⟨.store 5 (.loc 7) (.reg 4), none, none⟩])))
  .skip))
 (.seq (.region [⟨.mov (.loc 6), none, none⟩, ⟨.fieldAddr 3 (.loc 3), none, none⟩, ⟨.load1 (.reg 1), none, none⟩, ⟨.loadN 5 (.loc 7), none, none⟩, ⟨.lit false [(.int .i64 0), (.int .i64 0), (.sl .nil []), (.bool false), (.sl .nil [])] 1 [(0, (.reg 3))], none, none⟩, ⟨.build [(.int .i64 0), (.int .i64 0), (.sl .nil []), (.bool false), (.sl .nil [])] [(0, 1, (.cst (.int .i64 7))), (2, 1, (.reg 0)), (3, 1, (.reg 2)), (4, 1, (.reg 4))], none, none⟩, ⟨.store 5 (.loc 4) (.reg 5), none, none⟩])
 .ret))))))⟩
theorem c105 : compFunc Tryz.prog opts a105 Tryz.f105 = some t105 := by kernel_rfl
/-- (*pennant/box.converter).set -/
def a106 : Ann := { slots := [0, 1, 4, 5, 6], lb := [5], mu := [], trunc := [], draws := [] }
def t106 : TFunc := ⟨2, 5, [.loc 2],
 (.seq (.region [⟨.mov (.cst (.bool false)), (some 2), none⟩])
 (.seq (.region [⟨.mov (.loc 0), none, none⟩, ⟨.nilCheck (.reg 0), none, none⟩, ⟨.fieldAddr 0 (.reg 1), none, none⟩, ⟨.load1 (.reg 2), none, none⟩, ⟨.mov (.loc 1), none, none⟩, ⟨.lookup (.leaf .int) (.agg [(.int .i64 0)]) true (.reg 3) (.reg 4), none, none⟩, ⟨.mov (.reg 5), none, none⟩, ⟨.extract 0 (.reg 6), none, none⟩, ⟨.extract 1 (.reg 6), none, none⟩, ⟨.allocL 3 [(.int .i64 0)], none, none⟩, ⟨.store 1 (.reg 9) (.reg 7), none, none⟩, ⟨.mov (.reg 8), (some 4), none⟩])
 (.seq (.region [⟨.mov (.loc 4), none, none⟩, ⟨.mov (.reg 0), (some 2), none⟩])
 .ret)))⟩
theorem c106 : compFunc Tryz.prog opts a106 Tryz.f106 = some t106 := by kernel_rfl
/-- pennant/box.local -/
def a107 : Ann := { slots := [0, 2], lb := [2], mu := [], trunc := [], draws := [] }
def t107 : TFunc := ⟨1, 2, [.cell 1 5 true],
 (.seq (.region [⟨.allocL 1 [(.int .i64 0), (.int .i64 0), (.sl .nil []), (.bool false), (.sl .nil [])], none, none⟩])
 (.seq (.region [⟨.mov (.loc 0), none, none⟩, ⟨.build [(.int .i64 0), (.int .i64 0), (.sl .nil []), (.bool false), (.sl .nil [])] [(0, 1, (.cst (.int .i64 2))), (1, 1, (.reg 0))], none, none⟩, ⟨.store 5 (.loc 1) (.reg 1), none, none⟩])
 .ret))⟩
theorem c107 : compFunc Tryz.prog opts a107 Tryz.f107 = some t107 := by kernel_rfl
/-- pennant/box.each[pennant/api.Expr,pennant/api.Expr] -/
def a108 : Ann := { slots := [0, 1, 4, 6, 7, 8, 9, 10], lb := [6], mu := [], trunc := [], draws := [] }
def t108 : TFunc := ⟨2, 8, [.loc 2],
 (.seq (.region [⟨.mov (.cst (.sl .nil [])), (some 2), none⟩])
 (.seq (.seq (.region [⟨.mov (.loc 0), (some 4), none⟩, ⟨.len .sl (.reg 0), (some 5), none⟩, ⟨.mov (.cst (.int .i64 0)), (some 6), none⟩])
 (.block 0
  (.loop
   (.seq (.region [⟨.bin .lss (.loc 6) (.loc 5), (some 7), none⟩])
   (.seq (.cond (.loc 7)
    .skip
    (.exit 0))
   (.seq (.block 1
    (.seq (.region [⟨.indexAddrS 5 (.loc 4) (.loc 6), none, none⟩, ⟨.loadN 5 (.reg 0), none, none⟩, ⟨.allocL 3 [(.int .i64 0), (.int .i64 0), (.sl .nil []), (.bool false), (.sl .nil [])], none, none⟩, ⟨.store 5 (.reg 2) (.reg 1), none, none⟩])
    (.region [⟨.mov (.loc 2), none, none⟩, ⟨.mov (.loc 1), none, none⟩, ⟨.loadN 5 (.loc 3), none, none⟩, ⟨.callv (.reg 1) [(.reg 2)], none, none⟩, ⟨.lit false [(.int .i64 0), (.int .i64 0), (.sl .nil []), (.bool false), (.sl .nil [])] 1 [(0, (.reg 3))], none, none⟩, ⟨.append false 5 72 25 (.reg 0) (.reg 4), none, none⟩, ⟨.mov (.reg 5), (some 2), none⟩])))
   (.region [⟨.bin .add (.loc 6) (.cst (.int .i64 1)), none, none⟩, ⟨.mov (.reg 0), (some 6), none⟩])))))))
 (.seq (.region [⟨.mov (.loc 2), none, none⟩, ⟨.mov (.reg 0), (some 2), none⟩])
 .ret)))⟩
theorem c108 : compFunc Tryz.prog opts a108 Tryz.f108 = some t108 := by kernel_rfl
/-- slices.IndexFunc[[]pennant/api.Datum,pennant/api.Datum] -/
def a115 : Ann := { slots := [0, 1, 4, 5, 7, 8, 9, 16], lb := [], mu := [], trunc := [], draws := [] }
def t115 : TFunc := ⟨2, 8, [.loc 2],
 (.seq (.region [⟨.mov (.cst (.int .i64 0)), (some 2), none⟩])
 (.seq (.seq (.region [⟨.mov (.loc 0), none, none⟩, ⟨.len .sl (.reg 0), (some 4), none⟩, ⟨.mov (.cst (.int .i64 0)), (some 5), none⟩])
 (.block 0
  (.loop
   (.seq (.region [⟨.bin .lss (.loc 5) (.loc 4), (some 6), none⟩])
   (.seq (.cond (.loc 6)
    .skip
    (.exit 0))
   (.seq (.block 1
    (.seq (.region [⟨.mov (.loc 5), none, none⟩, ⟨.mov (.reg 0), (some 3), none⟩])
    (.seq (.region [⟨.mov (.loc 1), none, none⟩, ⟨.mov (.loc 0), none, none⟩, ⟨.mov (.loc 3), none, none⟩, ⟨.indexAddrS 5 (.reg 1) (.reg 2), none, none⟩, ⟨.loadN 5 (.reg 3), none, none⟩, ⟨.callv (.reg 0) [(.reg 4)], (some 7), none⟩])
    (.cond (.loc 7)
     (.seq (.region [⟨.mov (.loc 3), none, none⟩, ⟨.mov (.reg 0), (some 2), none⟩])
     .ret)
     .skip))))
   (.region [⟨.bin .add (.loc 5) (.cst (.int .i64 1)), none, none⟩, ⟨.mov (.reg 0), (some 5), none⟩])))))))
 (.seq (.region [⟨.mov (.cst (.int .i64 (-1))), (some 2), none⟩])
 .ret)))⟩
theorem c115 : compFunc Tryz.prog opts a115 Tryz.f115 = some t115 := by kernel_rfl
/-- pennant/datum.digits -/
def a116 : Ann := { slots := [0, 2, 3, 16], lb := [], mu := [], trunc := [], draws := [] }
def t116 : TFunc := ⟨1, 4, [.loc 1],
 (.seq (.region [⟨.mov (.cst (.bool false)), (some 1), none⟩])
 (.seq (.region [⟨.mov (.loc 0), none, none⟩, ⟨.call true false 148 [(.reg 0), (.cst (.str [45]))], none, none⟩, ⟨.mov (.reg 1), (some 2), none⟩])
 (.seq (.seq (.region [⟨.mov (.loc 2), none, none⟩, ⟨.bin .eql (.reg 0) (.cst (.str [])), none, none⟩, ⟨.mov (.reg 1), none, none⟩, ⟨.mov (.loc 2), none, (some (2, false))⟩, ⟨.indexS (.reg 3) (.cst (.int .i64 0)), none, (some (2, false))⟩, ⟨.bin .eql (.reg 4) (.cst (.int .u8 48)), none, (some (2, false))⟩, ⟨.mov (.reg 5), none, (some (2, false))⟩, ⟨.mov (.loc 0), none, (some (6, true))⟩, ⟨.bin .neq (.reg 7) (.cst (.str [48])), none, (some (6, true))⟩, ⟨.pick (.reg 6) (.reg 8) (.cst (.bool false)), none, (some (2, false))⟩, ⟨.pick (.reg 2) (.cst (.bool true)) (.reg 9), (some 3), none⟩])
 (.cond (.loc 3)
  (.seq (.region [⟨.mov (.cst (.bool false)), (some 1), none⟩])
  .ret)
  .skip))
 (.seq (.region [⟨.mov (.loc 2), none, none⟩, ⟨.call false false 149 [(.reg 0), (.fn 150)], none, none⟩, ⟨.un .not (.reg 1), none, none⟩, ⟨.mov (.reg 2), (some 1), none⟩])
 .ret))))⟩
theorem c116 : compFunc Tryz.prog opts a116 Tryz.f116 = some t116 := by kernel_rfl
/-- pennant/utf.Is -/
def a117 : Ann := { slots := [0, 2], lb := [], mu := [], trunc := [], draws := [] }
def t117 : TFunc := ⟨1, 2, [.loc 1],
 (.seq (.region [⟨.mov (.cst (.bool false)), (some 1), none⟩])
 (.seq (.region [⟨.mov (.loc 0), none, none⟩, ⟨.bin .geq (.reg 0) (.cst (.int .i64 0)), none, none⟩, ⟨.mov (.reg 1), none, none⟩, ⟨.mov (.loc 0), none, (some (2, true))⟩, ⟨.bin .leq (.reg 3) (.cst (.int .i64 1114111)), none, (some (2, true))⟩, ⟨.pick (.reg 2) (.reg 4) (.cst (.bool false)), none, none⟩, ⟨.mov (.reg 5), none, none⟩, ⟨.mov (.loc 0), none, (some (6, true))⟩, ⟨.conv (.toInt .i32) (.reg 7), none, (some (6, true))⟩, ⟨.call true false 151 [(.reg 8)], none, (some (6, true))⟩, ⟨.pick (.reg 6) (.reg 9) (.cst (.bool false)), none, none⟩, ⟨.mov (.reg 10), (some 1), none⟩])
 .ret))⟩
theorem c117 : compFunc Tryz.prog opts a117 Tryz.f117 = some t117 := by kernel_rfl
/-- pennant/utf.Codes -/
def a118 : Ann := { slots := [0, 2, 3, 4, 5, 6, 8, 17, 20, 21, 22, 23], lb := [8, 5], mu := [], trunc := [], draws := [(3, ⟨[0, 1, 0, 7], [0, 1, 2, 3], []⟩)] }
def t118 : TFunc := ⟨1, 12, [.loc 1, .loc 2],
 (.seq (.region [⟨.mov (.cst (.sl .nil [])), (some 1), none⟩, ⟨.mov (.cst (.int .i64 0)), (some 2), none⟩])
 (.seq (.region [⟨.mov (.loc 0), none, none⟩, ⟨.conv .strBytes (.reg 0), none, none⟩, ⟨.call true false 152 [(.reg 1)], none, none⟩, ⟨.mov (.reg 2), none, none⟩, ⟨.extract 0 (.reg 3), none, none⟩, ⟨.extract 1 (.reg 3), none, none⟩, ⟨.allocL 4 [(.int .i64 0), (.int .i64 0)], none, none⟩, ⟨.mov (.reg 4), (some 3), none⟩, ⟨.store 2 (.reg 6) (.reg 5), none, none⟩])
 (.seq (.seq (.region [⟨.fieldAddr 0 (.loc 4), none, none⟩, ⟨.load1 (.reg 0), none, none⟩, ⟨.bin .neq (.reg 1) (.cst (.int .i64 0)), (some 7), none⟩])
 (.cond (.loc 7)
  (.seq (.draw [0, 1, 2, 3] [] [⟨.fieldAddr 0 (.loc 4), none, none⟩, ⟨.load1 (.reg 0), none, none⟩, ⟨.mov (.cst (.sl .nil [])), (some 1), none⟩, ⟨.mov (.reg 1), (some 2), none⟩])
  .ret)
  .skip))
 (.seq (.region [⟨.mov (.cst (.sl .nil [])), (some 5), none⟩])
 (.seq (.seq (.region [⟨.mov (.loc 3), (some 8), none⟩, ⟨.len .sl (.reg 0), (some 9), none⟩, ⟨.mov (.cst (.int .i64 0)), (some 10), none⟩])
 (.block 0
  (.loop
   (.seq (.region [⟨.bin .lss (.loc 10) (.loc 9), (some 11), none⟩])
   (.seq (.cond (.loc 11)
    .skip
    (.exit 0))
   (.seq (.block 1
    (.seq (.region [⟨.indexAddrS 2 (.loc 8) (.loc 10), none, none⟩, ⟨.loadN 2 (.reg 0), none, none⟩, ⟨.allocL 6 [(.int .i64 0), (.int .i64 0)], none, none⟩, ⟨.store 2 (.reg 2) (.reg 1), none, none⟩])
    (.region [⟨.mov (.loc 5), none, none⟩, ⟨.fieldAddr 0 (.loc 6), none, none⟩, ⟨.load1 (.reg 1), none, none⟩, ⟨.lit false [(.int .i64 0)] 1 [(0, (.reg 2))], none, none⟩, ⟨.append false 1 8 3 (.reg 0) (.reg 3), none, none⟩, ⟨.mov (.reg 4), (some 5), none⟩])))
   (.region [⟨.bin .add (.loc 10) (.cst (.int .i64 1)), none, none⟩, ⟨.mov (.reg 0), (some 10), none⟩])))))))
 (.seq (.region [⟨.mov (.loc 5), none, none⟩, ⟨.mov (.reg 0), (some 1), none⟩, ⟨.mov (.cst (.int .i64 0)), (some 2), none⟩])
 .ret))))))⟩
theorem c118 : compFunc Tryz.prog opts a118 Tryz.f118 = some t118 := by kernel_rfl
/-- (*pennant/core.checker).formed$1 -/
def a119 : Ann := { slots := [0, 1, 4], lb := [], mu := [], trunc := [], draws := [] }
def t119 : TFunc := ⟨2, 3, [.loc 2],
 (.seq (.region [⟨.mov (.cst (.bool false)), (some 2), none⟩])
 (.seq (.region [⟨.mov (.loc 0), none, none⟩, ⟨.bin .geq (.reg 0) (.cst (.int .i64 0)), none, none⟩, ⟨.mov (.reg 1), none, none⟩, ⟨.mov (.loc 0), none, (some (2, true))⟩, ⟨.mov (.loc 1), none, (some (2, true))⟩, ⟨.bin .lss (.reg 3) (.reg 4), none, (some (2, true))⟩, ⟨.pick (.reg 2) (.reg 5) (.cst (.bool false)), none, none⟩, ⟨.mov (.reg 6), (some 2), none⟩])
 .ret))⟩
theorem c119 : compFunc Tryz.prog opts a119 Tryz.f119 = some t119 := by kernel_rfl
/-- slices.ContainsFunc[[]int,int] -/
def a120 : Ann := { slots := [0, 1, 4], lb := [], mu := [], trunc := [], draws := [] }
def t120 : TFunc := ⟨2, 3, [.loc 2],
 (.seq (.region [⟨.mov (.cst (.bool false)), (some 2), none⟩])
 (.seq (.region [⟨.mov (.loc 0), none, none⟩, ⟨.mov (.loc 1), none, none⟩, ⟨.call false false 153 [(.reg 0), (.reg 1)], none, none⟩, ⟨.bin .geq (.reg 2) (.cst (.int .i64 0)), none, none⟩, ⟨.mov (.reg 3), (some 2), none⟩])
 .ret))⟩
theorem c120 : compFunc Tryz.prog opts a120 Tryz.f120 = some t120 := by kernel_rfl
/-- (*pennant/core.checker).formed$2 -/
def a121 : Ann := { slots := [0, 1, 2, 4], lb := [], mu := [], trunc := [], draws := [(1, ⟨[0, 0, 0, 4, 12, 28, 60, 127, 255, 511], [0, 1, 2, 3, 4, 5, 6], [(7, [], [8, 9])]⟩)] }
def t121 : TFunc := ⟨3, 4, [.loc 3],
 (.seq (.region [⟨.mov (.cst (.bool false)), (some 3), none⟩])
 (.seq (.draw [0, 1, 2, 3, 4, 5, 6] [(7, [], [8, 9])] [⟨.load1 (.loc 1), none, none⟩, ⟨.mov (.loc 0), none, none⟩, ⟨.load1 (.loc 2), none, none⟩, ⟨.nilCheck (.reg 2), none, none⟩, ⟨.fieldAddr 0 (.reg 3), none, none⟩, ⟨.fieldAddr 6 (.reg 4), none, none⟩, ⟨.load1 (.reg 5), none, none⟩, ⟨.callv (.reg 0) [(.reg 1), (.reg 6)], none, none⟩, ⟨.un .not (.reg 7), none, none⟩, ⟨.mov (.reg 8), (some 3), none⟩])
 .ret))⟩
theorem c121 : compFunc Tryz.prog opts a121 Tryz.f121 = some t121 := by kernel_rfl
/-- slices.Collect[int] -/
def a122 : Ann := { slots := [0, 2], lb := [], mu := [], trunc := [], draws := [] }
def t122 : TFunc := ⟨1, 2, [.loc 1],
 (.seq (.region [⟨.mov (.cst (.sl .nil [])), (some 1), none⟩])
 (.seq (.region [⟨.mov (.loc 0), none, none⟩, ⟨.call false false 154 [(.cst (.sl .nil [])), (.reg 0)], none, none⟩, ⟨.mov (.reg 1), (some 1), none⟩])
 .ret))⟩
theorem c122 : compFunc Tryz.prog opts a122 Tryz.f122 = some t122 := by kernel_rfl
/-- slices.Sort[[]int,int] -/
def a123 : Ann := { slots := [0, 2], lb := [], mu := [], trunc := [], draws := [] }
def t123 : TFunc := ⟨1, 2, [],
 (.seq (.region [⟨.mov (.loc 0), none, none⟩, ⟨.len .sl (.reg 0), none, none⟩, ⟨.mov (.reg 1), (some 1), none⟩])
 (.region [⟨.mov (.loc 0), none, none⟩, ⟨.mov (.loc 1), none, none⟩, ⟨.mov (.loc 1), none, none⟩, ⟨.conv (.toInt .u64) (.reg 2), none, none⟩, ⟨.call true false 156 [(.reg 3)], none, none⟩, ⟨.call false false 155 [(.reg 0), (.cst (.int .i64 0)), (.reg 1), (.reg 4)], none, none⟩]))⟩
theorem c123 : compFunc Tryz.prog opts a123 Tryz.f123 = some t123 := by kernel_rfl
/-- maps.Keys[map[int]pennant/core.seen,int,pennant/core.seen]$1 -/
def a124 : Ann := { slots := [0, 1, 3, 5, 7, 13], lb := [], mu := [], trunc := [], draws := [] }
def t124 : TFunc := ⟨2, 6, [],
 (.seq (.region [⟨.load1 (.loc 1), none, none⟩, ⟨.range false (.reg 0), (some 3), none⟩])
 (.block 0
  (.loop
   (.seq (.region [⟨.nextM (.loc 3), none, none⟩, ⟨.extract 0 (.reg 0), (some 4), none⟩])
   (.seq (.cond (.loc 4)
    .skip
    (.exit 0))
   (.block 1
    (.seq (.region [⟨.entryM (.loc 3), none, none⟩, ⟨.extract 0 (.reg 0), none, none⟩, ⟨.mov (.reg 1), (some 2), none⟩])
    (.seq (.region [⟨.mov (.loc 0), none, none⟩, ⟨.mov (.loc 2), none, none⟩, ⟨.callv (.reg 0) [(.reg 1)], none, none⟩, ⟨.un .not (.reg 2), (some 5), none⟩])
    (.cond (.loc 5)
     .ret
     .skip)))))))))⟩
theorem c124 : compFunc Tryz.prog opts a124 Tryz.f124 = some t124 := by kernel_rfl
/-- internal/strconv.FormatInt -/
def a126 : Ann := { slots := [0, 1, 4, 5, 6, 7, 9, 11, 17, 23, 34], lb := [], mu := [], trunc := [], draws := [] }
def t126 : TFunc := ⟨2, 11, [.loc 2],
 (.seq (.region [⟨.mov (.cst (.str [])), (some 2), none⟩])
 (.seq (.seq (.region [⟨.mov (.loc 1), none, none⟩, ⟨.bin .eql (.reg 0) (.cst (.int .i64 10)), (some 7), none⟩])
 (.cond (.loc 7)
  (.seq (.seq (.region [⟨.mov (.loc 0), none, none⟩, ⟨.bin .leq (.cst (.int .i64 0)) (.reg 0), none, none⟩, ⟨.mov (.reg 1), none, none⟩, ⟨.mov (.loc 0), none, (some (2, true))⟩, ⟨.bin .lss (.reg 3) (.cst (.int .i64 100)), none, (some (2, true))⟩, ⟨.pick (.reg 2) (.reg 4) (.cst (.bool false)), (some 8), none⟩])
  (.cond (.loc 8)
   (.seq (.region [⟨.mov (.loc 0), none, none⟩, ⟨.call true false 159 [(.reg 0)], none, none⟩, ⟨.mov (.reg 1), (some 2), none⟩])
   .ret)
   .skip))
  (.seq (.region [⟨.allocH 176 [(.int .u8 0), (.int .u8 0), (.int .u8 0), (.int .u8 0), (.int .u8 0), (.int .u8 0), (.int .u8 0), (.int .u8 0), (.int .u8 0), (.int .u8 0), (.int .u8 0), (.int .u8 0), (.int .u8 0), (.int .u8 0), (.int .u8 0), (.int .u8 0), (.int .u8 0), (.int .u8 0), (.int .u8 0), (.int .u8 0), (.int .u8 0), (.int .u8 0), (.int .u8 0), (.int .u8 0)], (some 3), none⟩])
  (.seq (.region [⟨.mov (.loc 0), none, none⟩, ⟨.conv (.toInt .u64) (.reg 0), none, none⟩, ⟨.mov (.reg 1), (some 4), none⟩])
  (.seq (.seq (.region [⟨.mov (.loc 0), none, none⟩, ⟨.bin .lss (.reg 0) (.cst (.int .i64 0)), (some 9), none⟩])
  (.cond (.loc 9)
   (.region [⟨.mov (.loc 4), none, none⟩, ⟨.un .neg (.reg 0), none, none⟩, ⟨.mov (.reg 1), (some 4), none⟩])
   .skip))
  (.seq (.region [⟨.mov (.loc 4), none, none⟩, ⟨.call true false 160 [(.reg 0)], none, none⟩, ⟨.mov (.reg 1), (some 5), none⟩])
  (.seq (.region [⟨.mov (.loc 5), none, none⟩, ⟨.bin .add (.cst (.int .i64 1)) (.reg 0), none, none⟩, ⟨.slice (.arr 24 1) (.loc 3) (some (.cst (.int .i64 1))) (some (.reg 1)) none, none, none⟩, ⟨.mov (.loc 4), none, none⟩, ⟨.call false false 161 [(.reg 2), (.reg 3)], none, none⟩])
  (.seq (.seq (.region [⟨.mov (.loc 0), none, none⟩, ⟨.bin .lss (.reg 0) (.cst (.int .i64 0)), (some 10), none⟩])
  (.cond (.loc 10)
   (.seq (.region [⟨.indexAddrA 24 1 (.loc 3) (.cst (.int .i64 0)), none, none⟩, ⟨.store 1 (.reg 0) (.cst (.int .u8 45)), none, none⟩])
   (.seq (.region [⟨.mov (.loc 5), none, none⟩, ⟨.bin .add (.cst (.int .i64 1)) (.reg 0), none, none⟩, ⟨.slice (.arr 24 1) (.loc 3) none (some (.reg 1)) none, none, none⟩, ⟨.conv .bytesStr (.reg 2), none, none⟩, ⟨.mov (.reg 3), (some 2), none⟩])
   .ret))
   .skip))
  (.seq (.region [⟨.mov (.loc 5), none, none⟩, ⟨.bin .add (.cst (.int .i64 1)) (.reg 0), none, none⟩, ⟨.slice (.arr 24 1) (.loc 3) (some (.cst (.int .i64 1))) (some (.reg 1)) none, none, none⟩, ⟨.conv .bytesStr (.reg 2), none, none⟩, ⟨.mov (.reg 3), (some 2), none⟩])
  .ret))))))))
  .skip))
 (.seq (.region [⟨.mov (.loc 0), none, none⟩, ⟨.conv (.toInt .u64) (.reg 0), none, none⟩, ⟨.mov (.loc 1), none, none⟩, ⟨.mov (.loc 0), none, none⟩, ⟨.bin .lss (.reg 3) (.cst (.int .i64 0)), none, none⟩, ⟨.call true false 162 [(.cst (.sl .nil [])), (.reg 1), (.reg 2), (.reg 4), (.cst (.bool false))], none, none⟩, ⟨.mov (.reg 5), none, none⟩, ⟨.extract 0 (.reg 6), none, none⟩, ⟨.extract 1 (.reg 6), none, none⟩, ⟨.mov (.reg 7), none, none⟩, ⟨.mov (.reg 8), (some 6), none⟩])
 (.seq (.region [⟨.mov (.loc 6), none, none⟩, ⟨.mov (.reg 0), (some 2), none⟩])
 .ret))))⟩
theorem c126 : compFunc Tryz.prog opts a126 Tryz.f126 = some t126 := by kernel_rfl
/-- (*strings.Builder).grow -/
def a127 : Ann := { slots := [0, 1, 4], lb := [], mu := [], trunc := [], draws := [(0, ⟨[0, 1, 3, 7, 15, 31, 0, 127, 255, 0, 512, 1536, 3584, 7680, 16383, 32767], [0, 1, 2, 3, 4, 5, 6, 7, 9, 10, 11, 12, 13], [(8, [12, 13], [14, 15])]⟩)] }
def t127 : TFunc := ⟨2, 3, [],
 (.seq (.draw [0, 1, 2, 3, 4, 5, 6, 7, 9, 10, 11, 12, 13] [(8, [12, 13], [14, 15])] [⟨.mov (.loc 0), none, none⟩, ⟨.nilCheck (.reg 0), none, none⟩, ⟨.fieldAddr 1 (.reg 1), none, none⟩, ⟨.load1 (.reg 2), none, none⟩, ⟨.cap (.reg 3), none, none⟩, ⟨.bin .mul (.cst (.int .i64 2)) (.reg 4), none, none⟩, ⟨.mov (.loc 1), none, none⟩, ⟨.bin .add (.reg 5) (.reg 6), none, none⟩, ⟨.prim 163 [(.reg 7)], none, none⟩, ⟨.mov (.loc 0), none, none⟩, ⟨.nilCheck (.reg 9), none, none⟩, ⟨.fieldAddr 1 (.reg 10), none, none⟩, ⟨.load1 (.reg 11), none, none⟩, ⟨.len .sl (.reg 12), none, none⟩, ⟨.slice (.sl 1) (.reg 8) none (some (.reg 13)) none, none, none⟩, ⟨.mov (.reg 14), (some 2), none⟩])
 (.seq (.region [⟨.mov (.loc 2), none, none⟩, ⟨.mov (.loc 0), none, none⟩, ⟨.nilCheck (.reg 1), none, none⟩, ⟨.fieldAddr 1 (.reg 2), none, none⟩, ⟨.load1 (.reg 3), none, none⟩, ⟨.copy 1 (.reg 0) (.reg 4), none, none⟩])
 (.region [⟨.mov (.loc 0), none, none⟩, ⟨.mov (.loc 2), none, none⟩, ⟨.nilCheck (.reg 0), none, none⟩, ⟨.fieldAddr 1 (.reg 2), none, none⟩, ⟨.store 1 (.reg 3) (.reg 1), none, none⟩])))⟩
theorem c127 : compFunc Tryz.prog opts a127 Tryz.f127 = some t127 := by kernel_rfl
/-- pennant/datum.named -/
def a129 : Ann := { slots := [0, 2, 3, 6, 9, 12], lb := [], mu := [], trunc := [], draws := [] }
def t129 : TFunc := ⟨1, 6, [.loc 1],
 (.seq (.region [⟨.mov (.cst (.str [])), (some 1), none⟩])
 (.seq (.block 0
  (.seq (.region [⟨.mov (.loc 0), none, none⟩, ⟨.bin .eql (.reg 0) (.cst (.int .i64 32)), none, none⟩, ⟨.mov (.reg 1), (some 2), none⟩])
  (.cond (.loc 2)
   (.seq (.region [⟨.mov (.cst (.str [115, 112, 97, 99, 101])), (some 1), none⟩])
   .ret)
   (.seq (.region [⟨.mov (.loc 0), none, none⟩, ⟨.bin .eql (.reg 0) (.cst (.int .i64 10)), none, none⟩, ⟨.mov (.reg 1), (some 3), none⟩])
   (.cond (.loc 3)
    (.seq (.region [⟨.mov (.cst (.str [110, 101, 119, 108, 105, 110, 101])), (some 1), none⟩])
    .ret)
    (.seq (.region [⟨.mov (.loc 0), none, none⟩, ⟨.bin .eql (.reg 0) (.cst (.int .i64 9)), none, none⟩, ⟨.mov (.reg 1), (some 4), none⟩])
    (.cond (.loc 4)
     (.seq (.region [⟨.mov (.cst (.str [116, 97, 98])), (some 1), none⟩])
     .ret)
     (.seq (.region [⟨.mov (.loc 0), none, none⟩, ⟨.bin .lss (.reg 0) (.cst (.int .i64 32)), none, none⟩, ⟨.mov (.reg 1), none, none⟩, ⟨.mov (.loc 0), none, (some (2, false))⟩, ⟨.bin .eql (.reg 3) (.cst (.int .i64 127)), none, (some (2, false))⟩, ⟨.pick (.reg 2) (.cst (.bool true)) (.reg 4), none, none⟩, ⟨.mov (.reg 5), (some 5), none⟩])
     (.cond (.loc 5)
      (.seq (.region [⟨.mov (.loc 0), none, none⟩, ⟨.call true false 164 [(.reg 0), (.cst (.int .i64 16))], none, none⟩, ⟨.bin .add (.cst (.str [120])) (.reg 1), none, none⟩, ⟨.mov (.reg 2), (some 1), none⟩])
      .ret)
      .skip)))))))))
 (.seq (.region [⟨.mov (.loc 0), none, none⟩, ⟨.conv (.toInt .i32) (.reg 0), none, none⟩, ⟨.conv .intStr (.reg 1), none, none⟩, ⟨.mov (.reg 2), (some 1), none⟩])
 .ret)))⟩
theorem c129 : compFunc Tryz.prog opts a129 Tryz.f129 = some t129 := by kernel_rfl
/-- (*strings.Builder).WriteRune -/
def a130 : Ann := { slots := [0, 1, 4, 5, 6], lb := [], mu := [], trunc := [], draws := [] }
def t130 : TFunc := ⟨2, 5, [.loc 2, .loc 3],
 (.seq (.region [⟨.mov (.cst (.int .i64 0)), (some 2), none⟩, ⟨.mov (.cst .nili), (some 3), none⟩])
 (.seq (.region [⟨.mov (.loc 0), none, none⟩, ⟨.prim 99 [(.reg 0)], none, none⟩])
 (.seq (.region [⟨.mov (.loc 0), none, none⟩, ⟨.nilCheck (.reg 0), none, none⟩, ⟨.fieldAddr 1 (.reg 1), none, none⟩, ⟨.load1 (.reg 2), none, none⟩, ⟨.len .sl (.reg 3), none, none⟩, ⟨.mov (.reg 4), (some 4), none⟩])
 (.seq (.region [⟨.mov (.loc 0), none, none⟩, ⟨.mov (.loc 0), none, none⟩, ⟨.nilCheck (.reg 1), none, none⟩, ⟨.fieldAddr 1 (.reg 2), none, none⟩, ⟨.load1 (.reg 3), none, none⟩, ⟨.mov (.loc 1), none, none⟩, ⟨.call false false 165 [(.reg 4), (.reg 5)], none, none⟩, ⟨.nilCheck (.reg 0), none, none⟩, ⟨.fieldAddr 1 (.reg 7), none, none⟩, ⟨.store 1 (.reg 8) (.reg 6), none, none⟩])
 (.seq (.region [⟨.mov (.loc 0), none, none⟩, ⟨.nilCheck (.reg 0), none, none⟩, ⟨.fieldAddr 1 (.reg 1), none, none⟩, ⟨.load1 (.reg 2), none, none⟩, ⟨.len .sl (.reg 3), none, none⟩, ⟨.mov (.loc 4), none, none⟩, ⟨.bin .sub (.reg 4) (.reg 5), none, none⟩, ⟨.mov (.reg 6), (some 2), none⟩, ⟨.mov (.cst .nili), (some 3), none⟩])
 .ret)))))⟩
theorem c130 : compFunc Tryz.prog opts a130 Tryz.f130 = some t130 := by kernel_rfl
/-- (*pennant/datum.writer).text -/
def a131 : Ann := { slots := [0, 1, 5, 9, 20, 21, 22], lb := [], mu := [], trunc := [], draws := [(6, ⟨[0, 1, 3, 0, 8, 31], [0, 1, 2, 3], [(4, [], []), (5, [], [])]⟩)] }
def t131 : TFunc := ⟨2, 7, [],
 (.seq (.seq (.region [⟨.mov (.loc 0), none, none⟩, ⟨.nilCheck (.reg 0), none, none⟩, ⟨.fieldAddr 2 (.reg 1), none, none⟩, ⟨.load1 (.reg 2), (some 3), none⟩])
 (.cond (.loc 3)
  (.seq (.region [⟨.mov (.loc 0), none, none⟩, ⟨.nilCheck (.reg 0), none, none⟩, ⟨.fieldAddr 0 (.reg 1), none, none⟩, ⟨.mov (.loc 1), none, none⟩, ⟨.call false false 64 [(.reg 2), (.reg 3)], none, none⟩])
  .ret)
  .skip))
 (.seq (.region [⟨.mov (.loc 0), none, none⟩, ⟨.nilCheck (.reg 0), none, none⟩, ⟨.fieldAddr 0 (.reg 1), none, none⟩, ⟨.call false false 133 [(.reg 2), (.cst (.int .u8 34))], none, none⟩])
 (.seq (.seq (.region [⟨.mov (.loc 1), none, none⟩, ⟨.range true (.reg 0), (some 4), none⟩])
 (.block 0
  (.loop
   (.seq (.region [⟨.nextS (.loc 4), (some 5), none⟩, ⟨.extract 0 (.reg 0), (some 6), none⟩])
   (.seq (.cond (.loc 6)
    .skip
    (.exit 0))
   (.block 1
    (.seq (.region [⟨.extract 2 (.loc 5), none, none⟩, ⟨.mov (.reg 0), (some 2), none⟩])
    (.draw [0, 1, 2, 3] [(4, [], []), (5, [], [])] [⟨.mov (.loc 0), none, none⟩, ⟨.nilCheck (.reg 0), none, none⟩, ⟨.fieldAddr 0 (.reg 1), none, none⟩, ⟨.mov (.loc 2), none, none⟩, ⟨.call true false 166 [(.reg 3)], none, none⟩, ⟨.call false false 64 [(.reg 2), (.reg 4)], none, none⟩]))))))))
 (.region [⟨.mov (.loc 0), none, none⟩, ⟨.nilCheck (.reg 0), none, none⟩, ⟨.fieldAddr 0 (.reg 1), none, none⟩, ⟨.call false false 133 [(.reg 2), (.cst (.int .u8 34))], none, none⟩]))))⟩
theorem c131 : compFunc Tryz.prog opts a131 Tryz.f131 = some t131 := by kernel_rfl
/-- (*pennant/datum.writer).all -/
def a132 : Ann := { slots := [0, 1, 4, 5, 6, 7, 8, 9, 14], lb := [5], mu := [], trunc := [], draws := [] }
def t132 : TFunc := ⟨2, 9, [],
 (.seq (.region [⟨.mov (.loc 1), (some 4), none⟩, ⟨.len .sl (.reg 0), (some 5), none⟩, ⟨.mov (.cst (.int .i64 0)), (some 6), none⟩])
 (.block 0
  (.loop
   (.seq (.region [⟨.bin .lss (.loc 6) (.loc 5), (some 7), none⟩])
   (.seq (.cond (.loc 7)
    .skip
    (.exit 0))
   (.seq (.block 1
    (.seq (.region [⟨.mov (.loc 6), none, none⟩, ⟨.indexAddrS 5 (.loc 4) (.loc 6), none, none⟩, ⟨.loadN 5 (.reg 1), none, none⟩, ⟨.allocL 3 [(.int .i64 0), (.int .i64 0), (.str []), (.sl .nil []), (.int .i64 0)], none, none⟩, ⟨.mov (.reg 0), (some 2), none⟩, ⟨.store 5 (.reg 3) (.reg 2), none, none⟩])
    (.seq (.seq (.region [⟨.mov (.loc 2), none, none⟩, ⟨.bin .gtr (.reg 0) (.cst (.int .i64 0)), (some 8), none⟩])
    (.cond (.loc 8)
     (.region [⟨.mov (.loc 0), none, none⟩, ⟨.nilCheck (.reg 0), none, none⟩, ⟨.fieldAddr 0 (.reg 1), none, none⟩, ⟨.call false false 133 [(.reg 2), (.cst (.int .u8 32))], none, none⟩])
     .skip))
    (.region [⟨.mov (.loc 0), none, none⟩, ⟨.loadN 5 (.loc 3), none, none⟩, ⟨.call false false 100 [(.reg 0), (.reg 1)], none, none⟩]))))
   (.region [⟨.bin .add (.loc 6) (.cst (.int .i64 1)), none, none⟩, ⟨.mov (.reg 0), (some 6), none⟩])))))))⟩
theorem c132 : compFunc Tryz.prog opts a132 Tryz.f132 = some t132 := by kernel_rfl
/-- (*strings.Builder).WriteByte -/
def a133 : Ann := { slots := [0, 1, 4], lb := [], mu := [], trunc := [], draws := [] }
def t133 : TFunc := ⟨2, 3, [.loc 2],
 (.seq (.region [⟨.mov (.cst .nili), (some 2), none⟩])
 (.seq (.region [⟨.mov (.loc 0), none, none⟩, ⟨.prim 99 [(.reg 0)], none, none⟩])
 (.seq (.region [⟨.mov (.loc 0), none, none⟩, ⟨.mov (.loc 0), none, none⟩, ⟨.nilCheck (.reg 1), none, none⟩, ⟨.fieldAddr 1 (.reg 2), none, none⟩, ⟨.load1 (.reg 3), none, none⟩, ⟨.mov (.loc 1), none, none⟩, ⟨.lit false [(.int .u8 0)] 1 [(0, (.reg 5))], none, none⟩, ⟨.append false 1 1 5 (.reg 4) (.reg 6), none, none⟩, ⟨.nilCheck (.reg 0), none, none⟩, ⟨.fieldAddr 1 (.reg 8), none, none⟩, ⟨.store 1 (.reg 9) (.reg 7), none, none⟩])
 (.seq (.region [⟨.mov (.cst .nili), (some 2), none⟩])
 .ret))))⟩
theorem c133 : compFunc Tryz.prog opts a133 Tryz.f133 = some t133 := by kernel_rfl
/-- pennant/datum.numbers -/
def a134 : Ann := { slots := [0, 2, 3, 4, 6, 7, 8], lb := [], mu := [], trunc := [], draws := [] }
def t134 : TFunc := ⟨1, 7, [.loc 1],
 (.seq (.region [⟨.mov (.cst (.sl .nil [])), (some 1), none⟩])
 (.seq (.region [⟨.mov (.cst (.sl .nil [])), (some 2), none⟩])
 (.seq (.seq (.region [⟨.mov (.loc 0), none, none⟩, ⟨.len .str (.reg 0), (some 4), none⟩, ⟨.mov (.cst (.int .i64 0)), (some 5), none⟩])
 (.block 0
  (.loop
   (.seq (.region [⟨.bin .lss (.loc 5) (.loc 4), (some 6), none⟩])
   (.seq (.cond (.loc 6)
    .skip
    (.exit 0))
   (.seq (.block 1
    (.seq (.region [⟨.mov (.loc 5), none, none⟩, ⟨.mov (.reg 0), (some 3), none⟩])
    (.region [⟨.mov (.loc 2), none, none⟩, ⟨.mov (.loc 0), none, none⟩, ⟨.mov (.loc 3), none, none⟩, ⟨.indexS (.reg 1) (.reg 2), none, none⟩, ⟨.conv (.toInt .i64) (.reg 3), none, none⟩, ⟨.call true false 61 [(.reg 4)], none, none⟩, ⟨.build [(.int .i64 0), (.int .i64 0), (.str []), (.sl .nil []), (.int .i64 0)] [(0, 1, (.cst (.int .i64 2))), (2, 1, (.reg 5))], none, none⟩, ⟨.lit false [(.int .i64 0), (.int .i64 0), (.str []), (.sl .nil []), (.int .i64 0)] 1 [(0, (.reg 6))], none, none⟩, ⟨.append false 5 64 39 (.reg 0) (.reg 7), none, none⟩, ⟨.mov (.reg 8), (some 2), none⟩])))
   (.region [⟨.bin .add (.loc 5) (.cst (.int .i64 1)), none, none⟩, ⟨.mov (.reg 0), (some 5), none⟩])))))))
 (.seq (.region [⟨.mov (.loc 2), none, none⟩, ⟨.mov (.reg 0), (some 1), none⟩])
 .ret))))⟩
theorem c134 : compFunc Tryz.prog opts a134 Tryz.f134 = some t134 := by kernel_rfl
/-- (*pennant/datum.writer).list -/
def a135 : Ann := { slots := [0, 1, 3, 4, 5, 20], lb := [5, 3], mu := [], trunc := [], draws := [] }
def t135 : TFunc := ⟨2, 6, [],
 (.seq (.region [⟨.boxL 2 (.loc 1), none, none⟩])
 (.seq (.region [⟨.loadN 5 (.loc 2), none, none⟩, ⟨.call false false 167 [(.reg 0)], none, none⟩, ⟨.mov (.reg 1), none, none⟩, ⟨.extract 0 (.reg 2), none, none⟩, ⟨.extract 1 (.reg 2), none, none⟩, ⟨.allocL 4 [(.int .i64 0), (.int .i64 0), (.str []), (.sl .nil []), (.int .i64 0)], none, none⟩, ⟨.mov (.reg 3), (some 3), none⟩, ⟨.store 5 (.reg 5) (.reg 4), none, none⟩])
 (.seq (.region [⟨.mov (.loc 0), none, none⟩, ⟨.nilCheck (.reg 0), none, none⟩, ⟨.fieldAddr 0 (.reg 1), none, none⟩, ⟨.call false false 133 [(.reg 2), (.cst (.int .u8 40))], none, none⟩])
 (.seq (.region [⟨.mov (.loc 0), none, none⟩, ⟨.mov (.loc 3), none, none⟩, ⟨.call false false 132 [(.reg 0), (.reg 1)], none, none⟩])
 (.seq (.seq (.region [⟨.fieldAddr 0 (.loc 4), none, none⟩, ⟨.load1 (.reg 0), none, none⟩, ⟨.bin .neq (.reg 1) (.cst (.int .i64 0)), (some 5), none⟩])
 (.cond (.loc 5)
  (.seq (.region [⟨.mov (.loc 0), none, none⟩, ⟨.nilCheck (.reg 0), none, none⟩, ⟨.fieldAddr 0 (.reg 1), none, none⟩, ⟨.call false false 64 [(.reg 2), (.cst (.str [32, 46, 32]))], none, none⟩])
  (.region [⟨.mov (.loc 0), none, none⟩, ⟨.loadN 5 (.loc 4), none, none⟩, ⟨.call false false 100 [(.reg 0), (.reg 1)], none, none⟩]))
  .skip))
 (.region [⟨.mov (.loc 0), none, none⟩, ⟨.nilCheck (.reg 0), none, none⟩, ⟨.fieldAddr 0 (.reg 1), none, none⟩, ⟨.call false false 133 [(.reg 2), (.cst (.int .u8 41))], none, none⟩]))))))⟩
theorem c135 : compFunc Tryz.prog opts a135 Tryz.f135 = some t135 := by kernel_rfl
/-- slices.IndexFunc[[]pennant/api.Expr,pennant/api.Expr] -/
def a141 : Ann := { slots := [0, 1, 4, 5, 7, 8, 9, 16], lb := [], mu := [], trunc := [], draws := [] }
def t141 : TFunc := ⟨2, 8, [.loc 2],
 (.seq (.region [⟨.mov (.cst (.int .i64 0)), (some 2), none⟩])
 (.seq (.seq (.region [⟨.mov (.loc 0), none, none⟩, ⟨.len .sl (.reg 0), (some 4), none⟩, ⟨.mov (.cst (.int .i64 0)), (some 5), none⟩])
 (.block 0
  (.loop
   (.seq (.region [⟨.bin .lss (.loc 5) (.loc 4), (some 6), none⟩])
   (.seq (.cond (.loc 6)
    .skip
    (.exit 0))
   (.seq (.block 1
    (.seq (.region [⟨.mov (.loc 5), none, none⟩, ⟨.mov (.reg 0), (some 3), none⟩])
    (.seq (.region [⟨.mov (.loc 1), none, none⟩, ⟨.mov (.loc 0), none, none⟩, ⟨.mov (.loc 3), none, none⟩, ⟨.indexAddrS 5 (.reg 1) (.reg 2), none, none⟩, ⟨.loadN 5 (.reg 3), none, none⟩, ⟨.callv (.reg 0) [(.reg 4)], (some 7), none⟩])
    (.cond (.loc 7)
     (.seq (.region [⟨.mov (.loc 3), none, none⟩, ⟨.mov (.reg 0), (some 2), none⟩])
     .ret)
     .skip))))
   (.region [⟨.bin .add (.loc 5) (.cst (.int .i64 1)), none, none⟩, ⟨.mov (.reg 0), (some 5), none⟩])))))))
 (.seq (.region [⟨.mov (.cst (.int .i64 (-1))), (some 2), none⟩])
 .ret)))⟩
theorem c141 : compFunc Tryz.prog opts a141 Tryz.f141 = some t141 := by kernel_rfl
/-- pennant/box.each[int,int] -/
def a142 : Ann := { slots := [0, 1, 4, 6, 7, 8, 9, 10], lb := [], mu := [], trunc := [], draws := [] }
def t142 : TFunc := ⟨2, 8, [.loc 2],
 (.seq (.region [⟨.mov (.cst (.sl .nil [])), (some 2), none⟩])
 (.seq (.seq (.region [⟨.mov (.loc 0), (some 4), none⟩, ⟨.len .sl (.reg 0), (some 5), none⟩, ⟨.mov (.cst (.int .i64 0)), (some 6), none⟩])
 (.block 0
  (.loop
   (.seq (.region [⟨.bin .lss (.loc 6) (.loc 5), (some 7), none⟩])
   (.seq (.cond (.loc 7)
    .skip
    (.exit 0))
   (.seq (.block 1
    (.seq (.region [⟨.indexAddrS 1 (.loc 4) (.loc 6), none, none⟩, ⟨.load1 (.reg 0), none, none⟩, ⟨.mov (.reg 1), (some 3), none⟩])
    (.region [⟨.mov (.loc 2), none, none⟩, ⟨.mov (.loc 1), none, none⟩, ⟨.mov (.loc 3), none, none⟩, ⟨.callv (.reg 1) [(.reg 2)], none, none⟩, ⟨.lit false [(.int .i64 0)] 1 [(0, (.reg 3))], none, none⟩, ⟨.append false 1 8 3 (.reg 0) (.reg 4), none, none⟩, ⟨.mov (.reg 5), (some 2), none⟩])))
   (.region [⟨.bin .add (.loc 6) (.cst (.int .i64 1)), none, none⟩, ⟨.mov (.reg 0), (some 6), none⟩])))))))
 (.seq (.region [⟨.mov (.loc 2), none, none⟩, ⟨.mov (.reg 0), (some 2), none⟩])
 .ret)))⟩
theorem c142 : compFunc Tryz.prog opts a142 Tryz.f142 = some t142 := by kernel_rfl
/-- (*pennant/box.converter).lambda$1 -/
def a143 : Ann := { slots := [0, 1, 2, 4, 8], lb := [], mu := [], trunc := [], draws := [(4, ⟨[0, 1, 3, 7, 0, 0, 32, 96, 224, 480, 1023], [0, 1, 2, 3, 4, 5, 6, 7, 8, 9], [(10, [], [])]⟩)] }
def t143 : TFunc := ⟨3, 5, [.loc 3],
 (.seq (.region [⟨.mov (.cst (.int .i64 0)), (some 3), none⟩])
 (.seq (.seq (.region [⟨.load1 (.loc 1), none, none⟩, ⟨.mov (.loc 0), none, none⟩, ⟨.call false false 106 [(.reg 0), (.reg 1)], none, none⟩, ⟨.un .not (.reg 2), (some 4), none⟩])
 (.cond (.loc 4)
  (.seq (.region [⟨.mov (.loc 0), none, none⟩, ⟨.mov (.reg 0), (some 3), none⟩])
  .ret)
  .skip))
 (.seq (.region [⟨.load1 (.loc 2), none, none⟩, ⟨.mov (.loc 0), none, none⟩, ⟨.lit false [(.int .i64 0)] 1 [(0, (.reg 1))], none, none⟩, ⟨.append false 1 8 3 (.reg 0) (.reg 2), none, none⟩, ⟨.store 1 (.loc 2) (.reg 3), none, none⟩])
 (.seq (.draw [0, 1, 2, 3, 4, 5, 6, 7, 8, 9] [(10, [], [])] [⟨.load1 (.loc 1), none, none⟩, ⟨.nilCheck (.reg 0), none, none⟩, ⟨.fieldAddr 0 (.reg 1), none, none⟩, ⟨.load1 (.reg 2), none, none⟩, ⟨.mov (.loc 0), none, none⟩, ⟨.load1 (.loc 1), none, none⟩, ⟨.nilCheck (.reg 5), none, none⟩, ⟨.fieldAddr 1 (.reg 6), none, none⟩, ⟨.load1 (.reg 7), none, none⟩, ⟨.build [(.int .i64 0)] [(0, 1, (.reg 8))], none, none⟩, ⟨.update (.leaf .int) (.reg 3) (.reg 4) (.reg 9), none, none⟩])
 (.seq (.region [⟨.load1 (.loc 1), none, none⟩, ⟨.nilCheck (.reg 0), none, none⟩, ⟨.fieldAddr 1 (.reg 1), none, none⟩, ⟨.load1 (.reg 2), none, none⟩, ⟨.bin .add (.reg 3) (.cst (.int .i64 1)), none, none⟩, ⟨.nilCheck (.reg 0), none, none⟩, ⟨.fieldAddr 1 (.reg 5), none, none⟩, ⟨.store 1 (.reg 6) (.reg 4), none, none⟩])
 (.seq (.region [⟨.load1 (.loc 1), none, none⟩, ⟨.nilCheck (.reg 0), none, none⟩, ⟨.fieldAddr 0 (.reg 1), none, none⟩, ⟨.load1 (.reg 2), none, none⟩, ⟨.mov (.loc 0), none, none⟩, ⟨.lookup (.leaf .int) (.agg [(.int .i64 0)]) false (.reg 3) (.reg 4), none, none⟩, ⟨.field 0 1 false (.reg 5), none, none⟩, ⟨.mov (.reg 6), (some 3), none⟩])
 .ret))))))⟩
theorem c143 : compFunc Tryz.prog opts a143 Tryz.f143 = some t143 := by kernel_rfl
/-- pennant/box.each[int,pennant/api.Expr] -/
def a144 : Ann := { slots := [0, 1, 4, 6, 7, 8, 9, 10], lb := [], mu := [], trunc := [], draws := [] }
def t144 : TFunc := ⟨2, 8, [.loc 2],
 (.seq (.region [⟨.mov (.cst (.sl .nil [])), (some 2), none⟩])
 (.seq (.seq (.region [⟨.mov (.loc 0), (some 4), none⟩, ⟨.len .sl (.reg 0), (some 5), none⟩, ⟨.mov (.cst (.int .i64 0)), (some 6), none⟩])
 (.block 0
  (.loop
   (.seq (.region [⟨.bin .lss (.loc 6) (.loc 5), (some 7), none⟩])
   (.seq (.cond (.loc 7)
    .skip
    (.exit 0))
   (.seq (.block 1
    (.seq (.region [⟨.indexAddrS 1 (.loc 4) (.loc 6), none, none⟩, ⟨.load1 (.reg 0), none, none⟩, ⟨.mov (.reg 1), (some 3), none⟩])
    (.region [⟨.mov (.loc 2), none, none⟩, ⟨.mov (.loc 1), none, none⟩, ⟨.mov (.loc 3), none, none⟩, ⟨.callv (.reg 1) [(.reg 2)], none, none⟩, ⟨.lit false [(.int .i64 0), (.int .i64 0), (.sl .nil []), (.bool false), (.sl .nil [])] 1 [(0, (.reg 3))], none, none⟩, ⟨.append false 5 72 25 (.reg 0) (.reg 4), none, none⟩, ⟨.mov (.reg 5), (some 2), none⟩])))
   (.region [⟨.bin .add (.loc 6) (.cst (.int .i64 1)), none, none⟩, ⟨.mov (.reg 0), (some 6), none⟩])))))))
 (.seq (.region [⟨.mov (.loc 2), none, none⟩, ⟨.mov (.reg 0), (some 2), none⟩])
 .ret)))⟩
theorem c144 : compFunc Tryz.prog opts a144 Tryz.f144 = some t144 := by kernel_rfl
/-- (*pennant/box.converter).lambda$2 -/
def a145 : Ann := { slots := [0, 1, 3], lb := [3], mu := [], trunc := [], draws := [] }
def t145 : TFunc := ⟨2, 3, [.cell 2 5 true],
 (.seq (.region [⟨.allocL 2 [(.int .i64 0), (.int .i64 0), (.sl .nil []), (.bool false), (.sl .nil [])], none, none⟩])
 (.seq (.region [⟨.load1 (.loc 1), none, none⟩, ⟨.nilCheck (.reg 0), none, none⟩, ⟨.fieldAddr 0 (.reg 1), none, none⟩, ⟨.load1 (.reg 2), none, none⟩, ⟨.mov (.loc 0), none, none⟩, ⟨.lookup (.leaf .int) (.agg [(.int .i64 0)]) false (.reg 3) (.reg 4), none, none⟩, ⟨.field 0 1 false (.reg 5), none, none⟩, ⟨.call false false 107 [(.reg 6)], none, none⟩, ⟨.lit false [(.int .i64 0), (.int .i64 0), (.sl .nil []), (.bool false), (.sl .nil [])] 1 [(0, (.reg 7))], none, none⟩, ⟨.build [(.int .i64 0), (.int .i64 0), (.sl .nil []), (.bool false), (.sl .nil [])] [(0, 1, (.cst (.int .i64 12))), (4, 1, (.reg 8))], none, none⟩, ⟨.store 5 (.loc 2) (.reg 9), none, none⟩])
 .ret))⟩
theorem c145 : compFunc Tryz.prog opts a145 Tryz.f145 = some t145 := by kernel_rfl
/-- strings.TrimPrefix -/
def a148 : Ann := { slots := [0, 1, 4], lb := [], mu := [], trunc := [], draws := [] }
def t148 : TFunc := ⟨2, 3, [.loc 2],
 (.seq (.region [⟨.mov (.cst (.str [])), (some 2), none⟩])
 (.seq (.region [⟨.mov (.loc 0), none, none⟩, ⟨.mov (.loc 1), none, none⟩, ⟨.call true false 170 [(.reg 0), (.reg 1)], none, none⟩, ⟨.mov (.reg 2), (some 2), none⟩])
 .ret))⟩
theorem c148 : compFunc Tryz.prog opts a148 Tryz.f148 = some t148 := by kernel_rfl
/-- strings.ContainsFunc -/
def a149 : Ann := { slots := [0, 1, 4], lb := [], mu := [], trunc := [], draws := [] }
def t149 : TFunc := ⟨2, 3, [.loc 2],
 (.seq (.region [⟨.mov (.cst (.bool false)), (some 2), none⟩])
 (.seq (.region [⟨.mov (.loc 0), none, none⟩, ⟨.mov (.loc 1), none, none⟩, ⟨.call false false 171 [(.reg 0), (.reg 1)], none, none⟩, ⟨.bin .geq (.reg 2) (.cst (.int .i64 0)), none, none⟩, ⟨.mov (.reg 3), (some 2), none⟩])
 .ret))⟩
theorem c149 : compFunc Tryz.prog opts a149 Tryz.f149 = some t149 := by kernel_rfl
/-- pennant/datum.digits$1 -/
def a150 : Ann := { slots := [0, 2], lb := [], mu := [], trunc := [], draws := [] }
def t150 : TFunc := ⟨1, 2, [.loc 1],
 (.seq (.region [⟨.mov (.cst (.bool false)), (some 1), none⟩])
 (.seq (.region [⟨.mov (.loc 0), none, none⟩, ⟨.bin .lss (.reg 0) (.cst (.int .i32 48)), none, none⟩, ⟨.mov (.reg 1), none, none⟩, ⟨.mov (.loc 0), none, (some (2, false))⟩, ⟨.bin .gtr (.reg 3) (.cst (.int .i32 57)), none, (some (2, false))⟩, ⟨.pick (.reg 2) (.cst (.bool true)) (.reg 4), none, none⟩, ⟨.mov (.reg 5), (some 1), none⟩])
 .ret))⟩
theorem c150 : compFunc Tryz.prog opts a150 Tryz.f150 = some t150 := by kernel_rfl
/-- unicode/utf8.ValidRune -/
def a151 : Ann := { slots := [0, 2, 3, 10], lb := [], mu := [], trunc := [], draws := [] }
def t151 : TFunc := ⟨1, 4, [.loc 1],
 (.seq (.region [⟨.mov (.cst (.bool false)), (some 1), none⟩])
 (.seq (.block 0
  (.seq (.region [⟨.mov (.loc 0), none, none⟩, ⟨.bin .leq (.cst (.int .i32 0)) (.reg 0), none, none⟩, ⟨.mov (.reg 1), none, none⟩, ⟨.mov (.loc 0), none, (some (2, true))⟩, ⟨.bin .lss (.reg 3) (.cst (.int .i32 55296)), none, (some (2, true))⟩, ⟨.pick (.reg 2) (.reg 4) (.cst (.bool false)), none, none⟩, ⟨.mov (.reg 5), (some 2), none⟩])
  (.cond (.loc 2)
   (.seq (.region [⟨.mov (.cst (.bool true)), (some 1), none⟩])
   .ret)
   (.seq (.region [⟨.mov (.loc 0), none, none⟩, ⟨.bin .lss (.cst (.int .i32 57343)) (.reg 0), none, none⟩, ⟨.mov (.reg 1), none, none⟩, ⟨.mov (.loc 0), none, (some (2, true))⟩, ⟨.bin .leq (.reg 3) (.cst (.int .i32 1114111)), none, (some (2, true))⟩, ⟨.pick (.reg 2) (.reg 4) (.cst (.bool false)), none, none⟩, ⟨.mov (.reg 5), (some 3), none⟩])
   (.cond (.loc 3)
    (.seq (.region [⟨.mov (.cst (.bool true)), (some 1), none⟩])
    .ret)
    .skip)))))
 (.seq (.region [⟨.mov (.cst (.bool false)), (some 1), none⟩])
 .ret)))⟩
theorem c151 : compFunc Tryz.prog opts a151 Tryz.f151 = some t151 := by kernel_rfl
/-- pennant/utf.All -/
def a152 : Ann := { slots := [0, 2, 3, 4, 5, 6, 8, 11, 12, 13, 17, 27], lb := [3], mu := [], trunc := [], draws := [] }
def t152 : TFunc := ⟨1, 12, [.loc 1, .cell 2 2 true],
 (.seq (.region [⟨.mov (.cst (.sl .nil [])), (some 1), none⟩, ⟨.allocL 2 [(.int .i64 0), (.int .i64 0)], none, none⟩])
 (.seq (.region [⟨.mov (.cst (.sl .nil [])), (some 3), none⟩])
 (.seq (.seq (.region [⟨.mov (.loc 0), none, none⟩, ⟨.conv .bytesStr (.reg 0), none, none⟩, ⟨.range true (.reg 1), (some 7), none⟩])
 (.block 0
  (.loop
   (.seq (.region [⟨.nextS (.loc 7), (some 8), none⟩, ⟨.extract 0 (.reg 0), (some 9), none⟩])
   (.seq (.cond (.loc 9)
    .skip
    (.exit 0))
   (.block 1
    (.seq (.region [⟨.extract 1 (.loc 8), none, none⟩, ⟨.extract 2 (.loc 8), none, none⟩, ⟨.mov (.reg 0), (some 4), none⟩, ⟨.mov (.reg 1), (some 5), none⟩])
    (.seq (.seq (.region [⟨.mov (.loc 5), none, none⟩, ⟨.bin .eql (.reg 0) (.cst (.int .i32 65533)), (some 10), none⟩])
    (.cond (.loc 10)
     (.seq (.region [⟨.mov (.loc 0), none, none⟩, ⟨.mov (.loc 4), none, none⟩, ⟨.slice (.sl 1) (.reg 0) (some (.reg 1)) none none, none, none⟩, ⟨.call true false 172 [(.reg 2)], none, none⟩, ⟨.mov (.reg 3), none, none⟩, ⟨.extract 0 (.reg 4), none, none⟩, ⟨.extract 1 (.reg 4), none, none⟩, ⟨.mov (.reg 5), none, none⟩, ⟨.mov (.reg 6), (some 6), none⟩])
     (.seq (.region [⟨.mov (.loc 5), none, none⟩, ⟨.mov (.loc 6), none, none⟩, ⟨.call true false 173 [(.reg 0), (.reg 1)], (some 11), none⟩])
     (.cond (.loc 11)
      (.seq (.region [⟨.mov (.loc 4), none, none⟩, ⟨.build [(.int .i64 0), (.int .i64 0)] [(0, 1, (.cst (.int .i64 4))), (1, 1, (.reg 0))], none, none⟩, ⟨.mov (.cst (.sl .nil [])), (some 1), none⟩, ⟨.store 2 (.loc 2) (.reg 1), none, none⟩])
      .ret)
      .skip)))
     .skip))
    (.region [⟨.mov (.loc 3), none, none⟩, ⟨.mov (.loc 5), none, none⟩, ⟨.conv (.toInt .i64) (.reg 1), none, none⟩, ⟨.mov (.loc 4), none, none⟩, ⟨.build [(.int .i64 0), (.int .i64 0)] [(0, 1, (.reg 2)), (1, 1, (.reg 3))], none, none⟩, ⟨.lit false [(.int .i64 0), (.int .i64 0)] 1 [(0, (.reg 4))], none, none⟩, ⟨.append false 2 16 167 (.reg 0) (.reg 5), none, none⟩, ⟨.mov (.reg 6), (some 3), none⟩])))))))))
 (.seq (.region [⟨.mov (.loc 3), none, none⟩, ⟨.build [(.int .i64 0), (.int .i64 0)] [], none, none⟩, ⟨.mov (.reg 0), (some 1), none⟩, ⟨.store 2 (.loc 2) (.reg 1), none, none⟩])
 .ret))))⟩
theorem c152 : compFunc Tryz.prog opts a152 Tryz.f152 = some t152 := by kernel_rfl
/-- slices.IndexFunc[[]int,int] -/
def a153 : Ann := { slots := [0, 1, 4, 5, 7, 8, 9, 16], lb := [], mu := [], trunc := [], draws := [] }
def t153 : TFunc := ⟨2, 8, [.loc 2],
 (.seq (.region [⟨.mov (.cst (.int .i64 0)), (some 2), none⟩])
 (.seq (.seq (.region [⟨.mov (.loc 0), none, none⟩, ⟨.len .sl (.reg 0), (some 4), none⟩, ⟨.mov (.cst (.int .i64 0)), (some 5), none⟩])
 (.block 0
  (.loop
   (.seq (.region [⟨.bin .lss (.loc 5) (.loc 4), (some 6), none⟩])
   (.seq (.cond (.loc 6)
    .skip
    (.exit 0))
   (.seq (.block 1
    (.seq (.region [⟨.mov (.loc 5), none, none⟩, ⟨.mov (.reg 0), (some 3), none⟩])
    (.seq (.region [⟨.mov (.loc 1), none, none⟩, ⟨.mov (.loc 0), none, none⟩, ⟨.mov (.loc 3), none, none⟩, ⟨.indexAddrS 1 (.reg 1) (.reg 2), none, none⟩, ⟨.load1 (.reg 3), none, none⟩, ⟨.callv (.reg 0) [(.reg 4)], (some 7), none⟩])
    (.cond (.loc 7)
     (.seq (.region [⟨.mov (.loc 3), none, none⟩, ⟨.mov (.reg 0), (some 2), none⟩])
     .ret)
     .skip))))
   (.region [⟨.bin .add (.loc 5) (.cst (.int .i64 1)), none, none⟩, ⟨.mov (.reg 0), (some 5), none⟩])))))))
 (.seq (.region [⟨.mov (.cst (.int .i64 (-1))), (some 2), none⟩])
 .ret)))⟩
theorem c153 : compFunc Tryz.prog opts a153 Tryz.f153 = some t153 := by kernel_rfl
/-- slices.AppendSeq[[]int,int] -/
def a154 : Ann := { slots := [0, 1, 2, 4, 5, 6, 7], lb := [], mu := [(3, 3)], trunc := [], draws := [] }
def t154 : TFunc := ⟨2, 7, [.loc 3],
 (.seq (.region [⟨.boxH 23 (.loc 0), (some 2), none⟩, ⟨.mov (.cst (.sl .nil [])), (some 3), none⟩])
 (.seq (.seq (.region [⟨.mov (.loc 1), (some 5), none⟩])
 (.block 0
  (.rangeFunc (.loc 5) [6]
   (.region [⟨.mov (.loc 6), (some 4), none⟩])
   (.block 1
    (.region [⟨.load1 (.loc 2), none, none⟩, ⟨.mov (.loc 4), none, none⟩, ⟨.lit false [(.int .i64 0)] 1 [(0, (.reg 1))], none, none⟩, ⟨.append true 1 8 3 (.reg 0) (.reg 2), none, none⟩, ⟨.store 1 (.loc 2) (.reg 3), none, none⟩])))))
 (.seq (.region [⟨.load1 (.loc 2), none, none⟩, ⟨.mov (.reg 0), (some 3), none⟩])
 .ret)))⟩
theorem c154 : compFunc Tryz.prog opts a154 Tryz.f154 = some t154 := by kernel_rfl
/-- slices.pdqsortOrdered[int] -/
def a155 : Ann := { slots := [0, 1, 2, 3, 8, 9, 10, 11, 12, 13, 14, 15, 16, 17, 18, 23, 29, 35, 50, 68, 72, 87, 113], lb := [], mu := [], trunc := [], draws := [(17, ⟨[0, 1, 3, 7, 7, 23, 63, 127, 7, 7, 775, 1799, 4095, 8191, 16383], [0, 1, 2, 3, 4, 5, 6, 7, 8, 9, 10, 11], [(12, [], [13, 14])]⟩)] }
def t155 : TFunc := ⟨4, 23, [],
 (.seq (.region [⟨.mov (.cst (.bool true)), (some 4), none⟩])
 (.seq (.region [⟨.mov (.cst (.bool true)), (some 5), none⟩])
 (.block 0
  (.loop
   (.block 1
    (.seq (.region [⟨.mov (.loc 2), none, none⟩, ⟨.mov (.loc 1), none, none⟩, ⟨.bin .sub (.reg 0) (.reg 1), none, none⟩, ⟨.mov (.reg 2), (some 6), none⟩])
    (.seq (.seq (.region [⟨.mov (.loc 6), none, none⟩, ⟨.bin .leq (.reg 0) (.cst (.int .i64 12)), (some 15), none⟩])
    (.cond (.loc 15)
     (.seq (.region [⟨.mov (.loc 0), none, none⟩, ⟨.mov (.loc 1), none, none⟩, ⟨.mov (.loc 2), none, none⟩, ⟨.call false false 174 [(.reg 0), (.reg 1), (.reg 2)], none, none⟩])
     .ret)
     .skip))
    (.seq (.seq (.region [⟨.mov (.loc 3), none, none⟩, ⟨.bin .eql (.reg 0) (.cst (.int .i64 0)), (some 16), none⟩])
    (.cond (.loc 16)
     (.seq (.region [⟨.mov (.loc 0), none, none⟩, ⟨.mov (.loc 1), none, none⟩, ⟨.mov (.loc 2), none, none⟩, ⟨.call false false 175 [(.reg 0), (.reg 1), (.reg 2)], none, none⟩])
     .ret)
     .skip))
    (.seq (.seq (.region [⟨.mov (.loc 4), none, none⟩, ⟨.un .not (.reg 0), (some 17), none⟩])
    (.cond (.loc 17)
     (.seq (.region [⟨.mov (.loc 0), none, none⟩, ⟨.mov (.loc 1), none, none⟩, ⟨.mov (.loc 2), none, none⟩, ⟨.call false false 176 [(.reg 0), (.reg 1), (.reg 2)], none, none⟩])
     (.region [⟨.mov (.loc 3), none, none⟩, ⟨.bin .sub (.reg 0) (.cst (.int .i64 1)), none, none⟩, ⟨.mov (.reg 1), (some 3), none⟩]))
     .skip))
    (.seq (.region [⟨.mov (.loc 0), none, none⟩, ⟨.mov (.loc 1), none, none⟩, ⟨.mov (.loc 2), none, none⟩, ⟨.call false false 177 [(.reg 0), (.reg 1), (.reg 2)], none, none⟩, ⟨.mov (.reg 3), none, none⟩, ⟨.extract 0 (.reg 4), none, none⟩, ⟨.extract 1 (.reg 4), none, none⟩, ⟨.mov (.reg 5), (some 7), none⟩, ⟨.mov (.reg 6), (some 8), none⟩])
    (.seq (.seq (.region [⟨.mov (.loc 8), none, none⟩, ⟨.bin .eql (.reg 0) (.cst (.int .i64 2)), (some 18), none⟩])
    (.cond (.loc 18)
     (.seq (.region [⟨.mov (.loc 0), none, none⟩, ⟨.mov (.loc 1), none, none⟩, ⟨.mov (.loc 2), none, none⟩, ⟨.call false false 178 [(.reg 0), (.reg 1), (.reg 2)], none, none⟩])
     (.seq (.region [⟨.mov (.loc 2), none, none⟩, ⟨.bin .sub (.reg 0) (.cst (.int .i64 1)), none, none⟩, ⟨.mov (.loc 7), none, none⟩, ⟨.mov (.loc 1), none, none⟩, ⟨.bin .sub (.reg 2) (.reg 3), none, none⟩, ⟨.bin .sub (.reg 1) (.reg 4), none, none⟩, ⟨.mov (.reg 5), (some 7), none⟩])
     (.region [⟨.mov (.cst (.int .i64 1)), (some 8), none⟩])))
     .skip))
    (.seq (.seq (.region [⟨.mov (.loc 4), none, none⟩, ⟨.mov (.reg 0), none, none⟩, ⟨.mov (.loc 5), none, (some (1, true))⟩, ⟨.pick (.reg 1) (.reg 2) (.cst (.bool false)), none, none⟩, ⟨.mov (.reg 3), none, none⟩, ⟨.mov (.loc 8), none, (some (4, true))⟩, ⟨.bin .eql (.reg 5) (.cst (.int .i64 1)), none, (some (4, true))⟩, ⟨.pick (.reg 4) (.reg 6) (.cst (.bool false)), (some 19), none⟩])
    (.cond (.loc 19)
     (.seq (.region [⟨.mov (.loc 0), none, none⟩, ⟨.mov (.loc 1), none, none⟩, ⟨.mov (.loc 2), none, none⟩, ⟨.call false false 179 [(.reg 0), (.reg 1), (.reg 2)], (some 20), none⟩])
     (.cond (.loc 20)
      .ret
      .skip))
     .skip))
    (.seq (.seq (.draw [0, 1, 2, 3, 4, 5, 6, 7, 8, 9, 10, 11] [(12, [], [13, 14])] [⟨.mov (.loc 1), none, none⟩, ⟨.bin .gtr (.reg 0) (.cst (.int .i64 0)), none, none⟩, ⟨.mov (.reg 1), none, none⟩, ⟨.mov (.loc 0), none, (some (2, true))⟩, ⟨.mov (.loc 1), none, (some (2, true))⟩, ⟨.bin .sub (.reg 4) (.cst (.int .i64 1)), none, (some (2, true))⟩, ⟨.indexAddrS 1 (.reg 3) (.reg 5), none, (some (2, true))⟩, ⟨.load1 (.reg 6), none, (some (2, true))⟩, ⟨.mov (.loc 0), none, (some (2, true))⟩, ⟨.mov (.loc 7), none, (some (2, true))⟩, ⟨.indexAddrS 1 (.reg 8) (.reg 9), none, (some (2, true))⟩, ⟨.load1 (.reg 10), none, (some (2, true))⟩, ⟨.call true false 180 [(.reg 7), (.reg 11)], none, (some (2, true))⟩, ⟨.un .not (.reg 12), none, (some (2, true))⟩, ⟨.pick (.reg 2) (.reg 13) (.cst (.bool false)), (some 21), none⟩])
    (.cond (.loc 21)
     (.seq (.region [⟨.mov (.loc 0), none, none⟩, ⟨.mov (.loc 1), none, none⟩, ⟨.mov (.loc 2), none, none⟩, ⟨.mov (.loc 7), none, none⟩, ⟨.call false false 181 [(.reg 0), (.reg 1), (.reg 2), (.reg 3)], none, none⟩, ⟨.mov (.reg 4), (some 9), none⟩])
     (.seq (.region [⟨.mov (.loc 9), none, none⟩, ⟨.mov (.reg 0), (some 1), none⟩])
     (.exit 1)))
     .skip))
    (.seq (.region [⟨.mov (.loc 0), none, none⟩, ⟨.mov (.loc 1), none, none⟩, ⟨.mov (.loc 2), none, none⟩, ⟨.mov (.loc 7), none, none⟩, ⟨.call false false 182 [(.reg 0), (.reg 1), (.reg 2), (.reg 3)], none, none⟩, ⟨.mov (.reg 4), none, none⟩, ⟨.extract 0 (.reg 5), none, none⟩, ⟨.extract 1 (.reg 5), none, none⟩, ⟨.mov (.reg 6), (some 10), none⟩, ⟨.mov (.reg 7), (some 11), none⟩])
    (.seq (.region [⟨.mov (.loc 11), none, none⟩, ⟨.mov (.reg 0), (some 5), none⟩])
    (.seq (.region [⟨.mov (.loc 10), none, none⟩, ⟨.mov (.loc 1), none, none⟩, ⟨.bin .sub (.reg 0) (.reg 1), none, none⟩, ⟨.mov (.loc 2), none, none⟩, ⟨.mov (.loc 10), none, none⟩, ⟨.bin .sub (.reg 3) (.reg 4), none, none⟩, ⟨.mov (.reg 2), (some 12), none⟩, ⟨.mov (.reg 5), (some 13), none⟩])
    (.seq (.region [⟨.mov (.loc 6), none, none⟩, ⟨.bin .quo (.reg 0) (.cst (.int .i64 8)), none, none⟩, ⟨.mov (.reg 1), (some 14), none⟩])
    (.seq (.region [⟨.mov (.loc 12), none, none⟩, ⟨.mov (.loc 13), none, none⟩, ⟨.bin .lss (.reg 0) (.reg 1), (some 22), none⟩])
    (.cond (.loc 22)
     (.seq (.region [⟨.mov (.loc 12), none, none⟩, ⟨.mov (.loc 14), none, none⟩, ⟨.bin .geq (.reg 0) (.reg 1), none, none⟩, ⟨.mov (.reg 2), (some 4), none⟩])
     (.seq (.region [⟨.mov (.loc 0), none, none⟩, ⟨.mov (.loc 1), none, none⟩, ⟨.mov (.loc 10), none, none⟩, ⟨.mov (.loc 3), none, none⟩, ⟨.call false false 155 [(.reg 0), (.reg 1), (.reg 2), (.reg 3)], none, none⟩])
     (.region [⟨.mov (.loc 10), none, none⟩, ⟨.bin .add (.reg 0) (.cst (.int .i64 1)), none, none⟩, ⟨.mov (.reg 1), (some 1), none⟩])))
     (.seq (.region [⟨.mov (.loc 13), none, none⟩, ⟨.mov (.loc 14), none, none⟩, ⟨.bin .geq (.reg 0) (.reg 1), none, none⟩, ⟨.mov (.reg 2), (some 4), none⟩])
     (.seq (.region [⟨.mov (.loc 0), none, none⟩, ⟨.mov (.loc 10), none, none⟩, ⟨.bin .add (.reg 1) (.cst (.int .i64 1)), none, none⟩, ⟨.mov (.loc 2), none, none⟩, ⟨.mov (.loc 3), none, none⟩, ⟨.call false false 155 [(.reg 0), (.reg 2), (.reg 3), (.reg 4)], none, none⟩])
     (.region [⟨.mov (.loc 10), none, none⟩, ⟨.mov (.reg 0), (some 2), none⟩]))))))))))))))))))))))⟩
theorem c155 : compFunc Tryz.prog opts a155 Tryz.f155 = some t155 := by kernel_rfl
/-- math/bits.Len -/
def a156 : Ann := { slots := [0, 2], lb := [], mu := [], trunc := [], draws := [] }
def t156 : TFunc := ⟨1, 2, [.loc 1],
 (.seq (.region [⟨.mov (.cst (.int .i64 0)), (some 1), none⟩])
 (.seq (.cond (.cst (.bool false))
  (.seq (.region [⟨.mov (.loc 0), none, none⟩, ⟨.conv (.toInt .u32) (.reg 0), none, none⟩, ⟨.call true false 183 [(.reg 1)], none, none⟩, ⟨.mov (.reg 2), (some 1), none⟩])
  .ret)
  .skip)
 (.seq (.region [⟨.mov (.loc 0), none, none⟩, ⟨.call true false 184 [(.reg 0)], none, none⟩, ⟨.mov (.reg 1), (some 1), none⟩])
 .ret)))⟩
theorem c156 : compFunc Tryz.prog opts a156 Tryz.f156 = some t156 := by kernel_rfl
/-- internal/strconv.small -/
def a159 : Ann := { slots := [0, 2, 4], lb := [], mu := [], trunc := [], draws := [] }
def t159 : TFunc := ⟨1, 3, [.loc 1],
 (.seq (.region [⟨.mov (.cst (.str [])), (some 1), none⟩])
 (.seq (.seq (.region [⟨.mov (.loc 0), none, none⟩, ⟨.bin .lss (.reg 0) (.cst (.int .i64 10)), (some 2), none⟩])
 (.cond (.loc 2)
  (.seq (.region [⟨.mov (.loc 0), none, none⟩, ⟨.mov (.loc 0), none, none⟩, ⟨.bin .add (.reg 1) (.cst (.int .i64 1)), none, none⟩, ⟨.slice .str (.cst (.str [48, 49, 50, 51, 52, 53, 54, 55, 56, 57, 97, 98, 99, 100, 101, 102, 103, 104, 105, 106, 107, 108, 109, 110, 111, 112, 113, 114, 115, 116, 117, 118, 119, 120, 121, 122])) (some (.reg 0)) (some (.reg 2)) none, none, none⟩, ⟨.mov (.reg 3), (some 1), none⟩])
  .ret)
  .skip))
 (.seq (.region [⟨.mov (.loc 0), none, none⟩, ⟨.bin .mul (.reg 0) (.cst (.int .i64 2)), none, none⟩, ⟨.mov (.loc 0), none, none⟩, ⟨.bin .mul (.reg 2) (.cst (.int .i64 2)), none, none⟩, ⟨.bin .add (.reg 3) (.cst (.int .i64 2)), none, none⟩, ⟨.slice .str (.cst (.str [48, 48, 48, 49, 48, 50, 48, 51, 48, 52, 48, 53, 48, 54, 48, 55, 48, 56, 48, 57, 49, 48, 49, 49, 49, 50, 49, 51, 49, 52, 49, 53, 49, 54, 49, 55, 49, 56, 49, 57, 50, 48, 50, 49, 50, 50, 50, 51, 50, 52, 50, 53, 50, 54, 50, 55, 50, 56, 50, 57, 51, 48, 51, 49, 51, 50, 51, 51, 51, 52, 51, 53, 51, 54, 51, 55, 51, 56, 51, 57, 52, 48, 52, 49, 52, 50, 52, 51, 52, 52, 52, 53, 52, 54, 52, 55, 52, 56, 52, 57, 53, 48, 53, 49, 53, 50, 53, 51, 53, 52, 53, 53, 53, 54, 53, 55, 53, 56, 53, 57, 54, 48, 54, 49, 54, 50, 54, 51, 54, 52, 54, 53, 54, 54, 54, 55, 54, 56, 54, 57, 55, 48, 55, 49, 55, 50, 55, 51, 55, 52, 55, 53, 55, 54, 55, 55, 55, 56, 55, 57, 56, 48, 56, 49, 56, 50, 56, 51, 56, 52, 56, 53, 56, 54, 56, 55, 56, 56, 56, 57, 57, 48, 57, 49, 57, 50, 57, 51, 57, 52, 57, 53, 57, 54, 57, 55, 57, 56, 57, 57])) (some (.reg 1)) (some (.reg 4)) none, none, none⟩, ⟨.mov (.reg 5), (some 1), none⟩])
 .ret)))⟩
theorem c159 : compFunc Tryz.prog opts a159 Tryz.f159 = some t159 := by kernel_rfl
/-- internal/strconv.numDigits -/
def a160 : Ann := { slots := [0, 2, 3], lb := [], mu := [], trunc := [], draws := [] }
def t160 : TFunc := ⟨1, 3, [.loc 1],
 (.seq (.region [⟨.mov (.cst (.int .i64 0)), (some 1), none⟩])
 (.seq (.region [⟨.mov (.loc 0), none, none⟩, ⟨.call true false 184 [(.reg 0)], none, none⟩, ⟨.call true false 185 [(.reg 1)], none, none⟩, ⟨.mov (.reg 2), (some 2), none⟩])
 (.seq (.region [⟨.mov (.loc 2), none, none⟩, ⟨.mov (.loc 0), none, none⟩, ⟨.mov (.loc 2), none, none⟩, ⟨.indexAddrA 20 1 (.glob 0) (.reg 2), none, none⟩, ⟨.load1 (.reg 3), none, none⟩, ⟨.bin .geq (.reg 1) (.reg 4), none, none⟩, ⟨.call true false 186 [(.reg 5)], none, none⟩, ⟨.bin .add (.reg 0) (.reg 6), none, none⟩, ⟨.mov (.reg 7), (some 1), none⟩])
 .ret)))⟩
theorem c160 : compFunc Tryz.prog opts a160 Tryz.f160 = some t160 := by kernel_rfl
/-- internal/strconv.formatBase10 -/
def a161 : Ann := { slots := [0, 1, 4, 5, 6, 7, 8, 9, 10, 11, 12, 13, 14, 15, 16, 20, 99, 139, 161], lb := [], mu := [], trunc := [], draws := [(7, ⟨[0, 0, 2, 0, 0, 16, 0, 64, 192, 0, 512, 455, 2503, 8191, 16383], [0, 1, 2, 3, 4, 5, 6, 7, 8, 9, 10, 11], [(12, [], [13]), (14, [], [])]⟩), (8, ⟨[0, 0, 2, 0, 0, 16, 0, 64, 192, 0, 512, 455, 2503, 8191, 16383], [0, 1, 2, 3, 4, 5, 6, 7, 8, 9, 10, 11], [(12, [], [13]), (14, [], [])]⟩), (9, ⟨[0, 0, 2, 0, 0, 16, 0, 64, 192, 0, 512, 455, 2503, 8191, 16383], [0, 1, 2, 3, 4, 5, 6, 7, 8, 9, 10, 11], [(12, [], [13]), (14, [], [])]⟩), (10, ⟨[0, 0, 2, 0, 0, 16, 0, 64, 192, 0, 512, 455, 2503, 8191, 16383], [0, 1, 2, 3, 4, 5, 6, 7, 8, 9, 10, 11], [(12, [], [13]), (14, [], [])]⟩), (17, ⟨[0, 0, 2, 0, 0, 16, 0, 64, 192, 0, 512, 455, 2503, 8191, 16383], [0, 1, 2, 3, 4, 5, 6, 7, 8, 9, 10, 11], [(12, [], [13]), (14, [], [])]⟩), (18, ⟨[0, 0, 2, 0, 0, 16, 0, 64, 192, 0, 512, 455, 2503, 8191, 16383], [0, 1, 2, 3, 4, 5, 6, 7, 8, 9, 10, 11], [(12, [], [13]), (14, [], [])]⟩), (23, ⟨[0, 0, 2, 0, 0, 16, 0, 64, 192, 0, 512, 455, 2503, 8191, 16383], [0, 1, 2, 3, 4, 5, 6, 7, 8, 9, 10, 11], [(12, [], [13]), (14, [], [])]⟩)] }
def t161 : TFunc := ⟨2, 19, [],
 (.seq (.region [⟨.mov (.loc 0), none, none⟩, ⟨.len .sl (.reg 0), none, none⟩, ⟨.mov (.reg 1), (some 2), none⟩])
 (.seq (.block 0
  (.loop
   (.seq (.seq (.region [⟨.mov (.loc 2), none, none⟩, ⟨.bin .geq (.reg 0) (.cst (.int .i64 8)), (some 15), none⟩])
   (.cond (.loc 15)
    .skip
    (.exit 0)))
   (.block 1
    (.seq (.region [⟨.mov (.loc 1), none, none⟩, ⟨.bin .rem (.reg 0) (.cst (.int .u64 100000000)), none, none⟩, ⟨.conv (.toInt .u32) (.reg 1), none, none⟩, ⟨.mov (.reg 2), (some 3), none⟩])
    (.seq (.region [⟨.mov (.loc 1), none, none⟩, ⟨.bin .quo (.reg 0) (.cst (.int .u64 100000000)), none, none⟩, ⟨.mov (.reg 1), (some 1), none⟩])
    (.seq (.region [⟨.mov (.loc 3), none, none⟩, ⟨.bin .quo (.reg 0) (.cst (.int .u32 10000)), none, none⟩, ⟨.mov (.loc 3), none, none⟩, ⟨.bin .rem (.reg 2) (.cst (.int .u32 10000)), none, none⟩, ⟨.mov (.reg 1), (some 4), none⟩, ⟨.mov (.reg 3), (some 5), none⟩])
    (.seq (.region [⟨.mov (.loc 5), none, none⟩, ⟨.bin .quo (.reg 0) (.cst (.int .u32 100)), none, none⟩, ⟨.bin .mul (.reg 1) (.cst (.int .u32 2)), none, none⟩, ⟨.mov (.loc 5), none, none⟩, ⟨.bin .rem (.reg 3) (.cst (.int .u32 100)), none, none⟩, ⟨.bin .mul (.reg 4) (.cst (.int .u32 2)), none, none⟩, ⟨.mov (.reg 2), (some 6), none⟩, ⟨.mov (.reg 5), (some 7), none⟩])
    (.seq (.region [⟨.mov (.loc 4), none, none⟩, ⟨.bin .quo (.reg 0) (.cst (.int .u32 100)), none, none⟩, ⟨.bin .mul (.reg 1) (.cst (.int .u32 2)), none, none⟩, ⟨.mov (.loc 4), none, none⟩, ⟨.bin .rem (.reg 3) (.cst (.int .u32 100)), none, none⟩, ⟨.bin .mul (.reg 4) (.cst (.int .u32 2)), none, none⟩, ⟨.mov (.reg 2), (some 8), none⟩, ⟨.mov (.reg 5), (some 9), none⟩])
    (.seq (.draw [0, 1, 2, 3, 4, 5, 6, 7, 8, 9, 10, 11] [(12, [], [13]), (14, [], [])] [⟨.mov (.loc 0), none, none⟩, ⟨.mov (.loc 2), none, none⟩, ⟨.bin .sub (.reg 1) (.cst (.int .i64 1)), none, none⟩, ⟨.mov (.loc 0), none, none⟩, ⟨.mov (.loc 2), none, none⟩, ⟨.bin .sub (.reg 4) (.cst (.int .i64 2)), none, none⟩, ⟨.mov (.loc 7), none, none⟩, ⟨.bin .add (.reg 6) (.cst (.int .u32 1)), none, none⟩, ⟨.indexS (.cst (.str [48, 48, 48, 49, 48, 50, 48, 51, 48, 52, 48, 53, 48, 54, 48, 55, 48, 56, 48, 57, 49, 48, 49, 49, 49, 50, 49, 51, 49, 52, 49, 53, 49, 54, 49, 55, 49, 56, 49, 57, 50, 48, 50, 49, 50, 50, 50, 51, 50, 52, 50, 53, 50, 54, 50, 55, 50, 56, 50, 57, 51, 48, 51, 49, 51, 50, 51, 51, 51, 52, 51, 53, 51, 54, 51, 55, 51, 56, 51, 57, 52, 48, 52, 49, 52, 50, 52, 51, 52, 52, 52, 53, 52, 54, 52, 55, 52, 56, 52, 57, 53, 48, 53, 49, 53, 50, 53, 51, 53, 52, 53, 53, 53, 54, 53, 55, 53, 56, 53, 57, 54, 48, 54, 49, 54, 50, 54, 51, 54, 52, 54, 53, 54, 54, 54, 55, 54, 56, 54, 57, 55, 48, 55, 49, 55, 50, 55, 51, 55, 52, 55, 53, 55, 54, 55, 55, 55, 56, 55, 57, 56, 48, 56, 49, 56, 50, 56, 51, 56, 52, 56, 53, 56, 54, 56, 55, 56, 56, 56, 57, 57, 48, 57, 49, 57, 50, 57, 51, 57, 52, 57, 53, 57, 54, 57, 55, 57, 56, 57, 57])) (.reg 7), none, none⟩, ⟨.mov (.loc 7), none, none⟩, ⟨.indexS (.cst (.str [48, 48, 48, 49, 48, 50, 48, 51, 48, 52, 48, 53, 48, 54, 48, 55, 48, 56, 48, 57, 49, 48, 49, 49, 49, 50, 49, 51, 49, 52, 49, 53, 49, 54, 49, 55, 49, 56, 49, 57, 50, 48, 50, 49, 50, 50, 50, 51, 50, 52, 50, 53, 50, 54, 50, 55, 50, 56, 50, 57, 51, 48, 51, 49, 51, 50, 51, 51, 51, 52, 51, 53, 51, 54, 51, 55, 51, 56, 51, 57, 52, 48, 52, 49, 52, 50, 52, 51, 52, 52, 52, 53, 52, 54, 52, 55, 52, 56, 52, 57, 53, 48, 53, 49, 53, 50, 53, 51, 53, 52, 53, 53, 53, 54, 53, 55, 53, 56, 53, 57, 54, 48, 54, 49, 54, 50, 54, 51, 54, 52, 54, 53, 54, 54, 54, 55, 54, 56, 54, 57, 55, 48, 55, 49, 55, 50, 55, 51, 55, 52, 55, 53, 55, 54, 55, 55, 55, 56, 55, 57, 56, 48, 56, 49, 56, 50, 56, 51, 56, 52, 56, 53, 56, 54, 56, 55, 56, 56, 56, 57, 57, 48, 57, 49, 57, 50, 57, 51, 57, 52, 57, 53, 57, 54, 57, 55, 57, 56, 57, 57])) (.reg 9), none, none⟩, ⟨.indexAddrS 1 (.reg 0) (.reg 2), none, none⟩, ⟨.store 1 (.reg 11) (.reg 8), none, none⟩, ⟨.indexAddrS 1 (.reg 3) (.reg 5), none, none⟩, ⟨.store 1 (.reg 13) (.reg 10), none, none⟩])
    (.seq (.draw [0, 1, 2, 3, 4, 5, 6, 7, 8, 9, 10, 11] [(12, [], [13]), (14, [], [])] [⟨.mov (.loc 0), none, none⟩, ⟨.mov (.loc 2), none, none⟩, ⟨.bin .sub (.reg 1) (.cst (.int .i64 3)), none, none⟩, ⟨.mov (.loc 0), none, none⟩, ⟨.mov (.loc 2), none, none⟩, ⟨.bin .sub (.reg 4) (.cst (.int .i64 4)), none, none⟩, ⟨.mov (.loc 6), none, none⟩, ⟨.bin .add (.reg 6) (.cst (.int .u32 1)), none, none⟩, ⟨.indexS (.cst (.str [48, 48, 48, 49, 48, 50, 48, 51, 48, 52, 48, 53, 48, 54, 48, 55, 48, 56, 48, 57, 49, 48, 49, 49, 49, 50, 49, 51, 49, 52, 49, 53, 49, 54, 49, 55, 49, 56, 49, 57, 50, 48, 50, 49, 50, 50, 50, 51, 50, 52, 50, 53, 50, 54, 50, 55, 50, 56, 50, 57, 51, 48, 51, 49, 51, 50, 51, 51, 51, 52, 51, 53, 51, 54, 51, 55, 51, 56, 51, 57, 52, 48, 52, 49, 52, 50, 52, 51, 52, 52, 52, 53, 52, 54, 52, 55, 52, 56, 52, 57, 53, 48, 53, 49, 53, 50, 53, 51, 53, 52, 53, 53, 53, 54, 53, 55, 53, 56, 53, 57, 54, 48, 54, 49, 54, 50, 54, 51, 54, 52, 54, 53, 54, 54, 54, 55, 54, 56, 54, 57, 55, 48, 55, 49, 55, 50, 55, 51, 55, 52, 55, 53, 55, 54, 55, 55, 55, 56, 55, 57, 56, 48, 56, 49, 56, 50, 56, 51, 56, 52, 56, 53, 56, 54, 56, 55, 56, 56, 56, 57, 57, 48, 57, 49, 57, 50, 57, 51, 57, 52, 57, 53, 57, 54, 57, 55, 57, 56, 57, 57])) (.reg 7), none, none⟩, ⟨.mov (.loc 6), none, none⟩, ⟨.indexS (.cst (.str [48, 48, 48, 49, 48, 50, 48, 51, 48, 52, 48, 53, 48, 54, 48, 55, 48, 56, 48, 57, 49, 48, 49, 49, 49, 50, 49, 51, 49, 52, 49, 53, 49, 54, 49, 55, 49, 56, 49, 57, 50, 48, 50, 49, 50, 50, 50, 51, 50, 52, 50, 53, 50, 54, 50, 55, 50, 56, 50, 57, 51, 48, 51, 49, 51, 50, 51, 51, 51, 52, 51, 53, 51, 54, 51, 55, 51, 56, 51, 57, 52, 48, 52, 49, 52, 50, 52, 51, 52, 52, 52, 53, 52, 54, 52, 55, 52, 56, 52, 57, 53, 48, 53, 49, 53, 50, 53, 51, 53, 52, 53, 53, 53, 54, 53, 55, 53, 56, 53, 57, 54, 48, 54, 49, 54, 50, 54, 51, 54, 52, 54, 53, 54, 54, 54, 55, 54, 56, 54, 57, 55, 48, 55, 49, 55, 50, 55, 51, 55, 52, 55, 53, 55, 54, 55, 55, 55, 56, 55, 57, 56, 48, 56, 49, 56, 50, 56, 51, 56, 52, 56, 53, 56, 54, 56, 55, 56, 56, 56, 57, 57, 48, 57, 49, 57, 50, 57, 51, 57, 52, 57, 53, 57, 54, 57, 55, 57, 56, 57, 57])) (.reg 9), none, none⟩, ⟨.indexAddrS 1 (.reg 0) (.reg 2), none, none⟩, ⟨.store 1 (.reg 11) (.reg 8), none, none⟩, ⟨.indexAddrS 1 (.reg 3) (.reg 5), none, none⟩, ⟨.store 1 (.reg 13) (.reg 10), none, none⟩])
    (.seq (.draw [0, 1, 2, 3, 4, 5, 6, 7, 8, 9, 10, 11] [(12, [], [13]), (14, [], [])] [⟨.mov (.loc 0), none, none⟩, ⟨.mov (.loc 2), none, none⟩, ⟨.bin .sub (.reg 1) (.cst (.int .i64 5)), none, none⟩, ⟨.mov (.loc 0), none, none⟩, ⟨.mov (.loc 2), none, none⟩, ⟨.bin .sub (.reg 4) (.cst (.int .i64 6)), none, none⟩, ⟨.mov (.loc 9), none, none⟩, ⟨.bin .add (.reg 6) (.cst (.int .u32 1)), none, none⟩, ⟨.indexS (.cst (.str [48, 48, 48, 49, 48, 50, 48, 51, 48, 52, 48, 53, 48, 54, 48, 55, 48, 56, 48, 57, 49, 48, 49, 49, 49, 50, 49, 51, 49, 52, 49, 53, 49, 54, 49, 55, 49, 56, 49, 57, 50, 48, 50, 49, 50, 50, 50, 51, 50, 52, 50, 53, 50, 54, 50, 55, 50, 56, 50, 57, 51, 48, 51, 49, 51, 50, 51, 51, 51, 52, 51, 53, 51, 54, 51, 55, 51, 56, 51, 57, 52, 48, 52, 49, 52, 50, 52, 51, 52, 52, 52, 53, 52, 54, 52, 55, 52, 56, 52, 57, 53, 48, 53, 49, 53, 50, 53, 51, 53, 52, 53, 53, 53, 54, 53, 55, 53, 56, 53, 57, 54, 48, 54, 49, 54, 50, 54, 51, 54, 52, 54, 53, 54, 54, 54, 55, 54, 56, 54, 57, 55, 48, 55, 49, 55, 50, 55, 51, 55, 52, 55, 53, 55, 54, 55, 55, 55, 56, 55, 57, 56, 48, 56, 49, 56, 50, 56, 51, 56, 52, 56, 53, 56, 54, 56, 55, 56, 56, 56, 57, 57, 48, 57, 49, 57, 50, 57, 51, 57, 52, 57, 53, 57, 54, 57, 55, 57, 56, 57, 57])) (.reg 7), none, none⟩, ⟨.mov (.loc 9), none, none⟩, ⟨.indexS (.cst (.str [48, 48, 48, 49, 48, 50, 48, 51, 48, 52, 48, 53, 48, 54, 48, 55, 48, 56, 48, 57, 49, 48, 49, 49, 49, 50, 49, 51, 49, 52, 49, 53, 49, 54, 49, 55, 49, 56, 49, 57, 50, 48, 50, 49, 50, 50, 50, 51, 50, 52, 50, 53, 50, 54, 50, 55, 50, 56, 50, 57, 51, 48, 51, 49, 51, 50, 51, 51, 51, 52, 51, 53, 51, 54, 51, 55, 51, 56, 51, 57, 52, 48, 52, 49, 52, 50, 52, 51, 52, 52, 52, 53, 52, 54, 52, 55, 52, 56, 52, 57, 53, 48, 53, 49, 53, 50, 53, 51, 53, 52, 53, 53, 53, 54, 53, 55, 53, 56, 53, 57, 54, 48, 54, 49, 54, 50, 54, 51, 54, 52, 54, 53, 54, 54, 54, 55, 54, 56, 54, 57, 55, 48, 55, 49, 55, 50, 55, 51, 55, 52, 55, 53, 55, 54, 55, 55, 55, 56, 55, 57, 56, 48, 56, 49, 56, 50, 56, 51, 56, 52, 56, 53, 56, 54, 56, 55, 56, 56, 56, 57, 57, 48, 57, 49, 57, 50, 57, 51, 57, 52, 57, 53, 57, 54, 57, 55, 57, 56, 57, 57])) (.reg 9), none, none⟩, ⟨.indexAddrS 1 (.reg 0) (.reg 2), none, none⟩, ⟨.store 1 (.reg 11) (.reg 8), none, none⟩, ⟨.indexAddrS 1 (.reg 3) (.reg 5), none, none⟩, ⟨.store 1 (.reg 13) (.reg 10), none, none⟩])
    (.seq (.draw [0, 1, 2, 3, 4, 5, 6, 7, 8, 9, 10, 11] [(12, [], [13]), (14, [], [])] [⟨.mov (.loc 0), none, none⟩, ⟨.mov (.loc 2), none, none⟩, ⟨.bin .sub (.reg 1) (.cst (.int .i64 7)), none, none⟩, ⟨.mov (.loc 0), none, none⟩, ⟨.mov (.loc 2), none, none⟩, ⟨.bin .sub (.reg 4) (.cst (.int .i64 8)), none, none⟩, ⟨.mov (.loc 8), none, none⟩, ⟨.bin .add (.reg 6) (.cst (.int .u32 1)), none, none⟩, ⟨.indexS (.cst (.str [48, 48, 48, 49, 48, 50, 48, 51, 48, 52, 48, 53, 48, 54, 48, 55, 48, 56, 48, 57, 49, 48, 49, 49, 49, 50, 49, 51, 49, 52, 49, 53, 49, 54, 49, 55, 49, 56, 49, 57, 50, 48, 50, 49, 50, 50, 50, 51, 50, 52, 50, 53, 50, 54, 50, 55, 50, 56, 50, 57, 51, 48, 51, 49, 51, 50, 51, 51, 51, 52, 51, 53, 51, 54, 51, 55, 51, 56, 51, 57, 52, 48, 52, 49, 52, 50, 52, 51, 52, 52, 52, 53, 52, 54, 52, 55, 52, 56, 52, 57, 53, 48, 53, 49, 53, 50, 53, 51, 53, 52, 53, 53, 53, 54, 53, 55, 53, 56, 53, 57, 54, 48, 54, 49, 54, 50, 54, 51, 54, 52, 54, 53, 54, 54, 54, 55, 54, 56, 54, 57, 55, 48, 55, 49, 55, 50, 55, 51, 55, 52, 55, 53, 55, 54, 55, 55, 55, 56, 55, 57, 56, 48, 56, 49, 56, 50, 56, 51, 56, 52, 56, 53, 56, 54, 56, 55, 56, 56, 56, 57, 57, 48, 57, 49, 57, 50, 57, 51, 57, 52, 57, 53, 57, 54, 57, 55, 57, 56, 57, 57])) (.reg 7), none, none⟩, ⟨.mov (.loc 8), none, none⟩, ⟨.indexS (.cst (.str [48, 48, 48, 49, 48, 50, 48, 51, 48, 52, 48, 53, 48, 54, 48, 55, 48, 56, 48, 57, 49, 48, 49, 49, 49, 50, 49, 51, 49, 52, 49, 53, 49, 54, 49, 55, 49, 56, 49, 57, 50, 48, 50, 49, 50, 50, 50, 51, 50, 52, 50, 53, 50, 54, 50, 55, 50, 56, 50, 57, 51, 48, 51, 49, 51, 50, 51, 51, 51, 52, 51, 53, 51, 54, 51, 55, 51, 56, 51, 57, 52, 48, 52, 49, 52, 50, 52, 51, 52, 52, 52, 53, 52, 54, 52, 55, 52, 56, 52, 57, 53, 48, 53, 49, 53, 50, 53, 51, 53, 52, 53, 53, 53, 54, 53, 55, 53, 56, 53, 57, 54, 48, 54, 49, 54, 50, 54, 51, 54, 52, 54, 53, 54, 54, 54, 55, 54, 56, 54, 57, 55, 48, 55, 49, 55, 50, 55, 51, 55, 52, 55, 53, 55, 54, 55, 55, 55, 56, 55, 57, 56, 48, 56, 49, 56, 50, 56, 51, 56, 52, 56, 53, 56, 54, 56, 55, 56, 56, 56, 57, 57, 48, 57, 49, 57, 50, 57, 51, 57, 52, 57, 53, 57, 54, 57, 55, 57, 56, 57, 57])) (.reg 9), none, none⟩, ⟨.indexAddrS 1 (.reg 0) (.reg 2), none, none⟩, ⟨.store 1 (.reg 11) (.reg 8), none, none⟩, ⟨.indexAddrS 1 (.reg 3) (.reg 5), none, none⟩, ⟨.store 1 (.reg 13) (.reg 10), none, none⟩])
    (.region [⟨.mov (.loc 2), none, none⟩, ⟨.bin .sub (.reg 0) (.cst (.int .i64 8)), none, none⟩, ⟨.mov (.reg 1), (some 2), none⟩]))))))))))))))
 (.seq (.region [⟨.mov (.loc 1), none, none⟩, ⟨.conv (.toInt .u32) (.reg 0), none, none⟩, ⟨.mov (.reg 1), (some 10), none⟩])
 (.seq (.seq (.region [⟨.mov (.loc 2), none, none⟩, ⟨.bin .geq (.reg 0) (.cst (.int .i64 4)), (some 16), none⟩])
 (.cond (.loc 16)
  (.seq (.region [⟨.mov (.loc 10), none, none⟩, ⟨.bin .rem (.reg 0) (.cst (.int .u32 10000)), none, none⟩, ⟨.mov (.reg 1), (some 11), none⟩])
  (.seq (.region [⟨.mov (.loc 10), none, none⟩, ⟨.bin .quo (.reg 0) (.cst (.int .u32 10000)), none, none⟩, ⟨.mov (.reg 1), (some 10), none⟩])
  (.seq (.region [⟨.mov (.loc 11), none, none⟩, ⟨.bin .quo (.reg 0) (.cst (.int .u32 100)), none, none⟩, ⟨.bin .mul (.reg 1) (.cst (.int .u32 2)), none, none⟩, ⟨.mov (.loc 11), none, none⟩, ⟨.bin .rem (.reg 3) (.cst (.int .u32 100)), none, none⟩, ⟨.bin .mul (.reg 4) (.cst (.int .u32 2)), none, none⟩, ⟨.mov (.reg 2), (some 12), none⟩, ⟨.mov (.reg 5), (some 13), none⟩])
  (.seq (.draw [0, 1, 2, 3, 4, 5, 6, 7, 8, 9, 10, 11] [(12, [], [13]), (14, [], [])] [⟨.mov (.loc 0), none, none⟩, ⟨.mov (.loc 2), none, none⟩, ⟨.bin .sub (.reg 1) (.cst (.int .i64 1)), none, none⟩, ⟨.mov (.loc 0), none, none⟩, ⟨.mov (.loc 2), none, none⟩, ⟨.bin .sub (.reg 4) (.cst (.int .i64 2)), none, none⟩, ⟨.mov (.loc 13), none, none⟩, ⟨.bin .add (.reg 6) (.cst (.int .u32 1)), none, none⟩, ⟨.indexS (.cst (.str [48, 48, 48, 49, 48, 50, 48, 51, 48, 52, 48, 53, 48, 54, 48, 55, 48, 56, 48, 57, 49, 48, 49, 49, 49, 50, 49, 51, 49, 52, 49, 53, 49, 54, 49, 55, 49, 56, 49, 57, 50, 48, 50, 49, 50, 50, 50, 51, 50, 52, 50, 53, 50, 54, 50, 55, 50, 56, 50, 57, 51, 48, 51, 49, 51, 50, 51, 51, 51, 52, 51, 53, 51, 54, 51, 55, 51, 56, 51, 57, 52, 48, 52, 49, 52, 50, 52, 51, 52, 52, 52, 53, 52, 54, 52, 55, 52, 56, 52, 57, 53, 48, 53, 49, 53, 50, 53, 51, 53, 52, 53, 53, 53, 54, 53, 55, 53, 56, 53, 57, 54, 48, 54, 49, 54, 50, 54, 51, 54, 52, 54, 53, 54, 54, 54, 55, 54, 56, 54, 57, 55, 48, 55, 49, 55, 50, 55, 51, 55, 52, 55, 53, 55, 54, 55, 55, 55, 56, 55, 57, 56, 48, 56, 49, 56, 50, 56, 51, 56, 52, 56, 53, 56, 54, 56, 55, 56, 56, 56, 57, 57, 48, 57, 49, 57, 50, 57, 51, 57, 52, 57, 53, 57, 54, 57, 55, 57, 56, 57, 57])) (.reg 7), none, none⟩, ⟨.mov (.loc 13), none, none⟩, ⟨.indexS (.cst (.str [48, 48, 48, 49, 48, 50, 48, 51, 48, 52, 48, 53, 48, 54, 48, 55, 48, 56, 48, 57, 49, 48, 49, 49, 49, 50, 49, 51, 49, 52, 49, 53, 49, 54, 49, 55, 49, 56, 49, 57, 50, 48, 50, 49, 50, 50, 50, 51, 50, 52, 50, 53, 50, 54, 50, 55, 50, 56, 50, 57, 51, 48, 51, 49, 51, 50, 51, 51, 51, 52, 51, 53, 51, 54, 51, 55, 51, 56, 51, 57, 52, 48, 52, 49, 52, 50, 52, 51, 52, 52, 52, 53, 52, 54, 52, 55, 52, 56, 52, 57, 53, 48, 53, 49, 53, 50, 53, 51, 53, 52, 53, 53, 53, 54, 53, 55, 53, 56, 53, 57, 54, 48, 54, 49, 54, 50, 54, 51, 54, 52, 54, 53, 54, 54, 54, 55, 54, 56, 54, 57, 55, 48, 55, 49, 55, 50, 55, 51, 55, 52, 55, 53, 55, 54, 55, 55, 55, 56, 55, 57, 56, 48, 56, 49, 56, 50, 56, 51, 56, 52, 56, 53, 56, 54, 56, 55, 56, 56, 56, 57, 57, 48, 57, 49, 57, 50, 57, 51, 57, 52, 57, 53, 57, 54, 57, 55, 57, 56, 57, 57])) (.reg 9), none, none⟩, ⟨.indexAddrS 1 (.reg 0) (.reg 2), none, none⟩, ⟨.store 1 (.reg 11) (.reg 8), none, none⟩, ⟨.indexAddrS 1 (.reg 3) (.reg 5), none, none⟩, ⟨.store 1 (.reg 13) (.reg 10), none, none⟩])
  (.seq (.draw [0, 1, 2, 3, 4, 5, 6, 7, 8, 9, 10, 11] [(12, [], [13]), (14, [], [])] [⟨.mov (.loc 0), none, none⟩, ⟨.mov (.loc 2), none, none⟩, ⟨.bin .sub (.reg 1) (.cst (.int .i64 3)), none, none⟩, ⟨.mov (.loc 0), none, none⟩, ⟨.mov (.loc 2), none, none⟩, ⟨.bin .sub (.reg 4) (.cst (.int .i64 4)), none, none⟩, ⟨.mov (.loc 12), none, none⟩, ⟨.bin .add (.reg 6) (.cst (.int .u32 1)), none, none⟩, ⟨.indexS (.cst (.str [48, 48, 48, 49, 48, 50, 48, 51, 48, 52, 48, 53, 48, 54, 48, 55, 48, 56, 48, 57, 49, 48, 49, 49, 49, 50, 49, 51, 49, 52, 49, 53, 49, 54, 49, 55, 49, 56, 49, 57, 50, 48, 50, 49, 50, 50, 50, 51, 50, 52, 50, 53, 50, 54, 50, 55, 50, 56, 50, 57, 51, 48, 51, 49, 51, 50, 51, 51, 51, 52, 51, 53, 51, 54, 51, 55, 51, 56, 51, 57, 52, 48, 52, 49, 52, 50, 52, 51, 52, 52, 52, 53, 52, 54, 52, 55, 52, 56, 52, 57, 53, 48, 53, 49, 53, 50, 53, 51, 53, 52, 53, 53, 53, 54, 53, 55, 53, 56, 53, 57, 54, 48, 54, 49, 54, 50, 54, 51, 54, 52, 54, 53, 54, 54, 54, 55, 54, 56, 54, 57, 55, 48, 55, 49, 55, 50, 55, 51, 55, 52, 55, 53, 55, 54, 55, 55, 55, 56, 55, 57, 56, 48, 56, 49, 56, 50, 56, 51, 56, 52, 56, 53, 56, 54, 56, 55, 56, 56, 56, 57, 57, 48, 57, 49, 57, 50, 57, 51, 57, 52, 57, 53, 57, 54, 57, 55, 57, 56, 57, 57])) (.reg 7), none, none⟩, ⟨.mov (.loc 12), none, none⟩, ⟨.indexS (.cst (.str [48, 48, 48, 49, 48, 50, 48, 51, 48, 52, 48, 53, 48, 54, 48, 55, 48, 56, 48, 57, 49, 48, 49, 49, 49, 50, 49, 51, 49, 52, 49, 53, 49, 54, 49, 55, 49, 56, 49, 57, 50, 48, 50, 49, 50, 50, 50, 51, 50, 52, 50, 53, 50, 54, 50, 55, 50, 56, 50, 57, 51, 48, 51, 49, 51, 50, 51, 51, 51, 52, 51, 53, 51, 54, 51, 55, 51, 56, 51, 57, 52, 48, 52, 49, 52, 50, 52, 51, 52, 52, 52, 53, 52, 54, 52, 55, 52, 56, 52, 57, 53, 48, 53, 49, 53, 50, 53, 51, 53, 52, 53, 53, 53, 54, 53, 55, 53, 56, 53, 57, 54, 48, 54, 49, 54, 50, 54, 51, 54, 52, 54, 53, 54, 54, 54, 55, 54, 56, 54, 57, 55, 48, 55, 49, 55, 50, 55, 51, 55, 52, 55, 53, 55, 54, 55, 55, 55, 56, 55, 57, 56, 48, 56, 49, 56, 50, 56, 51, 56, 52, 56, 53, 56, 54, 56, 55, 56, 56, 56, 57, 57, 48, 57, 49, 57, 50, 57, 51, 57, 52, 57, 53, 57, 54, 57, 55, 57, 56, 57, 57])) (.reg 9), none, none⟩, ⟨.indexAddrS 1 (.reg 0) (.reg 2), none, none⟩, ⟨.store 1 (.reg 11) (.reg 8), none, none⟩, ⟨.indexAddrS 1 (.reg 3) (.reg 5), none, none⟩, ⟨.store 1 (.reg 13) (.reg 10), none, none⟩])
  (.region [⟨.mov (.loc 2), none, none⟩, ⟨.bin .sub (.reg 0) (.cst (.int .i64 4)), none, none⟩, ⟨.mov (.reg 1), (some 2), none⟩]))))))
  .skip))
 (.seq (.seq (.region [⟨.mov (.loc 2), none, none⟩, ⟨.bin .geq (.reg 0) (.cst (.int .i64 2)), (some 17), none⟩])
 (.cond (.loc 17)
  (.seq (.region [⟨.mov (.loc 10), none, none⟩, ⟨.bin .rem (.reg 0) (.cst (.int .u32 100)), none, none⟩, ⟨.bin .mul (.reg 1) (.cst (.int .u32 2)), none, none⟩, ⟨.mov (.reg 2), (some 14), none⟩])
  (.seq (.region [⟨.mov (.loc 10), none, none⟩, ⟨.bin .quo (.reg 0) (.cst (.int .u32 100)), none, none⟩, ⟨.mov (.reg 1), (some 10), none⟩])
  (.seq (.draw [0, 1, 2, 3, 4, 5, 6, 7, 8, 9, 10, 11] [(12, [], [13]), (14, [], [])] [⟨.mov (.loc 0), none, none⟩, ⟨.mov (.loc 2), none, none⟩, ⟨.bin .sub (.reg 1) (.cst (.int .i64 1)), none, none⟩, ⟨.mov (.loc 0), none, none⟩, ⟨.mov (.loc 2), none, none⟩, ⟨.bin .sub (.reg 4) (.cst (.int .i64 2)), none, none⟩, ⟨.mov (.loc 14), none, none⟩, ⟨.bin .add (.reg 6) (.cst (.int .u32 1)), none, none⟩, ⟨.indexS (.cst (.str [48, 48, 48, 49, 48, 50, 48, 51, 48, 52, 48, 53, 48, 54, 48, 55, 48, 56, 48, 57, 49, 48, 49, 49, 49, 50, 49, 51, 49, 52, 49, 53, 49, 54, 49, 55, 49, 56, 49, 57, 50, 48, 50, 49, 50, 50, 50, 51, 50, 52, 50, 53, 50, 54, 50, 55, 50, 56, 50, 57, 51, 48, 51, 49, 51, 50, 51, 51, 51, 52, 51, 53, 51, 54, 51, 55, 51, 56, 51, 57, 52, 48, 52, 49, 52, 50, 52, 51, 52, 52, 52, 53, 52, 54, 52, 55, 52, 56, 52, 57, 53, 48, 53, 49, 53, 50, 53, 51, 53, 52, 53, 53, 53, 54, 53, 55, 53, 56, 53, 57, 54, 48, 54, 49, 54, 50, 54, 51, 54, 52, 54, 53, 54, 54, 54, 55, 54, 56, 54, 57, 55, 48, 55, 49, 55, 50, 55, 51, 55, 52, 55, 53, 55, 54, 55, 55, 55, 56, 55, 57, 56, 48, 56, 49, 56, 50, 56, 51, 56, 52, 56, 53, 56, 54, 56, 55, 56, 56, 56, 57, 57, 48, 57, 49, 57, 50, 57, 51, 57, 52, 57, 53, 57, 54, 57, 55, 57, 56, 57, 57])) (.reg 7), none, none⟩, ⟨.mov (.loc 14), none, none⟩, ⟨.indexS (.cst (.str [48, 48, 48, 49, 48, 50, 48, 51, 48, 52, 48, 53, 48, 54, 48, 55, 48, 56, 48, 57, 49, 48, 49, 49, 49, 50, 49, 51, 49, 52, 49, 53, 49, 54, 49, 55, 49, 56, 49, 57, 50, 48, 50, 49, 50, 50, 50, 51, 50, 52, 50, 53, 50, 54, 50, 55, 50, 56, 50, 57, 51, 48, 51, 49, 51, 50, 51, 51, 51, 52, 51, 53, 51, 54, 51, 55, 51, 56, 51, 57, 52, 48, 52, 49, 52, 50, 52, 51, 52, 52, 52, 53, 52, 54, 52, 55, 52, 56, 52, 57, 53, 48, 53, 49, 53, 50, 53, 51, 53, 52, 53, 53, 53, 54, 53, 55, 53, 56, 53, 57, 54, 48, 54, 49, 54, 50, 54, 51, 54, 52, 54, 53, 54, 54, 54, 55, 54, 56, 54, 57, 55, 48, 55, 49, 55, 50, 55, 51, 55, 52, 55, 53, 55, 54, 55, 55, 55, 56, 55, 57, 56, 48, 56, 49, 56, 50, 56, 51, 56, 52, 56, 53, 56, 54, 56, 55, 56, 56, 56, 57, 57, 48, 57, 49, 57, 50, 57, 51, 57, 52, 57, 53, 57, 54, 57, 55, 57, 56, 57, 57])) (.reg 9), none, none⟩, ⟨.indexAddrS 1 (.reg 0) (.reg 2), none, none⟩, ⟨.store 1 (.reg 11) (.reg 8), none, none⟩, ⟨.indexAddrS 1 (.reg 3) (.reg 5), none, none⟩, ⟨.store 1 (.reg 13) (.reg 10), none, none⟩])
  (.region [⟨.mov (.loc 2), none, none⟩, ⟨.bin .sub (.reg 0) (.cst (.int .i64 2)), none, none⟩, ⟨.mov (.reg 1), (some 2), none⟩]))))
  .skip))
 (.seq (.region [⟨.mov (.loc 2), none, none⟩, ⟨.bin .gtr (.reg 0) (.cst (.int .i64 0)), (some 18), none⟩])
 (.cond (.loc 18)
  (.region [⟨.mov (.loc 0), none, none⟩, ⟨.mov (.loc 10), none, none⟩, ⟨.bin .add (.cst (.int .u32 48)) (.reg 1), none, none⟩, ⟨.conv (.toInt .u8) (.reg 2), none, none⟩, ⟨.indexAddrS 1 (.reg 0) (.cst (.int .i64 0)), none, none⟩, ⟨.store 1 (.reg 4) (.reg 3), none, none⟩])
  .skip)))))))⟩
theorem c161 : compFunc Tryz.prog opts a161 Tryz.f161 = some t161 := by kernel_rfl
/-- internal/strconv.formatBits -/
def a162 : Ann := { slots := [0, 1, 2, 3, 4, 10, 11, 12, 13, 14, 15, 16, 17, 18, 28, 30, 34, 46, 68, 89, 94], lb := [], mu := [], trunc := [], draws := [] }
def t162 : TFunc := ⟨5, 21, [.loc 5, .loc 6],
 (.seq (.region [⟨.mov (.cst (.sl .nil [])), (some 5), none⟩, ⟨.mov (.cst (.str [])), (some 6), none⟩])
 (.seq (.seq (.region [⟨.mov (.loc 2), none, none⟩, ⟨.bin .lss (.reg 0) (.cst (.int .i64 2)), none, none⟩, ⟨.mov (.reg 1), none, none⟩, ⟨.mov (.loc 2), none, (some (2, false))⟩, ⟨.bin .eql (.reg 3) (.cst (.int .i64 10)), none, (some (2, false))⟩, ⟨.pick (.reg 2) (.cst (.bool true)) (.reg 4), none, none⟩, ⟨.mov (.reg 5), none, none⟩, ⟨.mov (.loc 2), none, (some (6, false))⟩, ⟨.bin .gtr (.reg 7) (.cst (.int .i64 36)), none, (some (6, false))⟩, ⟨.pick (.reg 6) (.cst (.bool true)) (.reg 8), (some 14), none⟩])
 (.cond (.loc 14)
  (.region [⟨.bad, none, none⟩, ⟨.bad, none, none⟩])
  .skip))
 (.seq (.region [⟨.allocH 200 [(.int .u8 0), (.int .u8 0), (.int .u8 0), (.int .u8 0), (.int .u8 0), (.int .u8 0), (.int .u8 0), (.int .u8 0), (.int .u8 0), (.int .u8 0), (.int .u8 0), (.int .u8 0), (.int .u8 0), (.int .u8 0), (.int .u8 0), (.int .u8 0), (.int .u8 0), (.int .u8 0), (.int .u8 0), (.int .u8 0), (.int .u8 0), (.int .u8 0), (.int .u8 0), (.int .u8 0), (.int .u8 0), (.int .u8 0), (.int .u8 0), (.int .u8 0), (.int .u8 0), (.int .u8 0), (.int .u8 0), (.int .u8 0), (.int .u8 0), (.int .u8 0), (.int .u8 0), (.int .u8 0), (.int .u8 0), (.int .u8 0), (.int .u8 0), (.int .u8 0), (.int .u8 0), (.int .u8 0), (.int .u8 0), (.int .u8 0), (.int .u8 0), (.int .u8 0), (.int .u8 0), (.int .u8 0), (.int .u8 0), (.int .u8 0), (.int .u8 0), (.int .u8 0), (.int .u8 0), (.int .u8 0), (.int .u8 0), (.int .u8 0), (.int .u8 0), (.int .u8 0), (.int .u8 0), (.int .u8 0), (.int .u8 0), (.int .u8 0), (.int .u8 0), (.int .u8 0), (.int .u8 0)], (some 7), none⟩])
 (.seq (.region [⟨.mov (.cst (.int .i64 65)), (some 8), none⟩])
 (.seq (.seq (.region [⟨.mov (.loc 3), (some 15), none⟩])
 (.cond (.loc 15)
  (.region [⟨.mov (.loc 1), none, none⟩, ⟨.un .neg (.reg 0), none, none⟩, ⟨.mov (.reg 1), (some 1), none⟩])
  .skip))
 (.seq (.seq (.region [⟨.mov (.loc 2), none, none⟩, ⟨.call true false 187 [(.reg 0)], (some 16), none⟩])
 (.cond (.loc 16)
  (.seq (.region [⟨.mov (.loc 2), none, none⟩, ⟨.conv (.toInt .u64) (.reg 0), none, none⟩, ⟨.call true false 188 [(.reg 1)], none, none⟩, ⟨.conv (.toInt .u64) (.reg 2), none, none⟩, ⟨.mov (.reg 3), (some 9), none⟩])
  (.seq (.region [⟨.mov (.loc 2), none, none⟩, ⟨.conv (.toInt .u64) (.reg 0), none, none⟩, ⟨.mov (.reg 1), (some 10), none⟩])
  (.seq (.region [⟨.mov (.loc 2), none, none⟩, ⟨.conv (.toInt .u64) (.reg 0), none, none⟩, ⟨.bin .sub (.reg 1) (.cst (.int .u64 1)), none, none⟩, ⟨.mov (.reg 2), (some 11), none⟩])
  (.seq (.block 0
   (.loop
    (.seq (.seq (.region [⟨.mov (.loc 1), none, none⟩, ⟨.mov (.loc 10), none, none⟩, ⟨.bin .geq (.reg 0) (.reg 1), (some 17), none⟩])
    (.cond (.loc 17)
     .skip
     (.exit 0)))
    (.block 1
     (.seq (.region [⟨.mov (.loc 8), none, none⟩, ⟨.bin .sub (.reg 0) (.cst (.int .i64 1)), none, none⟩, ⟨.mov (.reg 1), (some 8), none⟩])
     (.seq (.region [⟨.mov (.loc 8), none, none⟩, ⟨.mov (.loc 1), none, none⟩, ⟨.mov (.loc 11), none, none⟩, ⟨.bin .and (.reg 1) (.reg 2), none, none⟩, ⟨.indexS (.cst (.str [48, 49, 50, 51, 52, 53, 54, 55, 56, 57, 97, 98, 99, 100, 101, 102, 103, 104, 105, 106, 107, 108, 109, 110, 111, 112, 113, 114, 115, 116, 117, 118, 119, 120, 121, 122])) (.reg 3), none, none⟩, ⟨.indexAddrA 65 1 (.loc 7) (.reg 0), none, none⟩, ⟨.store 1 (.reg 5) (.reg 4), none, none⟩])
     (.region [⟨.mov (.loc 1), none, none⟩, ⟨.mov (.loc 9), none, none⟩, ⟨.bin .shr (.reg 0) (.reg 1), none, none⟩, ⟨.mov (.reg 2), (some 1), none⟩])))))))
  (.seq (.region [⟨.mov (.loc 8), none, none⟩, ⟨.bin .sub (.reg 0) (.cst (.int .i64 1)), none, none⟩, ⟨.mov (.reg 1), (some 8), none⟩])
  (.region [⟨.mov (.loc 8), none, none⟩, ⟨.mov (.loc 1), none, none⟩, ⟨.indexS (.cst (.str [48, 49, 50, 51, 52, 53, 54, 55, 56, 57, 97, 98, 99, 100, 101, 102, 103, 104, 105, 106, 107, 108, 109, 110, 111, 112, 113, 114, 115, 116, 117, 118, 119, 120, 121, 122])) (.reg 1), none, none⟩, ⟨.indexAddrA 65 1 (.loc 7) (.reg 0), none, none⟩, ⟨.store 1 (.reg 3) (.reg 2), none, none⟩]))))))
  (.seq (.region [⟨.mov (.loc 2), none, none⟩, ⟨.conv (.toInt .u64) (.reg 0), none, none⟩, ⟨.mov (.reg 1), (some 12), none⟩])
  (.seq (.block 2
   (.loop
    (.seq (.seq (.region [⟨.mov (.loc 1), none, none⟩, ⟨.mov (.loc 12), none, none⟩, ⟨.bin .geq (.reg 0) (.reg 1), (some 18), none⟩])
    (.cond (.loc 18)
     .skip
     (.exit 2)))
    (.block 3
     (.seq (.region [⟨.mov (.loc 8), none, none⟩, ⟨.bin .sub (.reg 0) (.cst (.int .i64 1)), none, none⟩, ⟨.mov (.reg 1), (some 8), none⟩])
     (.seq (.region [⟨.mov (.loc 1), none, none⟩, ⟨.mov (.loc 12), none, none⟩, ⟨.bin .quo (.reg 0) (.reg 1), none, none⟩, ⟨.mov (.reg 2), (some 13), none⟩])
     (.seq (.region [⟨.mov (.loc 8), none, none⟩, ⟨.mov (.loc 1), none, none⟩, ⟨.mov (.loc 13), none, none⟩, ⟨.mov (.loc 12), none, none⟩, ⟨.bin .mul (.reg 2) (.reg 3), none, none⟩, ⟨.bin .sub (.reg 1) (.reg 4), none, none⟩, ⟨.indexS (.cst (.str [48, 49, 50, 51, 52, 53, 54, 55, 56, 57, 97, 98, 99, 100, 101, 102, 103, 104, 105, 106, 107, 108, 109, 110, 111, 112, 113, 114, 115, 116, 117, 118, 119, 120, 121, 122])) (.reg 5), none, none⟩, ⟨.indexAddrA 65 1 (.loc 7) (.reg 0), none, none⟩, ⟨.store 1 (.reg 7) (.reg 6), none, none⟩])
     (.region [⟨.mov (.loc 13), none, none⟩, ⟨.mov (.reg 0), (some 1), none⟩]))))))))
  (.seq (.region [⟨.mov (.loc 8), none, none⟩, ⟨.bin .sub (.reg 0) (.cst (.int .i64 1)), none, none⟩, ⟨.mov (.reg 1), (some 8), none⟩])
  (.region [⟨.mov (.loc 8), none, none⟩, ⟨.mov (.loc 1), none, none⟩, ⟨.indexS (.cst (.str [48, 49, 50, 51, 52, 53, 54, 55, 56, 57, 97, 98, 99, 100, 101, 102, 103, 104, 105, 106, 107, 108, 109, 110, 111, 112, 113, 114, 115, 116, 117, 118, 119, 120, 121, 122])) (.reg 1), none, none⟩, ⟨.indexAddrA 65 1 (.loc 7) (.reg 0), none, none⟩, ⟨.store 1 (.reg 3) (.reg 2), none, none⟩]))))))
 (.seq (.seq (.region [⟨.mov (.loc 3), (some 19), none⟩])
 (.cond (.loc 19)
  (.seq (.region [⟨.mov (.loc 8), none, none⟩, ⟨.bin .sub (.reg 0) (.cst (.int .i64 1)), none, none⟩, ⟨.mov (.reg 1), (some 8), none⟩])
  (.region [⟨.mov (.loc 8), none, none⟩, ⟨.indexAddrA 65 1 (.loc 7) (.reg 0), none, none⟩, ⟨.store 1 (.reg 1) (.cst (.int .u8 45)), none, none⟩]))
  .skip))
 (.seq (.seq (.region [⟨.mov (.loc 4), (some 20), none⟩])
 (.cond (.loc 20)
  (.seq (.region [⟨.mov (.loc 0), none, none⟩, ⟨.mov (.loc 8), none, none⟩, ⟨.slice (.arr 65 1) (.loc 7) (some (.reg 1)) none none, none, none⟩, ⟨.append false 1 1 5 (.reg 0) (.reg 2), none, none⟩, ⟨.mov (.reg 3), (some 5), none⟩])
  .ret)
  .skip))
 (.seq (.region [⟨.mov (.loc 8), none, none⟩, ⟨.slice (.arr 65 1) (.loc 7) (some (.reg 0)) none none, none, none⟩, ⟨.conv .bytesStr (.reg 1), none, none⟩, ⟨.mov (.reg 2), (some 6), none⟩])
 .ret)))))))))⟩
theorem c162 : compFunc Tryz.prog opts a162 Tryz.f162 = some t162 := by kernel_rfl
end Go.Proofs.YtdomjhilmamnpaaGreatDoor
