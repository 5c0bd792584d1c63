/- The functions of this seat, compiled for the evaluator TM; each held against the translation by the kernel. By program. Condition: none. -/
import Derived.Test.YtageemgcnoblnaaDoorRows
import Derived.Test.YtageemgcnoblnaaDoorTmD
set_option maxRecDepth 100000
set_option linter.unusedVariables false
namespace Go.Proofs.YtageemgcnoblnaaDoor
open Go Go.TM
def opts : Opts := ⟨fun f => ([3, 4, 6, 7, 9, 10, 11, 12, 13, 16, 17, 18, 19, 20, 21, 22, 23, 24, 26, 27, 28, 29, 30, 31, 33, 34, 35, 36, 37, 38, 39, 40, 41, 42, 43, 44, 45, 46, 48, 49, 50, 51, 52, 53, 54, 55, 56, 57, 58, 59, 60, 61, 64, 65, 66, 68, 69, 70, 71, 72, 73, 74, 75, 76, 77, 78, 82, 84, 88, 90, 93, 94, 95, 96, 98, 101, 106, 107, 108, 112, 115, 116, 117, 118, 119, 120, 122, 123, 129, 131, 133, 134, 135, 137, 146, 147, 148, 149, 150, 151, 152] : List Nat).contains f, fun f => ([] : List Nat).contains f⟩
/-- pennant/pennantlaw16.CpsKnown -/
def a5 : Ann := { slots := [0, 1, 2, 3, 4, 5, 6, 7, 8, 9, 10, 11, 12, 13, 14, 15, 16, 17, 74, 88, 153, 204, 243], lb := [17, 16, 15, 14, 13, 11, 9, 8, 6, 5, 4, 2, 1], mu := [], trunc := [], draws := [(17, ⟨[0, 1, 3, 7, 15, 31, 63, 127, 255, 511, 1023, 2047, 4095, 8191, 16383, 32767, 65535, 131071, 262143, 524287, 1048575, 2097151, 4194303, 8388607, 16777215, 33554431, 67108863, 134217727, 268435455, 536870911, 1073741823, 2147483647, 4294967295, 8589934591, 17179869183, 34359738367, 68719476735, 137438953471, 274877906943, 17179869183, 566935683071, 1666447310847, 4398046511103, 8796093022207], [0, 1, 2, 3, 4, 5, 6, 7, 8, 9, 10, 11, 12, 13, 14, 15, 16, 17, 18, 19, 20, 21, 22, 23, 24, 25, 26, 27, 28, 29, 30, 31, 32, 33, 34, 35, 36, 37, 38, 39, 40, 41, 42, 43], []⟩), (24, ⟨[0, 1, 3, 7, 15, 31, 63, 127, 255, 511, 1023, 2047, 4095, 8191, 16383, 32767, 65535, 131071, 262143, 524287, 1048575, 2097151, 4194303, 8388607, 16777215, 33554431, 67108863, 134217727, 8388607, 276824063, 813694975, 1887436799, 4034920447, 8589934591, 17179869183, 34359738367, 68719476735, 137438953471, 274877906943, 549755813887, 1099511627775, 68719476735, 2267742732287, 8796093022207, 17592186044415, 35184372088831, 70368744177663, 140737488355327, 281474976710655, 562949953421311, 1125899906842623, 2251799813685247, 4503599627370495, 9007199254740991, 18014398509481983, 36028797018963967, 72057594037927935, 144115188075855871, 288230376151711743, 576460752303423487, 1152921504606846975, 2305843009213693951, 4611686018427387903, 9223372036854775807, 18446744073709551615, 36893488147419103231, 73786976294838206463, 147573952589676412927, 4611686018427387903, 299759591197780213759, 890055401556485865471, 2070647022273897168895, 4722366482869645213695, 9444732965739290427391, 18889465931478580854783, 37778931862957161709567, 75557863725914323419135, 151115727451828646838271, 302231454903657293676543, 604462909807314587353087, 1208925819614629174706175, 2417851639229258349412351, 4835703278458516698824703, 9671406556917033397649407, 37778931862957161709567, 19380592045697023957008383, 77371252455336267181195263, 154742504910672534362390527, 309485009821345068724781055, 618970019642690137449562111, 1237940039285380274899124223, 2475880078570760549798248447], [0, 1, 2, 3, 4, 5, 6, 7, 8, 9, 10, 11, 12, 13, 14, 15, 16, 17, 18, 19, 20, 21, 22, 23, 24, 25, 26, 27, 28, 29, 30, 31, 32, 33, 34, 35, 36, 37, 38, 39, 40, 41, 42, 43, 44, 45, 46, 47, 48, 49, 50, 51, 52, 53, 54, 55, 56, 57, 58, 59, 60, 61, 62, 63, 64, 65, 66, 67, 68, 69, 70, 71, 72, 73, 74, 75, 76, 77, 78, 79, 80, 81, 82, 83, 84, 85, 86, 87, 88], [(89, [], [90, 91])]⟩)] }
def t5 : TFunc := ⟨0, 23, [.loc 0],
 (.seq (.region [⟨.mov (.cst (.bool false)), (some 0), none⟩])
 (.seq (.region [⟨.build [(.int .i64 0), (.int .i64 0), (.sl .nil []), (.bool false), (.sl .nil [])] [(0, 1, (.cst (.int .i64 1)))], none, none⟩, ⟨.build [(.int .i64 0), (.int .i64 0), (.str []), (.sl .nil []), (.int .i64 0)] [], none, none⟩, ⟨.lit false [(.int .i64 0), (.int .i64 0), (.str []), (.sl .nil []), (.int .i64 0)] 1 [(0, (.reg 1))], none, none⟩, ⟨.build [(.int .i64 0), (.int .i64 0), (.sl .nil []), (.bool false), (.sl .nil []), (.int .i64 0), (.int .i64 0), (.sl .nil [])] [(0, 5, (.reg 0)), (7, 1, (.reg 2))], none, none⟩, ⟨.allocL 1 [(.int .i64 0), (.int .i64 0), (.sl .nil []), (.bool false), (.sl .nil []), (.int .i64 0), (.int .i64 0), (.sl .nil [])], none, none⟩, ⟨.store 8 (.reg 4) (.reg 3), none, none⟩])
 (.seq (.region [⟨.loadN 8 (.loc 1), none, none⟩, ⟨.call false false 9 [(.reg 0)], none, none⟩, ⟨.mov (.reg 1), none, none⟩, ⟨.extract 0 (.reg 2), none, none⟩, ⟨.extract 1 (.reg 2), none, none⟩, ⟨.allocL 2 [(.sl .nil []), (.int .i64 0), (.int .i64 0), (.int .i64 0), (.sl .nil [])], none, none⟩, ⟨.store 5 (.reg 5) (.reg 3), none, none⟩, ⟨.mov (.reg 4), (some 3), none⟩])
 (.seq (.region [⟨.build [(.int .i64 0), (.int .i64 0), (.sl .nil []), (.bool false), (.sl .nil [])] [(0, 1, (.cst (.int .i64 3)))], none, none⟩, ⟨.allocL 4 [(.int .i64 0), (.int .i64 0), (.sl .nil []), (.bool false), (.sl .nil [])], none, none⟩, ⟨.store 5 (.reg 1) (.reg 0), none, none⟩])
 (.seq (.region [⟨.loadN 5 (.loc 4), none, none⟩, ⟨.lit false [(.int .i64 0), (.int .i64 0), (.sl .nil []), (.bool false), (.sl .nil [])] 1 [(0, (.reg 0))], none, none⟩, ⟨.build [(.int .i64 0), (.int .i64 0), (.sl .nil []), (.bool false), (.sl .nil [])] [(0, 1, (.cst (.int .i64 8))), (4, 1, (.reg 1))], none, none⟩, ⟨.lit false [(.int .i64 0), (.int .i64 0), (.sl .nil []), (.bool false), (.sl .nil [])] 1 [(0, (.reg 2))], none, none⟩, ⟨.build [(.int .i64 0), (.int .i64 0), (.sl .nil []), (.bool false), (.sl .nil [])] [(0, 1, (.cst (.int .i64 9))), (1, 1, (.cst (.int .i64 3))), (4, 1, (.reg 3))], none, none⟩, ⟨.build [(.int .i64 0), (.int .i64 0), (.sl .nil []), (.bool false), (.sl .nil []), (.int .i64 0), (.int .i64 0), (.sl .nil [])] [(0, 5, (.reg 4)), (5, 1, (.cst (.int .i64 1)))], none, none⟩, ⟨.allocL 5 [(.int .i64 0), (.int .i64 0), (.sl .nil []), (.bool false), (.sl .nil []), (.int .i64 0), (.int .i64 0), (.sl .nil [])], none, none⟩, ⟨.store 8 (.reg 6) (.reg 5), none, none⟩])
 (.seq (.region [⟨.loadN 8 (.loc 5), none, none⟩, ⟨.call false false 9 [(.reg 0)], none, none⟩, ⟨.mov (.reg 1), none, none⟩, ⟨.extract 0 (.reg 2), none, none⟩, ⟨.extract 1 (.reg 2), none, none⟩, ⟨.allocL 6 [(.sl .nil []), (.int .i64 0), (.int .i64 0), (.int .i64 0), (.sl .nil [])], none, none⟩, ⟨.store 5 (.reg 5) (.reg 3), none, none⟩, ⟨.mov (.reg 4), (some 7), none⟩])
 (.seq (.region [⟨.lit false [(.int .i64 0)] 1 [(0, (.cst (.int .i64 0)))], none, none⟩, ⟨.build [(.int .i64 0), (.int .i64 0), (.sl .nil []), (.bool false), (.sl .nil [])] [(0, 1, (.cst (.int .i64 1)))], none, none⟩, ⟨.lit false [(.int .i64 0), (.int .i64 0), (.sl .nil []), (.bool false), (.sl .nil [])] 1 [(0, (.reg 1))], none, none⟩, ⟨.build [(.int .i64 0), (.int .i64 0), (.sl .nil []), (.bool false), (.sl .nil [])] [(0, 1, (.cst (.int .i64 4))), (4, 1, (.reg 2))], none, none⟩, ⟨.lit false [(.int .i64 0), (.int .i64 0), (.sl .nil []), (.bool false), (.sl .nil [])] 1 [(0, (.reg 3))], none, none⟩, ⟨.build [(.int .i64 0), (.int .i64 0), (.sl .nil []), (.bool false), (.sl .nil [])] [(0, 1, (.cst (.int .i64 7))), (2, 1, (.reg 0)), (4, 1, (.reg 4))], none, none⟩, ⟨.build [(.int .i64 0), (.int .i64 0), (.sl .nil []), (.bool false), (.sl .nil [])] [(0, 1, (.cst (.int .i64 1))), (1, 1, (.cst (.int .i64 1)))], none, none⟩, ⟨.lit false [(.int .i64 0), (.int .i64 0), (.sl .nil []), (.bool false), (.sl .nil [])] 2 [(0, (.reg 5)), (1, (.reg 6))], none, none⟩, ⟨.build [(.int .i64 0), (.int .i64 0), (.sl .nil []), (.bool false), (.sl .nil [])] [(0, 1, (.cst (.int .i64 8))), (4, 1, (.reg 7))], none, none⟩, ⟨.mkSlice [(.int .i64 0), (.int .i64 0), (.str []), (.sl .nil []), (.int .i64 0)] 64 (.cst (.int .i64 2)) (.cst (.int .i64 2)), none, none⟩, ⟨.build [(.int .i64 0), (.int .i64 0), (.sl .nil []), (.bool false), (.sl .nil []), (.int .i64 0), (.int .i64 0), (.sl .nil [])] [(0, 5, (.reg 8)), (6, 1, (.cst (.int .i64 1))), (7, 1, (.reg 9))], none, none⟩, ⟨.allocL 8 [(.int .i64 0), (.int .i64 0), (.sl .nil []), (.bool false), (.sl .nil []), (.int .i64 0), (.int .i64 0), (.sl .nil [])], none, none⟩, ⟨.store 8 (.reg 11) (.reg 10), none, none⟩])
 (.seq (.region [⟨.loadN 8 (.loc 8), none, none⟩, ⟨.call false false 9 [(.reg 0)], none, none⟩, ⟨.mov (.reg 1), none, none⟩, ⟨.extract 0 (.reg 2), none, none⟩, ⟨.extract 1 (.reg 2), none, none⟩, ⟨.allocL 9 [(.sl .nil []), (.int .i64 0), (.int .i64 0), (.int .i64 0), (.sl .nil [])], none, none⟩, ⟨.store 5 (.reg 5) (.reg 3), none, none⟩, ⟨.mov (.reg 4), (some 10), none⟩])
 (.seq (.region [⟨.build [(.int .i64 0), (.int .i64 0), (.sl .nil []), (.bool false), (.sl .nil [])] [(0, 1, (.cst (.int .i64 2)))], none, none⟩, ⟨.build [(.int .i64 0), (.int .i64 0), (.sl .nil []), (.bool false), (.sl .nil []), (.int .i64 0), (.int .i64 0), (.sl .nil [])] [(0, 5, (.reg 0)), (6, 1, (.cst (.int .i64 1)))], none, none⟩, ⟨.call false false 9 [(.reg 1)], none, none⟩, ⟨.mov (.reg 2), none, none⟩, ⟨.extract 0 (.reg 3), none, none⟩, ⟨.extract 1 (.reg 3), none, none⟩, ⟨.allocL 11 [(.sl .nil []), (.int .i64 0), (.int .i64 0), (.int .i64 0), (.sl .nil [])], none, none⟩, ⟨.store 5 (.reg 6) (.reg 4), none, none⟩, ⟨.mov (.reg 5), (some 12), none⟩])
 (.seq (.seq (.region [⟨.mov (.loc 3), none, none⟩, ⟨.bin .neq (.reg 0) (.cst (.int .i64 0)), none, none⟩, ⟨.mov (.reg 1), none, none⟩, ⟨.mov (.loc 7), none, (some (2, false))⟩, ⟨.bin .neq (.reg 3) (.cst (.int .i64 0)), none, (some (2, false))⟩, ⟨.pick (.reg 2) (.cst (.bool true)) (.reg 4), none, none⟩, ⟨.mov (.reg 5), none, none⟩, ⟨.mov (.loc 10), none, (some (6, false))⟩, ⟨.bin .neq (.reg 7) (.cst (.int .i64 2)), none, (some (6, false))⟩, ⟨.pick (.reg 6) (.cst (.bool true)) (.reg 8), none, none⟩, ⟨.mov (.reg 9), none, none⟩, ⟨.mov (.loc 12), none, (some (10, false))⟩, ⟨.bin .neq (.reg 11) (.cst (.int .i64 6)), none, (some (10, false))⟩, ⟨.pick (.reg 10) (.cst (.bool true)) (.reg 12), (some 18), none⟩])
 (.cond (.loc 18)
  (.seq (.region [⟨.mov (.cst (.bool false)), (some 0), none⟩])
  .ret)
  .skip))
 (.seq (.seq (.region [⟨.fieldAddr 0 (.loc 2), none, none⟩, ⟨.load1 (.reg 0), none, none⟩, ⟨.len .sl (.reg 1), none, none⟩, ⟨.bin .neq (.reg 2) (.cst (.int .i64 2)), none, none⟩, ⟨.mov (.reg 3), none, none⟩, ⟨.fieldAddr 0 (.loc 6), none, (some (4, false))⟩, ⟨.load1 (.reg 5), none, (some (4, false))⟩, ⟨.len .sl (.reg 6), none, (some (4, false))⟩, ⟨.bin .neq (.reg 7) (.cst (.int .i64 3)), none, (some (4, false))⟩, ⟨.pick (.reg 4) (.cst (.bool true)) (.reg 8), none, none⟩, ⟨.mov (.reg 9), none, none⟩, ⟨.call true false 8 [], none, (some (10, false))⟩, ⟨.un .not (.reg 11), none, (some (10, false))⟩, ⟨.pick (.reg 10) (.cst (.bool true)) (.reg 12), (some 19), none⟩])
 (.cond (.loc 19)
  (.seq (.region [⟨.mov (.cst (.bool false)), (some 0), none⟩])
  .ret)
  .skip))
 (.seq (.region [⟨.fieldAddr 0 (.loc 2), none, none⟩, ⟨.load1 (.reg 0), none, none⟩, ⟨.fieldAddr 1 (.loc 2), none, none⟩, ⟨.load1 (.reg 2), none, none⟩, ⟨.indexAddrS 11 (.reg 1) (.reg 3), none, none⟩, ⟨.fieldAddr 4 (.reg 4), none, none⟩, ⟨.loadN 7 (.reg 5), none, none⟩, ⟨.allocL 13 [(.int .i64 0), (.int .i64 0), (.int .i64 0), (.int .i64 0), (.int .i64 0), (.sl .nil []), (.sl .nil [])], none, none⟩, ⟨.store 7 (.reg 7) (.reg 6), none, none⟩])
 (.seq (.seq (.region [⟨.fieldAddr 0 (.loc 13), none, none⟩, ⟨.load1 (.reg 0), none, none⟩, ⟨.bin .neq (.reg 1) (.cst (.int .i64 2)), none, none⟩, ⟨.mov (.reg 2), none, none⟩, ⟨.fieldAddr 6 (.loc 13), none, (some (3, false))⟩, ⟨.load1 (.reg 4), none, (some (3, false))⟩, ⟨.len .sl (.reg 5), none, (some (3, false))⟩, ⟨.bin .neq (.reg 6) (.cst (.int .i64 1)), none, (some (3, false))⟩, ⟨.pick (.reg 3) (.cst (.bool true)) (.reg 7), none, none⟩, ⟨.mov (.reg 8), none, none⟩, ⟨.fieldAddr 6 (.loc 13), none, (some (9, false))⟩, ⟨.load1 (.reg 10), none, (some (9, false))⟩, ⟨.indexAddrS 7 (.reg 11) (.cst (.int .i64 0)), none, (some (9, false))⟩, ⟨.fieldAddr 5 (.reg 12), none, (some (9, false))⟩, ⟨.load1 (.reg 13), none, (some (9, false))⟩, ⟨.len .sl (.reg 14), none, (some (9, false))⟩, ⟨.bin .neq (.reg 15) (.cst (.int .i64 2)), none, (some (9, false))⟩, ⟨.pick (.reg 9) (.cst (.bool true)) (.reg 16), none, none⟩, ⟨.mov (.reg 17), none, none⟩, ⟨.fieldAddr 6 (.loc 13), none, (some (18, false))⟩, ⟨.load1 (.reg 19), none, (some (18, false))⟩, ⟨.indexAddrS 7 (.reg 20) (.cst (.int .i64 0)), none, (some (18, false))⟩, ⟨.fieldAddr 0 (.reg 21), none, (some (18, false))⟩, ⟨.load1 (.reg 22), none, (some (18, false))⟩, ⟨.bin .neq (.reg 23) (.cst (.int .i64 4)), none, (some (18, false))⟩, ⟨.pick (.reg 18) (.cst (.bool true)) (.reg 24), none, none⟩, ⟨.mov (.reg 25), none, none⟩, ⟨.fieldAddr 6 (.loc 13), none, (some (26, false))⟩, ⟨.load1 (.reg 27), none, (some (26, false))⟩, ⟨.indexAddrS 7 (.reg 28) (.cst (.int .i64 0)), none, (some (26, false))⟩, ⟨.fieldAddr 5 (.reg 29), none, (some (26, false))⟩, ⟨.load1 (.reg 30), none, (some (26, false))⟩, ⟨.indexAddrS 2 (.reg 31) (.cst (.int .i64 1)), none, (some (26, false))⟩, ⟨.loadN 2 (.reg 32), none, (some (26, false))⟩, ⟨.build [(.int .i64 0), (.int .i64 0)] [(0, 1, (.cst (.int .i64 2)))], none, (some (26, false))⟩, ⟨.eqAgg true [(0, .int), (1, .int)] (.reg 33) (.reg 34), none, (some (26, false))⟩, ⟨.pick (.reg 26) (.cst (.bool true)) (.reg 35), none, none⟩, ⟨.mov (.reg 36), none, none⟩, ⟨.fieldAddr 0 (.loc 2), none, (some (37, false))⟩, ⟨.load1 (.reg 38), none, (some (37, false))⟩, ⟨.fieldAddr 4 (.loc 13), none, (some (37, false))⟩, ⟨.load1 (.reg 40), none, (some (37, false))⟩, ⟨.indexAddrS 11 (.reg 39) (.reg 41), none, (some (37, false))⟩, ⟨.fieldAddr 4 (.reg 42), none, (some (37, false))⟩, ⟨.fieldAddr 0 (.reg 43), none, (some (37, false))⟩, ⟨.load1 (.reg 44), none, (some (37, false))⟩, ⟨.bin .neq (.reg 45) (.cst (.int .i64 7)), none, (some (37, false))⟩, ⟨.pick (.reg 37) (.cst (.bool true)) (.reg 46), none, none⟩, ⟨.mov (.reg 47), none, none⟩, ⟨.fieldAddr 0 (.loc 2), none, (some (48, false))⟩, ⟨.load1 (.reg 49), none, (some (48, false))⟩, ⟨.fieldAddr 4 (.loc 13), none, (some (48, false))⟩, ⟨.load1 (.reg 51), none, (some (48, false))⟩, ⟨.indexAddrS 11 (.reg 50) (.reg 52), none, (some (48, false))⟩, ⟨.fieldAddr 2 (.reg 53), none, (some (48, false))⟩, ⟨.load1 (.reg 54), none, (some (48, false))⟩, ⟨.un .not (.reg 55), none, (some (48, false))⟩, ⟨.pick (.reg 48) (.cst (.bool true)) (.reg 56), (some 20), none⟩])
 (.cond (.loc 20)
  (.seq (.region [⟨.mov (.cst (.bool false)), (some 0), none⟩])
  .ret)
  .skip))
 (.seq (.region [⟨.fieldAddr 0 (.loc 6), none, none⟩, ⟨.load1 (.reg 0), none, none⟩, ⟨.fieldAddr 1 (.loc 6), none, none⟩, ⟨.load1 (.reg 2), none, none⟩, ⟨.indexAddrS 11 (.reg 1) (.reg 3), none, none⟩, ⟨.fieldAddr 4 (.reg 4), none, none⟩, ⟨.loadN 7 (.reg 5), none, none⟩, ⟨.allocL 14 [(.int .i64 0), (.int .i64 0), (.int .i64 0), (.int .i64 0), (.int .i64 0), (.sl .nil []), (.sl .nil [])], none, none⟩, ⟨.store 7 (.reg 7) (.reg 6), none, none⟩])
 (.seq (.seq (.draw [0, 1, 2, 3, 4, 5, 6, 7, 8, 9, 10, 11, 12, 13, 14, 15, 16, 17, 18, 19, 20, 21, 22, 23, 24, 25, 26, 27, 28, 29, 30, 31, 32, 33, 34, 35, 36, 37, 38, 39, 40, 41, 42, 43] [] [⟨.fieldAddr 6 (.loc 14), none, none⟩, ⟨.load1 (.reg 0), none, none⟩, ⟨.len .sl (.reg 1), none, none⟩, ⟨.bin .neq (.reg 2) (.cst (.int .i64 1)), none, none⟩, ⟨.mov (.reg 3), none, none⟩, ⟨.fieldAddr 6 (.loc 14), none, (some (4, false))⟩, ⟨.load1 (.reg 5), none, (some (4, false))⟩, ⟨.indexAddrS 7 (.reg 6) (.cst (.int .i64 0)), none, (some (4, false))⟩, ⟨.fieldAddr 6 (.reg 7), none, (some (4, false))⟩, ⟨.load1 (.reg 8), none, (some (4, false))⟩, ⟨.len .sl (.reg 9), none, (some (4, false))⟩, ⟨.bin .neq (.reg 10) (.cst (.int .i64 1)), none, (some (4, false))⟩, ⟨.pick (.reg 4) (.cst (.bool true)) (.reg 11), none, none⟩, ⟨.mov (.reg 12), none, none⟩, ⟨.fieldAddr 6 (.loc 14), none, (some (13, false))⟩, ⟨.load1 (.reg 14), none, (some (13, false))⟩, ⟨.indexAddrS 7 (.reg 15) (.cst (.int .i64 0)), none, (some (13, false))⟩, ⟨.fieldAddr 6 (.reg 16), none, (some (13, false))⟩, ⟨.load1 (.reg 17), none, (some (13, false))⟩, ⟨.indexAddrS 7 (.reg 18) (.cst (.int .i64 0)), none, (some (13, false))⟩, ⟨.fieldAddr 6 (.reg 19), none, (some (13, false))⟩, ⟨.load1 (.reg 20), none, (some (13, false))⟩, ⟨.len .sl (.reg 21), none, (some (13, false))⟩, ⟨.bin .neq (.reg 22) (.cst (.int .i64 1)), none, (some (13, false))⟩, ⟨.pick (.reg 13) (.cst (.bool true)) (.reg 23), none, none⟩, ⟨.mov (.reg 24), none, none⟩, ⟨.fieldAddr 6 (.loc 14), none, (some (25, false))⟩, ⟨.load1 (.reg 26), none, (some (25, false))⟩, ⟨.indexAddrS 7 (.reg 27) (.cst (.int .i64 0)), none, (some (25, false))⟩, ⟨.fieldAddr 4 (.reg 28), none, (some (25, false))⟩, ⟨.load1 (.reg 29), none, (some (25, false))⟩, ⟨.bin .lss (.reg 30) (.cst (.int .i64 0)), none, (some (25, false))⟩, ⟨.pick (.reg 25) (.cst (.bool true)) (.reg 31), none, none⟩, ⟨.mov (.reg 32), none, none⟩, ⟨.fieldAddr 6 (.loc 14), none, (some (33, false))⟩, ⟨.load1 (.reg 34), none, (some (33, false))⟩, ⟨.indexAddrS 7 (.reg 35) (.cst (.int .i64 0)), none, (some (33, false))⟩, ⟨.fieldAddr 4 (.reg 36), none, (some (33, false))⟩, ⟨.load1 (.reg 37), none, (some (33, false))⟩, ⟨.fieldAddr 0 (.loc 6), none, (some (33, false))⟩, ⟨.load1 (.reg 39), none, (some (33, false))⟩, ⟨.len .sl (.reg 40), none, (some (33, false))⟩, ⟨.bin .geq (.reg 38) (.reg 41), none, (some (33, false))⟩, ⟨.pick (.reg 33) (.cst (.bool true)) (.reg 42), (some 21), none⟩])
 (.cond (.loc 21)
  (.seq (.region [⟨.mov (.cst (.bool false)), (some 0), none⟩])
  .ret)
  .skip))
 (.seq (.region [⟨.fieldAddr 6 (.loc 14), none, none⟩, ⟨.load1 (.reg 0), none, none⟩, ⟨.indexAddrS 7 (.reg 1) (.cst (.int .i64 0)), none, none⟩, ⟨.loadN 7 (.reg 2), none, none⟩, ⟨.allocL 15 [(.int .i64 0), (.int .i64 0), (.int .i64 0), (.int .i64 0), (.int .i64 0), (.sl .nil []), (.sl .nil [])], none, none⟩, ⟨.store 7 (.reg 4) (.reg 3), none, none⟩])
 (.seq (.region [⟨.fieldAddr 6 (.loc 15), none, none⟩, ⟨.load1 (.reg 0), none, none⟩, ⟨.indexAddrS 7 (.reg 1) (.cst (.int .i64 0)), none, none⟩, ⟨.fieldAddr 6 (.reg 2), none, none⟩, ⟨.load1 (.reg 3), none, none⟩, ⟨.indexAddrS 7 (.reg 4) (.cst (.int .i64 0)), none, none⟩, ⟨.loadN 7 (.reg 5), none, none⟩, ⟨.allocL 16 [(.int .i64 0), (.int .i64 0), (.int .i64 0), (.int .i64 0), (.int .i64 0), (.sl .nil []), (.sl .nil [])], none, none⟩, ⟨.store 7 (.reg 7) (.reg 6), none, none⟩])
 (.seq (.region [⟨.fieldAddr 0 (.loc 6), none, none⟩, ⟨.load1 (.reg 0), none, none⟩, ⟨.fieldAddr 4 (.loc 15), none, none⟩, ⟨.load1 (.reg 2), none, none⟩, ⟨.indexAddrS 11 (.reg 1) (.reg 3), none, none⟩, ⟨.loadN 11 (.reg 4), none, none⟩, ⟨.allocL 17 [(.sl .nil []), (.bool false), (.bool false), (.sl .nil []), (.int .i64 0), (.int .i64 0), (.int .i64 0), (.int .i64 0), (.int .i64 0), (.sl .nil []), (.sl .nil [])], none, none⟩, ⟨.store 11 (.reg 6) (.reg 5), none, none⟩])
 (.seq (.seq (.region [⟨.fieldAddr 4 (.loc 17), none, none⟩, ⟨.fieldAddr 5 (.reg 0), none, none⟩, ⟨.load1 (.reg 1), none, none⟩, ⟨.len .sl (.reg 2), none, none⟩, ⟨.bin .neq (.reg 3) (.cst (.int .i64 1)), none, none⟩, ⟨.mov (.reg 4), none, none⟩, ⟨.fieldAddr 4 (.loc 17), none, (some (5, false))⟩, ⟨.fieldAddr 6 (.reg 6), none, (some (5, false))⟩, ⟨.load1 (.reg 7), none, (some (5, false))⟩, ⟨.len .sl (.reg 8), none, (some (5, false))⟩, ⟨.bin .neq (.reg 9) (.cst (.int .i64 1)), none, (some (5, false))⟩, ⟨.pick (.reg 5) (.cst (.bool true)) (.reg 10), none, none⟩, ⟨.mov (.reg 11), none, none⟩, ⟨.fieldAddr 4 (.loc 17), none, (some (12, false))⟩, ⟨.fieldAddr 6 (.reg 13), none, (some (12, false))⟩, ⟨.load1 (.reg 14), none, (some (12, false))⟩, ⟨.indexAddrS 7 (.reg 15) (.cst (.int .i64 0)), none, (some (12, false))⟩, ⟨.fieldAddr 5 (.reg 16), none, (some (12, false))⟩, ⟨.load1 (.reg 17), none, (some (12, false))⟩, ⟨.len .sl (.reg 18), none, (some (12, false))⟩, ⟨.bin .lss (.reg 19) (.cst (.int .i64 1)), none, (some (12, false))⟩, ⟨.pick (.reg 12) (.cst (.bool true)) (.reg 20), (some 22), none⟩])
 (.cond (.loc 22)
  (.seq (.region [⟨.mov (.cst (.bool false)), (some 0), none⟩])
  .ret)
  .skip))
 (.seq (.draw [0, 1, 2, 3, 4, 5, 6, 7, 8, 9, 10, 11, 12, 13, 14, 15, 16, 17, 18, 19, 20, 21, 22, 23, 24, 25, 26, 27, 28, 29, 30, 31, 32, 33, 34, 35, 36, 37, 38, 39, 40, 41, 42, 43, 44, 45, 46, 47, 48, 49, 50, 51, 52, 53, 54, 55, 56, 57, 58, 59, 60, 61, 62, 63, 64, 65, 66, 67, 68, 69, 70, 71, 72, 73, 74, 75, 76, 77, 78, 79, 80, 81, 82, 83, 84, 85, 86, 87, 88] [(89, [], [90, 91])] [⟨.fieldAddr 0 (.loc 15), none, none⟩, ⟨.load1 (.reg 0), none, none⟩, ⟨.bin .eql (.reg 1) (.cst (.int .i64 2)), none, none⟩, ⟨.mov (.reg 2), none, none⟩, ⟨.fieldAddr 6 (.loc 15), none, (some (3, true))⟩, ⟨.load1 (.reg 4), none, (some (3, true))⟩, ⟨.indexAddrS 7 (.reg 5) (.cst (.int .i64 0)), none, (some (3, true))⟩, ⟨.fieldAddr 2 (.reg 6), none, (some (3, true))⟩, ⟨.load1 (.reg 7), none, (some (3, true))⟩, ⟨.bin .eql (.reg 8) (.cst (.int .i64 103)), none, (some (3, true))⟩, ⟨.pick (.reg 3) (.reg 9) (.cst (.bool false)), none, none⟩, ⟨.mov (.reg 10), none, none⟩, ⟨.fieldAddr 0 (.loc 16), none, (some (11, true))⟩, ⟨.load1 (.reg 12), none, (some (11, true))⟩, ⟨.bin .eql (.reg 13) (.cst (.int .i64 4)), none, (some (11, true))⟩, ⟨.pick (.reg 11) (.reg 14) (.cst (.bool false)), none, none⟩, ⟨.mov (.reg 15), none, none⟩, ⟨.fieldAddr 5 (.loc 16), none, (some (16, true))⟩, ⟨.load1 (.reg 17), none, (some (16, true))⟩, ⟨.len .sl (.reg 18), none, (some (16, true))⟩, ⟨.bin .eql (.reg 19) (.cst (.int .i64 2)), none, (some (16, true))⟩, ⟨.pick (.reg 16) (.reg 20) (.cst (.bool false)), none, none⟩, ⟨.mov (.reg 21), none, none⟩, ⟨.fieldAddr 5 (.loc 16), none, (some (22, true))⟩, ⟨.load1 (.reg 23), none, (some (22, true))⟩, ⟨.indexAddrS 2 (.reg 24) (.cst (.int .i64 0)), none, (some (22, true))⟩, ⟨.fieldAddr 1 (.reg 25), none, (some (22, true))⟩, ⟨.load1 (.reg 26), none, (some (22, true))⟩, ⟨.fieldAddr 6 (.loc 15), none, (some (22, true))⟩, ⟨.load1 (.reg 28), none, (some (22, true))⟩, ⟨.indexAddrS 7 (.reg 29) (.cst (.int .i64 0)), none, (some (22, true))⟩, ⟨.fieldAddr 1 (.reg 30), none, (some (22, true))⟩, ⟨.load1 (.reg 31), none, (some (22, true))⟩, ⟨.bin .eql (.reg 27) (.reg 32), none, (some (22, true))⟩, ⟨.pick (.reg 22) (.reg 33) (.cst (.bool false)), none, none⟩, ⟨.mov (.reg 34), none, none⟩, ⟨.fieldAddr 5 (.loc 16), none, (some (35, true))⟩, ⟨.load1 (.reg 36), none, (some (35, true))⟩, ⟨.indexAddrS 2 (.reg 37) (.cst (.int .i64 1)), none, (some (35, true))⟩, ⟨.fieldAddr 1 (.reg 38), none, (some (35, true))⟩, ⟨.load1 (.reg 39), none, (some (35, true))⟩, ⟨.fieldAddr 1 (.loc 15), none, (some (35, true))⟩, ⟨.load1 (.reg 41), none, (some (35, true))⟩, ⟨.bin .eql (.reg 40) (.reg 42), none, (some (35, true))⟩, ⟨.pick (.reg 35) (.reg 43) (.cst (.bool false)), none, none⟩, ⟨.mov (.reg 44), none, none⟩, ⟨.fieldAddr 2 (.loc 17), none, (some (45, true))⟩, ⟨.load1 (.reg 46), none, (some (45, true))⟩, ⟨.pick (.reg 45) (.reg 47) (.cst (.bool false)), none, none⟩, ⟨.mov (.reg 48), none, none⟩, ⟨.fieldAddr 0 (.loc 17), none, (some (49, true))⟩, ⟨.load1 (.reg 50), none, (some (49, true))⟩, ⟨.len .sl (.reg 51), none, (some (49, true))⟩, ⟨.bin .eql (.reg 52) (.cst (.int .i64 1)), none, (some (49, true))⟩, ⟨.pick (.reg 49) (.reg 53) (.cst (.bool false)), none, none⟩, ⟨.mov (.reg 54), none, none⟩, ⟨.fieldAddr 4 (.loc 17), none, (some (55, true))⟩, ⟨.fieldAddr 2 (.reg 56), none, (some (55, true))⟩, ⟨.load1 (.reg 57), none, (some (55, true))⟩, ⟨.bin .eql (.reg 58) (.cst (.int .i64 3)), none, (some (55, true))⟩, ⟨.pick (.reg 55) (.reg 59) (.cst (.bool false)), none, none⟩, ⟨.mov (.reg 60), none, none⟩, ⟨.fieldAddr 4 (.loc 17), none, (some (61, true))⟩, ⟨.fieldAddr 5 (.reg 62), none, (some (61, true))⟩, ⟨.load1 (.reg 63), none, (some (61, true))⟩, ⟨.indexAddrS 2 (.reg 64) (.cst (.int .i64 0)), none, (some (61, true))⟩, ⟨.fieldAddr 1 (.reg 65), none, (some (61, true))⟩, ⟨.load1 (.reg 66), none, (some (61, true))⟩, ⟨.fieldAddr 0 (.loc 17), none, (some (61, true))⟩, ⟨.load1 (.reg 68), none, (some (61, true))⟩, ⟨.indexAddrS 1 (.reg 69) (.cst (.int .i64 0)), none, (some (61, true))⟩, ⟨.load1 (.reg 70), none, (some (61, true))⟩, ⟨.bin .eql (.reg 67) (.reg 71), none, (some (61, true))⟩, ⟨.pick (.reg 61) (.reg 72) (.cst (.bool false)), none, none⟩, ⟨.mov (.reg 73), none, none⟩, ⟨.fieldAddr 4 (.loc 17), none, (some (74, true))⟩, ⟨.fieldAddr 6 (.reg 75), none, (some (74, true))⟩, ⟨.load1 (.reg 76), none, (some (74, true))⟩, ⟨.indexAddrS 7 (.reg 77) (.cst (.int .i64 0)), none, (some (74, true))⟩, ⟨.fieldAddr 5 (.reg 78), none, (some (74, true))⟩, ⟨.load1 (.reg 79), none, (some (74, true))⟩, ⟨.indexAddrS 2 (.reg 80) (.cst (.int .i64 0)), none, (some (74, true))⟩, ⟨.fieldAddr 1 (.reg 81), none, (some (74, true))⟩, ⟨.load1 (.reg 82), none, (some (74, true))⟩, ⟨.fieldAddr 1 (.loc 14), none, (some (74, true))⟩, ⟨.load1 (.reg 84), none, (some (74, true))⟩, ⟨.bin .eql (.reg 83) (.reg 85), none, (some (74, true))⟩, ⟨.pick (.reg 74) (.reg 86) (.cst (.bool false)), none, none⟩, ⟨.mov (.reg 87), none, none⟩, ⟨.call true false 8 [], none, (some (88, true))⟩, ⟨.pick (.reg 88) (.reg 89) (.cst (.bool false)), none, none⟩, ⟨.mov (.reg 90), (some 0), none⟩])
 .ret))))))))))))))))))))⟩
theorem c5 : compFunc Tryd.prog opts a5 Tryd.f5 = some t5 := by kernel_rfl
/-- pennant/pennantlaw16.works -/
def a8 : Ann := { slots := [0, 1, 2, 3, 4, 5, 35, 68], lb := [5, 4, 2, 1], mu := [], trunc := [], draws := [(9, ⟨[0, 1, 3, 7, 15, 31, 63, 127, 255, 511, 1023, 2047, 4095, 8191, 1023, 17407, 50175, 131071, 262143, 524287, 1048575, 2097151, 4194303, 8388607, 1048575, 33554431, 67108863, 134217727], [0, 1, 2, 3, 4, 5, 6, 7, 8, 9, 10, 11, 12, 13, 14, 15, 16, 17, 18, 19, 20, 21, 22, 23, 24, 25, 26, 27], []⟩)] }
def t8 : TFunc := ⟨0, 8, [.loc 0],
 (.seq (.region [⟨.mov (.cst (.bool false)), (some 0), none⟩])
 (.seq (.region [⟨.build [(.int .i64 0), (.int .i64 0), (.sl .nil []), (.bool false), (.sl .nil [])] [(0, 1, (.cst (.int .i64 3)))], none, none⟩, ⟨.build [(.int .i64 0), (.int .i64 0), (.sl .nil []), (.bool false), (.sl .nil [])] [(0, 1, (.cst (.int .i64 1)))], none, none⟩, ⟨.lit false [(.int .i64 0), (.int .i64 0), (.sl .nil []), (.bool false), (.sl .nil [])] 2 [(0, (.reg 0)), (1, (.reg 1))], none, none⟩, ⟨.build [(.int .i64 0), (.int .i64 0), (.sl .nil []), (.bool false), (.sl .nil [])] [(0, 1, (.cst (.int .i64 8))), (4, 1, (.reg 2))], none, none⟩, ⟨.build [(.int .i64 0), (.int .i64 0), (.str []), (.sl .nil []), (.int .i64 0)] [(0, 1, (.cst (.int .i64 0)))], none, none⟩, ⟨.lit false [(.int .i64 0), (.int .i64 0), (.str []), (.sl .nil []), (.int .i64 0)] 1 [(0, (.reg 4))], none, none⟩, ⟨.build [(.int .i64 0), (.int .i64 0), (.sl .nil []), (.bool false), (.sl .nil []), (.int .i64 0), (.int .i64 0), (.sl .nil [])] [(0, 5, (.reg 3)), (5, 1, (.cst (.int .i64 1))), (7, 1, (.reg 5))], none, none⟩, ⟨.allocL 1 [(.int .i64 0), (.int .i64 0), (.sl .nil []), (.bool false), (.sl .nil []), (.int .i64 0), (.int .i64 0), (.sl .nil [])], none, none⟩, ⟨.store 8 (.reg 7) (.reg 6), none, none⟩])
 (.seq (.region [⟨.loadN 8 (.loc 1), none, none⟩, ⟨.call false false 9 [(.reg 0)], none, none⟩, ⟨.mov (.reg 1), none, none⟩, ⟨.extract 0 (.reg 2), none, none⟩, ⟨.extract 1 (.reg 2), none, none⟩, ⟨.allocL 2 [(.sl .nil []), (.int .i64 0), (.int .i64 0), (.int .i64 0), (.sl .nil [])], none, none⟩, ⟨.store 5 (.reg 5) (.reg 3), none, none⟩, ⟨.mov (.reg 4), (some 3), none⟩])
 (.seq (.seq (.region [⟨.mov (.loc 3), none, none⟩, ⟨.bin .neq (.reg 0) (.cst (.int .i64 0)), none, none⟩, ⟨.mov (.reg 1), none, none⟩, ⟨.fieldAddr 0 (.loc 2), none, (some (2, false))⟩, ⟨.load1 (.reg 3), none, (some (2, false))⟩, ⟨.len .sl (.reg 4), none, (some (2, false))⟩, ⟨.bin .neq (.reg 5) (.cst (.int .i64 2)), none, (some (2, false))⟩, ⟨.pick (.reg 2) (.cst (.bool true)) (.reg 6), none, none⟩, ⟨.mov (.reg 7), none, none⟩, ⟨.fieldAddr 1 (.loc 2), none, (some (8, false))⟩, ⟨.load1 (.reg 9), none, (some (8, false))⟩, ⟨.bin .lss (.reg 10) (.cst (.int .i64 0)), none, (some (8, false))⟩, ⟨.pick (.reg 8) (.cst (.bool true)) (.reg 11), none, none⟩, ⟨.mov (.reg 12), none, none⟩, ⟨.fieldAddr 1 (.loc 2), none, (some (13, false))⟩, ⟨.load1 (.reg 14), none, (some (13, false))⟩, ⟨.bin .gtr (.reg 15) (.cst (.int .i64 1)), none, (some (13, false))⟩, ⟨.pick (.reg 13) (.cst (.bool true)) (.reg 16), (some 6), none⟩])
 (.cond (.loc 6)
  (.seq (.region [⟨.mov (.cst (.bool false)), (some 0), none⟩])
  .ret)
  .skip))
 (.seq (.region [⟨.fieldAddr 0 (.loc 2), none, none⟩, ⟨.load1 (.reg 0), none, none⟩, ⟨.fieldAddr 1 (.loc 2), none, none⟩, ⟨.load1 (.reg 2), none, none⟩, ⟨.indexAddrS 11 (.reg 1) (.reg 3), none, none⟩, ⟨.fieldAddr 4 (.reg 4), none, none⟩, ⟨.loadN 7 (.reg 5), none, none⟩, ⟨.allocL 4 [(.int .i64 0), (.int .i64 0), (.int .i64 0), (.int .i64 0), (.int .i64 0), (.sl .nil []), (.sl .nil [])], none, none⟩, ⟨.store 7 (.reg 7) (.reg 6), none, none⟩])
 (.seq (.seq (.region [⟨.fieldAddr 0 (.loc 4), none, none⟩, ⟨.load1 (.reg 0), none, none⟩, ⟨.bin .neq (.reg 1) (.cst (.int .i64 2)), none, none⟩, ⟨.mov (.reg 2), none, none⟩, ⟨.fieldAddr 6 (.loc 4), none, (some (3, false))⟩, ⟨.load1 (.reg 4), none, (some (3, false))⟩, ⟨.len .sl (.reg 5), none, (some (3, false))⟩, ⟨.bin .neq (.reg 6) (.cst (.int .i64 1)), none, (some (3, false))⟩, ⟨.pick (.reg 3) (.cst (.bool true)) (.reg 7), none, none⟩, ⟨.mov (.reg 8), none, none⟩, ⟨.fieldAddr 6 (.loc 4), none, (some (9, false))⟩, ⟨.load1 (.reg 10), none, (some (9, false))⟩, ⟨.indexAddrS 7 (.reg 11) (.cst (.int .i64 0)), none, (some (9, false))⟩, ⟨.fieldAddr 0 (.reg 12), none, (some (9, false))⟩, ⟨.load1 (.reg 13), none, (some (9, false))⟩, ⟨.bin .neq (.reg 14) (.cst (.int .i64 1)), none, (some (9, false))⟩, ⟨.pick (.reg 9) (.cst (.bool true)) (.reg 15), none, none⟩, ⟨.mov (.reg 16), none, none⟩, ⟨.fieldAddr 6 (.loc 4), none, (some (17, false))⟩, ⟨.load1 (.reg 18), none, (some (17, false))⟩, ⟨.indexAddrS 7 (.reg 19) (.cst (.int .i64 0)), none, (some (17, false))⟩, ⟨.fieldAddr 6 (.reg 20), none, (some (17, false))⟩, ⟨.load1 (.reg 21), none, (some (17, false))⟩, ⟨.len .sl (.reg 22), none, (some (17, false))⟩, ⟨.bin .neq (.reg 23) (.cst (.int .i64 1)), none, (some (17, false))⟩, ⟨.pick (.reg 17) (.cst (.bool true)) (.reg 24), (some 7), none⟩])
 (.cond (.loc 7)
  (.seq (.region [⟨.mov (.cst (.bool false)), (some 0), none⟩])
  .ret)
  .skip))
 (.seq (.region [⟨.fieldAddr 6 (.loc 4), none, none⟩, ⟨.load1 (.reg 0), none, none⟩, ⟨.indexAddrS 7 (.reg 1) (.cst (.int .i64 0)), none, none⟩, ⟨.fieldAddr 6 (.reg 2), none, none⟩, ⟨.load1 (.reg 3), none, none⟩, ⟨.indexAddrS 7 (.reg 4) (.cst (.int .i64 0)), none, none⟩, ⟨.loadN 7 (.reg 5), none, none⟩, ⟨.allocL 5 [(.int .i64 0), (.int .i64 0), (.int .i64 0), (.int .i64 0), (.int .i64 0), (.sl .nil []), (.sl .nil [])], none, none⟩, ⟨.store 7 (.reg 7) (.reg 6), none, none⟩])
 (.seq (.draw [0, 1, 2, 3, 4, 5, 6, 7, 8, 9, 10, 11, 12, 13, 14, 15, 16, 17, 18, 19, 20, 21, 22, 23, 24, 25, 26, 27] [] [⟨.fieldAddr 0 (.loc 5), none, none⟩, ⟨.load1 (.reg 0), none, none⟩, ⟨.bin .eql (.reg 1) (.cst (.int .i64 4)), none, none⟩, ⟨.mov (.reg 2), none, none⟩, ⟨.fieldAddr 5 (.loc 5), none, (some (3, true))⟩, ⟨.load1 (.reg 4), none, (some (3, true))⟩, ⟨.len .sl (.reg 5), none, (some (3, true))⟩, ⟨.bin .eql (.reg 6) (.cst (.int .i64 3)), none, (some (3, true))⟩, ⟨.pick (.reg 3) (.reg 7) (.cst (.bool false)), none, none⟩, ⟨.mov (.reg 8), none, none⟩, ⟨.fieldAddr 5 (.loc 5), none, (some (9, true))⟩, ⟨.load1 (.reg 10), none, (some (9, true))⟩, ⟨.indexAddrS 2 (.reg 11) (.cst (.int .i64 1)), none, (some (9, true))⟩, ⟨.loadN 2 (.reg 12), none, (some (9, true))⟩, ⟨.fieldAddr 1 (.loc 4), none, (some (9, true))⟩, ⟨.load1 (.reg 14), none, (some (9, true))⟩, ⟨.build [(.int .i64 0), (.int .i64 0)] [(0, 1, (.cst (.int .i64 1))), (1, 1, (.reg 15))], none, (some (9, true))⟩, ⟨.eqAgg false [(0, .int), (1, .int)] (.reg 13) (.reg 16), none, (some (9, true))⟩, ⟨.pick (.reg 9) (.reg 17) (.cst (.bool false)), none, none⟩, ⟨.mov (.reg 18), none, none⟩, ⟨.fieldAddr 5 (.loc 5), none, (some (19, true))⟩, ⟨.load1 (.reg 20), none, (some (19, true))⟩, ⟨.indexAddrS 2 (.reg 21) (.cst (.int .i64 2)), none, (some (19, true))⟩, ⟨.loadN 2 (.reg 22), none, (some (19, true))⟩, ⟨.build [(.int .i64 0), (.int .i64 0)] [(0, 1, (.cst (.int .i64 2)))], none, (some (19, true))⟩, ⟨.eqAgg false [(0, .int), (1, .int)] (.reg 23) (.reg 24), none, (some (19, true))⟩, ⟨.pick (.reg 19) (.reg 25) (.cst (.bool false)), none, none⟩, ⟨.mov (.reg 26), (some 0), none⟩])
 .ret))))))))⟩
theorem c8 : compFunc Tryd.prog opts a8 Tryd.f8 = some t8 := by kernel_rfl
/-- pennant/cps.Convert -/
def a9 : Ann := { slots := [0, 1, 2, 3, 4, 5, 6, 7, 8, 9, 10, 14, 19], lb := [10, 7, 2, 1], mu := [], trunc := [], draws := [(10, ⟨[0, 0, 2, 0, 0, 16, 0, 64, 248, 511, 0, 2047], [0, 1, 2, 3, 4, 5, 6, 10], [(7, [1, 5], []), (8, [1], []), (9, [], []), (11, [], [])]⟩), (11, ⟨[0, 1, 3, 7, 0, 0, 63, 127, 255], [0, 1, 2, 3, 4, 5, 6, 7], [(8, [], [])]⟩), (12, ⟨[0, 1, 3, 7, 0, 0, 32, 96, 224, 0, 512, 0, 2048, 8191, 16383, 32767], [0, 1, 2, 3, 4, 5, 6, 7, 8, 9, 10, 11, 12, 13], [(14, [], [15])]⟩)] }
def t9 : TFunc := ⟨1, 13, [.cell 2 5 true, .loc 3],
 (.seq (.region [⟨.boxL 1 (.loc 0), none, none⟩, ⟨.allocL 2 [(.sl .nil []), (.int .i64 0), (.int .i64 0), (.int .i64 0), (.sl .nil [])], none, none⟩, ⟨.mov (.cst (.int .i64 0)), (some 3), none⟩])
 (.seq (.seq (.region [⟨.loadN 8 (.loc 1), none, none⟩, ⟨.call false false 11 [(.reg 0)], none, none⟩, ⟨.mov (.reg 1), (some 4), none⟩])
 (.seq (.region [⟨.mov (.loc 4), none, none⟩, ⟨.bin .neq (.reg 0) (.cst (.int .i64 0)), (some 11), none⟩])
 (.cond (.loc 11)
  (.seq (.region [⟨.build [(.sl .nil []), (.int .i64 0), (.int .i64 0), (.int .i64 0), (.sl .nil [])] [], none, none⟩, ⟨.mov (.loc 4), none, none⟩, ⟨.store 5 (.loc 2) (.reg 0), none, none⟩, ⟨.mov (.reg 1), (some 3), none⟩])
  .ret)
  .skip)))
 (.seq (.seq (.region [⟨.fieldAddr 0 (.loc 1), none, none⟩, ⟨.loadN 5 (.reg 0), none, none⟩, ⟨.call false false 19 [(.reg 1)], (some 12), none⟩])
 (.cond (.loc 12)
  (.seq (.region [⟨.build [(.sl .nil []), (.int .i64 0), (.int .i64 0), (.int .i64 0), (.sl .nil [])] [], none, none⟩, ⟨.store 5 (.loc 2) (.reg 0), none, none⟩, ⟨.mov (.cst (.int .i64 2)), (some 3), none⟩])
  .ret)
  .skip))
 (.seq (.region [⟨.fieldAddr 6 (.loc 1), none, none⟩, ⟨.load1 (.reg 0), none, none⟩, ⟨.build [(.sl .nil []), (.int .i64 0)] [(1, 1, (.reg 1))], none, none⟩, ⟨.boxH (.reg 2), none, none⟩, ⟨.mov (.reg 3), (some 5), none⟩])
 (.seq (.region [⟨.mov (.loc 5), none, none⟩, ⟨.mov (.loc 5), none, none⟩, ⟨.call false false 21 [(.reg 1)], none, none⟩, ⟨.lit false [(.int .i64 0)] 1 [(0, (.reg 2))], none, none⟩, ⟨.build [(.int .i64 0), (.int .i64 0), (.int .i64 0), (.int .i64 0), (.int .i64 0), (.sl .nil []), (.sl .nil [])] [(0, 1, (.cst (.int .i64 7)))], none, none⟩, ⟨.build [(.sl .nil []), (.bool false), (.bool false), (.sl .nil []), (.int .i64 0), (.int .i64 0), (.int .i64 0), (.int .i64 0), (.int .i64 0), (.sl .nil []), (.sl .nil [])] [(0, 1, (.reg 3)), (2, 1, (.cst (.bool true))), (4, 7, (.reg 4))], none, none⟩, ⟨.call false false 20 [(.reg 0), (.reg 5)], none, none⟩, ⟨.mov (.reg 6), (some 6), none⟩])
 (.seq (.region [⟨.mov (.loc 5), none, none⟩, ⟨.mov (.loc 6), none, none⟩, ⟨.call false false 22 [(.reg 0), (.reg 1)], none, none⟩, ⟨.mov (.reg 2), none, none⟩, ⟨.extract 0 (.reg 3), none, none⟩, ⟨.extract 1 (.reg 3), none, none⟩, ⟨.allocL 7 [(.int .i64 0), (.int .i64 0), (.int .i64 0), (.int .i64 0), (.int .i64 0), (.int .i64 0), (.sl .nil []), (.sl .nil []), (.int .i64 0), (.int .i64 0), (.sl .nil []), (.bool false), (.sl .nil []), (.int .i64 0)], none, none⟩, ⟨.store 14 (.reg 6) (.reg 4), none, none⟩, ⟨.mov (.reg 5), (some 8), none⟩])
 (.seq (.region [⟨.mov (.loc 5), none, none⟩, ⟨.build [(.sl .nil []), (.bool false), (.bool false), (.sl .nil []), (.int .i64 0), (.int .i64 0), (.int .i64 0), (.int .i64 0), (.int .i64 0), (.sl .nil []), (.sl .nil [])] [], none, none⟩, ⟨.call false false 20 [(.reg 0), (.reg 1)], none, none⟩, ⟨.mov (.reg 2), (some 9), none⟩])
 (.seq (.draw [0, 1, 2, 3, 4, 5, 6, 10] [(7, [1, 5], []), (8, [1], []), (9, [], []), (11, [], [])] [⟨.mov (.loc 5), none, none⟩, ⟨.loadN 14 (.loc 7), none, none⟩, ⟨.lit false [(.int .i64 0), (.int .i64 0), (.int .i64 0), (.int .i64 0), (.int .i64 0), (.int .i64 0), (.sl .nil []), (.sl .nil []), (.int .i64 0), (.int .i64 0), (.sl .nil []), (.bool false), (.sl .nil []), (.int .i64 0)] 1 [(0, (.reg 1))], none, none⟩, ⟨.mov (.loc 5), none, none⟩, ⟨.fieldAddr 0 (.loc 1), none, none⟩, ⟨.loadN 5 (.reg 4), none, none⟩, ⟨.mov (.loc 8), none, none⟩, ⟨.call true false 25 [(.reg 6)], none, none⟩, ⟨.call false false 24 [(.reg 3), (.reg 5), (.reg 7)], none, none⟩, ⟨.call false false 23 [(.reg 0), (.reg 2), (.reg 8)], none, none⟩, ⟨.allocH [(.int .i64 0), (.int .i64 0), (.int .i64 0), (.int .i64 0), (.int .i64 0), (.sl .nil []), (.sl .nil [])], (some 10), none⟩, ⟨.store 7 (.reg 10) (.reg 9), none, none⟩])
 (.seq (.draw [0, 1, 2, 3, 4, 5, 6, 7] [(8, [], [])] [⟨.mov (.loc 5), none, none⟩, ⟨.nilCheck (.reg 0), none, none⟩, ⟨.fieldAddr 0 (.reg 1), none, none⟩, ⟨.load1 (.reg 2), none, none⟩, ⟨.mov (.loc 9), none, none⟩, ⟨.loadN 7 (.loc 10), none, none⟩, ⟨.indexAddrS 11 (.reg 3) (.reg 4), none, none⟩, ⟨.fieldAddr 4 (.reg 6), none, none⟩, ⟨.store 7 (.reg 7) (.reg 5), none, none⟩])
 (.seq (.draw [0, 1, 2, 3, 4, 5, 6, 7, 8, 9, 10, 11, 12, 13] [(14, [], [15])] [⟨.mov (.loc 5), none, none⟩, ⟨.nilCheck (.reg 0), none, none⟩, ⟨.fieldAddr 0 (.reg 1), none, none⟩, ⟨.load1 (.reg 2), none, none⟩, ⟨.mov (.loc 9), none, none⟩, ⟨.mov (.loc 5), none, none⟩, ⟨.nilCheck (.reg 5), none, none⟩, ⟨.fieldAddr 1 (.reg 6), none, none⟩, ⟨.load1 (.reg 7), none, none⟩, ⟨.fieldAddr 5 (.loc 1), none, none⟩, ⟨.load1 (.reg 9), none, none⟩, ⟨.fieldAddr 7 (.loc 1), none, none⟩, ⟨.load1 (.reg 11), none, none⟩, ⟨.build [(.sl .nil []), (.int .i64 0), (.int .i64 0), (.int .i64 0), (.sl .nil [])] [(0, 1, (.reg 3)), (1, 1, (.reg 4)), (2, 1, (.reg 8)), (3, 1, (.reg 10)), (4, 1, (.reg 12))], none, none⟩, ⟨.store 5 (.loc 2) (.reg 13), none, none⟩, ⟨.mov (.cst (.int .i64 0)), (some 3), none⟩])
 .ret))))))))))⟩
theorem c9 : compFunc Tryd.prog opts a9 Tryd.f9 = some t9 := by kernel_rfl
/-- pennant/core.Check -/
def a11 : Ann := { slots := [0, 1, 2, 4, 5, 18, 20, 21, 22, 23, 33], lb := [4, 1], mu := [], trunc := [], draws := [] }
def t11 : TFunc := ⟨1, 11, [.loc 2],
 (.seq (.region [⟨.boxL 1 (.loc 0), none, none⟩, ⟨.mov (.cst (.int .i64 0)), (some 2), none⟩])
 (.seq (.seq (.region [⟨.fieldAddr 5 (.loc 1), none, none⟩, ⟨.load1 (.reg 0), none, none⟩, ⟨.bin .lss (.reg 1) (.cst (.int .i64 0)), none, none⟩, ⟨.mov (.reg 2), none, none⟩, ⟨.fieldAddr 5 (.loc 1), none, (some (3, false))⟩, ⟨.load1 (.reg 4), none, (some (3, false))⟩, ⟨.bin .gtr (.reg 5) (.cst (.int .i64 20000)), none, (some (3, false))⟩, ⟨.pick (.reg 3) (.cst (.bool true)) (.reg 6), none, none⟩, ⟨.mov (.reg 7), none, none⟩, ⟨.fieldAddr 6 (.loc 1), none, (some (8, false))⟩, ⟨.load1 (.reg 9), none, (some (8, false))⟩, ⟨.bin .lss (.reg 10) (.cst (.int .i64 0)), none, (some (8, false))⟩, ⟨.pick (.reg 8) (.cst (.bool true)) (.reg 11), (some 5), none⟩])
 (.cond (.loc 5)
  (.seq (.region [⟨.mov (.cst (.int .i64 2)), (some 2), none⟩])
  .ret)
  .skip))
 (.seq (.seq (.region [⟨.fieldAddr 7 (.loc 1), none, none⟩, ⟨.load1 (.reg 0), (some 6), none⟩, ⟨.len .sl (.reg 1), (some 7), none⟩, ⟨.mov (.cst (.int .i64 0)), (some 8), none⟩])
 (.block 0
  (.loop
   (.seq (.region [⟨.bin .lss (.loc 8) (.loc 7), (some 9), none⟩])
   (.seq (.cond (.loc 9)
    .skip
    (.exit 0))
   (.seq (.block 1
    (.seq (.region [⟨.indexAddrS 5 (.loc 6) (.loc 8), none, none⟩, ⟨.loadN 5 (.reg 0), none, none⟩, ⟨.allocL 3 [(.int .i64 0), (.int .i64 0), (.str []), (.sl .nil []), (.int .i64 0)], none, none⟩, ⟨.store 5 (.reg 2) (.reg 1), none, none⟩])
    (.seq (.region [⟨.loadN 5 (.loc 3), none, none⟩, ⟨.call false false 34 [(.reg 0)], none, none⟩, ⟨.un .not (.reg 1), none, none⟩, ⟨.mov (.reg 2), none, none⟩, ⟨.loadN 5 (.loc 3), none, (some (3, false))⟩, ⟨.call false false 35 [(.reg 4)], none, (some (3, false))⟩, ⟨.un .not (.reg 5), none, (some (3, false))⟩, ⟨.pick (.reg 3) (.cst (.bool true)) (.reg 6), (some 10), none⟩])
    (.cond (.loc 10)
     (.seq (.region [⟨.mov (.cst (.int .i64 2)), (some 2), none⟩])
     .ret)
     .skip))))
   (.region [⟨.bin .add (.loc 8) (.cst (.int .i64 1)), none, none⟩, ⟨.mov (.reg 0), (some 8), none⟩])))))))
 (.seq (.region [⟨.loadN 8 (.loc 1), none, none⟩, ⟨.mkMap, none, none⟩, ⟨.mkMap, none, none⟩, ⟨.mkMap, none, none⟩, ⟨.build [(.int .i64 0), (.int .i64 0), (.sl .nil []), (.bool false), (.sl .nil []), (.int .i64 0), (.int .i64 0), (.sl .nil []), .nilm, .nilm, .nilm] [(0, 8, (.reg 0)), (8, 1, (.reg 1)), (9, 1, (.reg 2)), (10, 1, (.reg 3))], none, none⟩, ⟨.boxH (.reg 4), none, none⟩, ⟨.mov (.reg 5), (some 4), none⟩])
 (.seq (.region [⟨.mov (.loc 4), none, none⟩, ⟨.fieldAddr 0 (.loc 1), none, none⟩, ⟨.loadN 5 (.reg 1), none, none⟩, ⟨.call false false 36 [(.reg 0), (.reg 2), (.cst (.int .i64 0))], none, none⟩, ⟨.mov (.reg 3), (some 2), none⟩])
 .ret)))))⟩
theorem c11 : compFunc Tryd.prog opts a11 Tryd.f11 = some t11 := by kernel_rfl
/-- pennant/cps.sets -/
def a19 : Ann := { slots := [0, 1, 2], lb := [1], mu := [], trunc := [], draws := [] }
def t19 : TFunc := ⟨1, 3, [.loc 2],
 (.seq (.region [⟨.boxL 1 (.loc 0), none, none⟩, ⟨.mov (.cst (.bool false)), (some 2), none⟩])
 (.seq (.region [⟨.fieldAddr 0 (.loc 1), none, none⟩, ⟨.load1 (.reg 0), none, none⟩, ⟨.bin .eql (.reg 1) (.cst (.int .i64 4)), none, none⟩, ⟨.mov (.reg 2), none, none⟩, ⟨.fieldAddr 4 (.loc 1), none, (some (3, false))⟩, ⟨.load1 (.reg 4), none, (some (3, false))⟩, ⟨.call false false 43 [(.reg 5), (.fn 19)], none, (some (3, false))⟩, ⟨.pick (.reg 3) (.cst (.bool true)) (.reg 6), none, none⟩, ⟨.mov (.reg 7), (some 2), none⟩])
 .ret))⟩
theorem c19 : compFunc Tryd.prog opts a19 Tryd.f19 = some t19 := by kernel_rfl
/-- (*pennant/cps.maker).fun -/
def a20 : Ann := { slots := [0, 1, 3, 4], lb := [3], mu := [(1, 7)], trunc := [], draws := [(1, ⟨[0, 0, 2, 6, 14, 0, 32, 126, 255, 511, 1023], [0, 1, 2, 3, 4, 5, 6], [(7, [], [8, 9]), (10, [], [])]⟩)] }
def t20 : TFunc := ⟨2, 4, [.loc 3],
 (.seq (.region [⟨.boxL 2 (.loc 1), none, none⟩, ⟨.mov (.cst (.int .i64 0)), (some 3), none⟩])
 (.seq (.draw [0, 1, 2, 3, 4, 5, 6] [(7, [], [8, 9]), (10, [], [])] [⟨.mov (.loc 0), none, none⟩, ⟨.mov (.loc 0), none, none⟩, ⟨.nilCheck (.reg 1), none, none⟩, ⟨.fieldAddr 0 (.reg 2), none, none⟩, ⟨.load1 (.reg 3), none, none⟩, ⟨.loadN 11 (.loc 2), none, none⟩, ⟨.lit false [(.sl .nil []), (.bool false), (.bool false), (.sl .nil []), (.int .i64 0), (.int .i64 0), (.int .i64 0), (.int .i64 0), (.int .i64 0), (.sl .nil []), (.sl .nil [])] 1 [(0, (.reg 5))], none, none⟩, ⟨.append true 11 144 (.reg 4) (.reg 6), none, none⟩, ⟨.nilCheck (.reg 0), none, none⟩, ⟨.fieldAddr 0 (.reg 8), none, none⟩, ⟨.store 1 (.reg 9) (.reg 7), none, none⟩])
 (.seq (.region [⟨.mov (.loc 0), none, none⟩, ⟨.nilCheck (.reg 0), none, none⟩, ⟨.fieldAddr 0 (.reg 1), none, none⟩, ⟨.load1 (.reg 2), none, none⟩, ⟨.len .sl (.reg 3), none, none⟩, ⟨.bin .sub (.reg 4) (.cst (.int .i64 1)), none, none⟩, ⟨.mov (.reg 5), (some 3), none⟩])
 .ret)))⟩
theorem c20 : compFunc Tryd.prog opts a20 Tryd.f20 = some t20 := by kernel_rfl
/-- (*pennant/cps.maker).variable -/
def a21 : Ann := { slots := [0, 2], lb := [], mu := [], trunc := [], draws := [] }
def t21 : TFunc := ⟨1, 2, [.loc 1],
 (.seq (.region [⟨.mov (.cst (.int .i64 0)), (some 1), none⟩])
 (.seq (.region [⟨.mov (.loc 0), none, none⟩, ⟨.nilCheck (.reg 0), none, none⟩, ⟨.fieldAddr 1 (.reg 1), none, none⟩, ⟨.load1 (.reg 2), none, none⟩, ⟨.bin .add (.reg 3) (.cst (.int .i64 1)), none, none⟩, ⟨.nilCheck (.reg 0), none, none⟩, ⟨.fieldAddr 1 (.reg 5), none, none⟩, ⟨.store 1 (.reg 6) (.reg 4), none, none⟩])
 (.seq (.region [⟨.mov (.loc 0), none, none⟩, ⟨.nilCheck (.reg 0), none, none⟩, ⟨.fieldAddr 1 (.reg 1), none, none⟩, ⟨.load1 (.reg 2), none, none⟩, ⟨.bin .sub (.reg 3) (.cst (.int .i64 1)), none, none⟩, ⟨.mov (.reg 4), (some 1), none⟩])
 .ret)))⟩
theorem c21 : compFunc Tryd.prog opts a21 Tryd.f21 = some t21 := by kernel_rfl
/-- (*pennant/cps.maker).made -/
def a22 : Ann := { slots := [0, 1, 4, 5, 6], lb := [4], mu := [], trunc := [], draws := [] }
def t22 : TFunc := ⟨2, 5, [.cell 2 14 true, .loc 3],
 (.seq (.region [⟨.allocL 2 [(.int .i64 0), (.int .i64 0), (.int .i64 0), (.int .i64 0), (.int .i64 0), (.int .i64 0), (.sl .nil []), (.sl .nil []), (.int .i64 0), (.int .i64 0), (.sl .nil []), (.bool false), (.sl .nil []), (.int .i64 0)], none, none⟩, ⟨.mov (.cst (.int .i64 0)), (some 3), none⟩])
 (.seq (.region [⟨.mov (.loc 0), none, none⟩, ⟨.call false false 21 [(.reg 0)], none, none⟩, ⟨.mov (.reg 1), (some 4), none⟩])
 (.seq (.region [⟨.mov (.loc 4), none, none⟩, ⟨.mov (.loc 1), none, none⟩, ⟨.build [(.int .i64 0), (.int .i64 0), (.int .i64 0), (.int .i64 0), (.int .i64 0), (.sl .nil []), (.sl .nil [])] [(0, 1, (.cst (.int .i64 2))), (1, 1, (.reg 0)), (4, 1, (.reg 1))], none, none⟩, ⟨.mov (.loc 4), none, none⟩, ⟨.build [(.int .i64 0), (.int .i64 0), (.int .i64 0), (.int .i64 0), (.int .i64 0), (.int .i64 0), (.sl .nil []), (.sl .nil []), (.int .i64 0), (.int .i64 0), (.sl .nil []), (.bool false), (.sl .nil []), (.int .i64 0)] [(1, 7, (.reg 2)), (13, 1, (.reg 3))], none, none⟩, ⟨.mov (.loc 4), none, none⟩, ⟨.store 14 (.loc 2) (.reg 4), none, none⟩, ⟨.mov (.reg 5), (some 3), none⟩])
 .ret)))⟩
theorem c22 : compFunc Tryd.prog opts a22 Tryd.f22 = some t22 := by kernel_rfl
/-- (*pennant/cps.maker).laid -/
def a23 : Ann := { slots := [0, 1, 2, 3, 5, 6, 8, 9, 10, 11, 12, 14, 15, 16, 19], lb := [6], mu := [], trunc := [], draws := [(9, ⟨[0, 0, 2, 0, 8, 31, 63, 127, 255, 511], [0, 1, 2, 3], [(4, [0, 2], []), (5, [], [6, 7, 8]), (9, [], [])]⟩)] }
def t23 : TFunc := ⟨3, 15, [.cell 5 7 true],
 (.seq (.region [⟨.boxH (.loc 0), (some 3), none⟩, ⟨.boxH (.loc 2), (some 4), none⟩, ⟨.allocL 5 [(.int .i64 0), (.int .i64 0), (.int .i64 0), (.int .i64 0), (.int .i64 0), (.sl .nil []), (.sl .nil [])], none, none⟩])
 (.seq (.seq (.region [⟨.mov (.loc 1), none, none⟩, ⟨.call false false 44 [(.reg 0)], (some 11), none⟩])
 (.block 0
  (.rangeFunc (.loc 11) [12, 13]
   (.region [⟨.allocH [(.int .i64 0), (.int .i64 0), (.int .i64 0), (.int .i64 0), (.int .i64 0), (.int .i64 0), (.sl .nil []), (.sl .nil []), (.int .i64 0), (.int .i64 0), (.sl .nil []), (.bool false), (.sl .nil []), (.int .i64 0)], (some 6), none⟩, ⟨.store 14 (.reg 0) (.loc 13), none, none⟩])
   (.block 1
    (.seq (.seq (.region [⟨.fieldAddr 0 (.loc 6), none, none⟩, ⟨.load1 (.reg 0), none, none⟩, ⟨.bin .eql (.reg 1) (.cst (.int .i64 0)), (some 14), none⟩])
    (.cond (.loc 14)
     (.seq (.region [⟨.fieldAddr 1 (.loc 6), none, none⟩, ⟨.loadN 7 (.reg 0), none, none⟩, ⟨.allocH [(.int .i64 0), (.int .i64 0), (.int .i64 0), (.int .i64 0), (.int .i64 0), (.sl .nil []), (.sl .nil [])], (some 7), none⟩, ⟨.store 7 (.reg 2) (.reg 1), none, none⟩])
     (.seq (.region [⟨.loadN 7 (.loc 4), none, none⟩, ⟨.lit false [(.int .i64 0), (.int .i64 0), (.int .i64 0), (.int .i64 0), (.int .i64 0), (.sl .nil []), (.sl .nil [])] 1 [(0, (.reg 0))], none, none⟩, ⟨.fieldAddr 6 (.loc 7), none, none⟩, ⟨.store 1 (.reg 2) (.reg 1), none, none⟩])
     (.seq (.region [⟨.loadN 7 (.loc 7), none, none⟩, ⟨.store 7 (.loc 4) (.reg 0), none, none⟩])
     (.exit 1))))
     .skip))
    (.seq (.region [⟨.load1 (.loc 3), none, none⟩, ⟨.fieldAddr 13 (.loc 6), none, none⟩, ⟨.load1 (.reg 1), none, none⟩, ⟨.lit false [(.int .i64 0)] 1 [(0, (.reg 2))], none, none⟩, ⟨.loadN 7 (.loc 4), none, none⟩, ⟨.build [(.sl .nil []), (.bool false), (.bool false), (.sl .nil []), (.int .i64 0), (.int .i64 0), (.int .i64 0), (.int .i64 0), (.int .i64 0), (.sl .nil []), (.sl .nil [])] [(0, 1, (.reg 3)), (2, 1, (.cst (.bool true))), (4, 7, (.reg 4))], none, none⟩, ⟨.call false false 20 [(.reg 0), (.reg 5)], none, none⟩, ⟨.mov (.reg 6), (some 8), none⟩])
    (.seq (.region [⟨.load1 (.loc 3), none, none⟩, ⟨.mov (.loc 8), none, none⟩, ⟨.call false false 22 [(.reg 0), (.reg 1)], none, none⟩, ⟨.mov (.reg 2), none, none⟩, ⟨.extract 0 (.reg 3), none, none⟩, ⟨.extract 1 (.reg 3), none, none⟩, ⟨.allocH [(.int .i64 0), (.int .i64 0), (.int .i64 0), (.int .i64 0), (.int .i64 0), (.int .i64 0), (.sl .nil []), (.sl .nil []), (.int .i64 0), (.int .i64 0), (.sl .nil []), (.bool false), (.sl .nil []), (.int .i64 0)], (some 9), none⟩, ⟨.store 14 (.reg 6) (.reg 4), none, none⟩, ⟨.mov (.reg 5), (some 10), none⟩])
    (.seq (.draw [0, 1, 2, 3] [(4, [0, 2], []), (5, [], [6, 7, 8]), (9, [], [])] [⟨.load1 (.loc 3), none, none⟩, ⟨.fieldAddr 8 (.loc 6), none, none⟩, ⟨.loadN 5 (.reg 1), none, none⟩, ⟨.mov (.loc 10), none, none⟩, ⟨.call true false 25 [(.reg 3)], none, none⟩, ⟨.call false false 24 [(.reg 0), (.reg 2), (.reg 4)], none, none⟩, ⟨.lit false [(.int .i64 0), (.int .i64 0), (.int .i64 0), (.int .i64 0), (.int .i64 0), (.sl .nil []), (.sl .nil [])] 1 [(0, (.reg 5))], none, none⟩, ⟨.fieldAddr 1 (.loc 9), none, none⟩, ⟨.fieldAddr 6 (.reg 7), none, none⟩, ⟨.store 1 (.reg 8) (.reg 6), none, none⟩])
    (.region [⟨.fieldAddr 1 (.loc 9), none, none⟩, ⟨.loadN 7 (.reg 0), none, none⟩, ⟨.store 7 (.loc 4) (.reg 1), none, none⟩])))))))))
 (.seq (.region [⟨.loadN 7 (.loc 4), none, none⟩, ⟨.store 7 (.loc 5) (.reg 0), none, none⟩])
 .ret)))⟩
theorem c23 : compFunc Tryd.prog opts a23 Tryd.f23 = some t23 := by kernel_rfl
/-- (*pennant/cps.maker).code -/
def a24 : Ann := { slots := [0, 1, 2, 4, 5, 6, 7, 8, 9, 10, 11, 12, 13, 15, 16, 37, 70, 77], lb := [13, 10, 6, 5, 4], mu := [], trunc := [], draws := [(4, ⟨[0, 0, 0, 4, 0, 16, 0, 64, 252, 508, 1020, 2047, 4095], [0, 1, 2, 3, 4, 5, 6, 7, 8], [(9, [], []), (10, [], []), (11, [], []), (12, [], [])]⟩), (7, ⟨[0, 0, 2, 6, 14, 0, 63, 0, 0, 256, 768, 1792, 0, 8191, 16383, 32767], [0, 1, 2, 3, 4, 5, 7, 8, 9, 10, 11, 12], [(6, [9, 11, 12], []), (13, [], [14, 15])]⟩)] }
def t24 : TFunc := ⟨3, 18, [.cell 5 7 true],
 (.seq (.region [⟨.boxL 3 (.loc 1), none, none⟩, ⟨.boxL 4 (.loc 2), none, none⟩, ⟨.allocL 5 [(.int .i64 0), (.int .i64 0), (.int .i64 0), (.int .i64 0), (.int .i64 0), (.sl .nil []), (.sl .nil [])], none, none⟩])
 (.seq (.seq (.region [⟨.fieldAddr 0 (.loc 3), none, none⟩, ⟨.load1 (.reg 0), (some 13), none⟩])
 (.block 0
  (.seq (.region [⟨.bin .eql (.loc 13) (.cst (.int .i64 8)), none, none⟩, ⟨.mov (.reg 0), (some 14), none⟩])
  (.cond (.loc 14)
   (.seq (.region [⟨.mov (.loc 0), none, none⟩, ⟨.fieldAddr 4 (.loc 3), none, none⟩, ⟨.load1 (.reg 1), none, none⟩, ⟨.call false false 45 [(.reg 0), (.reg 2)], none, none⟩, ⟨.mov (.reg 3), none, none⟩, ⟨.extract 0 (.reg 4), none, none⟩, ⟨.extract 1 (.reg 4), none, none⟩, ⟨.mov (.reg 5), (some 6), none⟩, ⟨.mov (.reg 6), (some 7), none⟩])
   (.seq (.draw [0, 1, 2, 3, 4, 5, 6, 7, 8] [(9, [], []), (10, [], []), (11, [], []), (12, [], [])] [⟨.mov (.loc 0), none, none⟩, ⟨.mov (.loc 6), none, none⟩, ⟨.mov (.loc 7), none, none⟩, ⟨.slice (.sl 2) (.reg 2) none (some (.cst (.int .i64 1))) none, none, none⟩, ⟨.loadN 2 (.loc 4), none, none⟩, ⟨.lit false [(.int .i64 0), (.int .i64 0)] 1 [(0, (.reg 4))], none, none⟩, ⟨.mov (.loc 7), none, none⟩, ⟨.slice (.sl 2) (.reg 6) (some (.cst (.int .i64 1))) none none, none, none⟩, ⟨.lit false [(.sl .nil [])] 3 [(0, (.reg 3)), (1, (.reg 5)), (2, (.reg 7))], none, none⟩, ⟨.call true false 47 [(.reg 8)], none, none⟩, ⟨.call false false 46 [(.reg 9)], none, none⟩, ⟨.call false false 23 [(.reg 0), (.reg 1), (.reg 10)], none, none⟩, ⟨.store 7 (.loc 5) (.reg 11), none, none⟩])
   .ret))
   (.seq (.region [⟨.bin .eql (.loc 13) (.cst (.int .i64 6)), none, none⟩, ⟨.mov (.reg 0), (some 15), none⟩])
   (.cond (.loc 15)
    (.seq (.region [⟨.mov (.loc 0), none, none⟩, ⟨.fieldAddr 4 (.loc 3), none, none⟩, ⟨.load1 (.reg 1), none, none⟩, ⟨.indexAddrS 5 (.reg 2) (.cst (.int .i64 0)), none, none⟩, ⟨.loadN 5 (.reg 3), none, none⟩, ⟨.call false false 48 [(.reg 0), (.reg 4)], none, none⟩, ⟨.mov (.reg 5), none, none⟩, ⟨.extract 0 (.reg 6), none, none⟩, ⟨.extract 1 (.reg 6), none, none⟩, ⟨.allocL 9 [(.int .i64 0), (.int .i64 0)], none, none⟩, ⟨.mov (.reg 7), (some 8), none⟩, ⟨.store 2 (.reg 9) (.reg 8), none, none⟩])
    (.seq (.draw [0, 1, 2, 3, 4, 5, 7, 8, 9, 10, 11, 12] [(6, [9, 11, 12], []), (13, [], [14, 15])] [⟨.mov (.loc 0), none, none⟩, ⟨.fieldAddr 4 (.loc 3), none, none⟩, ⟨.load1 (.reg 1), none, none⟩, ⟨.indexAddrS 5 (.reg 2) (.cst (.int .i64 1)), none, none⟩, ⟨.loadN 5 (.reg 3), none, none⟩, ⟨.loadN 2 (.loc 4), none, none⟩, ⟨.call false false 24 [(.reg 0), (.reg 4), (.reg 5)], none, none⟩, ⟨.mov (.loc 0), none, none⟩, ⟨.fieldAddr 4 (.loc 3), none, none⟩, ⟨.load1 (.reg 8), none, none⟩, ⟨.indexAddrS 5 (.reg 9) (.cst (.int .i64 2)), none, none⟩, ⟨.loadN 5 (.reg 10), none, none⟩, ⟨.loadN 2 (.loc 4), none, none⟩, ⟨.call false false 24 [(.reg 7), (.reg 11), (.reg 12)], none, none⟩, ⟨.lit false [(.int .i64 0), (.int .i64 0), (.int .i64 0), (.int .i64 0), (.int .i64 0), (.sl .nil []), (.sl .nil [])] 2 [(0, (.reg 6)), (1, (.reg 13))], none, none⟩, ⟨.mov (.reg 14), (some 10), none⟩])
    (.seq (.region [⟨.mov (.loc 0), none, none⟩, ⟨.mov (.loc 8), none, none⟩, ⟨.loadN 2 (.loc 9), none, none⟩, ⟨.lit false [(.int .i64 0), (.int .i64 0)] 1 [(0, (.reg 2))], none, none⟩, ⟨.mov (.loc 10), none, none⟩, ⟨.build [(.int .i64 0), (.int .i64 0), (.int .i64 0), (.int .i64 0), (.int .i64 0), (.sl .nil []), (.sl .nil [])] [(0, 1, (.cst (.int .i64 3))), (5, 1, (.reg 3)), (6, 1, (.reg 4))], none, none⟩, ⟨.call false false 23 [(.reg 0), (.reg 1), (.reg 5)], none, none⟩, ⟨.store 7 (.loc 5) (.reg 6), none, none⟩])
    .ret)))
    (.seq (.region [⟨.bin .eql (.loc 13) (.cst (.int .i64 10)), none, none⟩, ⟨.mov (.reg 0), (some 16), none⟩])
    (.cond (.loc 16)
     (.seq (.region [⟨.mov (.loc 0), none, none⟩, ⟨.fieldAddr 4 (.loc 3), none, none⟩, ⟨.load1 (.reg 1), none, none⟩, ⟨.loadN 2 (.loc 4), none, none⟩, ⟨.call false false 49 [(.reg 0), (.reg 2), (.reg 3)], none, none⟩, ⟨.store 7 (.loc 5) (.reg 4), none, none⟩])
     .ret)
     (.seq (.region [⟨.bin .eql (.loc 13) (.cst (.int .i64 11)), none, none⟩, ⟨.mov (.reg 0), (some 17), none⟩])
     (.cond (.loc 17)
      (.seq (.region [⟨.mov (.loc 0), none, none⟩, ⟨.loadN 5 (.loc 3), none, none⟩, ⟨.loadN 2 (.loc 4), none, none⟩, ⟨.call false false 50 [(.reg 0), (.reg 1), (.reg 2)], none, none⟩, ⟨.store 7 (.loc 5) (.reg 3), none, none⟩])
      .ret)
      .skip))))))))))
 (.seq (.region [⟨.mov (.loc 0), none, none⟩, ⟨.loadN 5 (.loc 3), none, none⟩, ⟨.call false false 48 [(.reg 0), (.reg 1)], none, none⟩, ⟨.mov (.reg 2), none, none⟩, ⟨.extract 0 (.reg 3), none, none⟩, ⟨.extract 1 (.reg 3), none, none⟩, ⟨.allocL 12 [(.int .i64 0), (.int .i64 0)], none, none⟩, ⟨.mov (.reg 4), (some 11), none⟩, ⟨.store 2 (.reg 6) (.reg 5), none, none⟩])
 (.seq (.region [⟨.mov (.loc 0), none, none⟩, ⟨.mov (.loc 11), none, none⟩, ⟨.loadN 2 (.loc 4), none, none⟩, ⟨.loadN 2 (.loc 12), none, none⟩, ⟨.lit false [(.int .i64 0), (.int .i64 0)] 2 [(0, (.reg 2)), (1, (.reg 3))], none, none⟩, ⟨.call false false 46 [(.reg 4)], none, none⟩, ⟨.call false false 23 [(.reg 0), (.reg 1), (.reg 5)], none, none⟩, ⟨.store 7 (.loc 5) (.reg 6), none, none⟩])
 .ret))))⟩
theorem c24 : compFunc Tryd.prog opts a24 Tryd.f24 = some t24 := by kernel_rfl
/-- pennant/cps.of -/
def a25 : Ann := { slots := [0, 2], lb := [2], mu := [], trunc := [], draws := [] }
def t25 : TFunc := ⟨1, 2, [.cell 1 2 true],
 (.seq (.region [⟨.allocL 1 [(.int .i64 0), (.int .i64 0)], none, none⟩])
 (.seq (.region [⟨.mov (.loc 0), none, none⟩, ⟨.build [(.int .i64 0), (.int .i64 0)] [(0, 1, (.cst (.int .i64 1))), (1, 1, (.reg 0))], none, none⟩, ⟨.store 2 (.loc 1) (.reg 1), none, none⟩])
 .ret))⟩
theorem c25 : compFunc Tryd.prog opts a25 Tryd.f25 = some t25 := by kernel_rfl
/-- pennant/datum.May -/
def a34 : Ann := { slots := [0, 1, 2, 4, 10, 17], lb := [1], mu := [], trunc := [], draws := [] }
def t34 : TFunc := ⟨1, 6, [.loc 2],
 (.seq (.region [⟨.boxL 1 (.loc 0), none, none⟩, ⟨.mov (.cst (.bool false)), (some 2), none⟩])
 (.seq (.block 0
  (.loop
   (.seq (.seq (.region [⟨.loadN 5 (.loc 1), none, none⟩, ⟨.call false false 56 [(.reg 0)], (some 3), none⟩])
   (.cond (.loc 3)
    .skip
    (.exit 0)))
   (.block 1
    (.seq (.seq (.region [⟨.fieldAddr 3 (.loc 1), none, none⟩, ⟨.load1 (.reg 0), none, none⟩, ⟨.indexAddrS 5 (.reg 1) (.cst (.int .i64 0)), none, none⟩, ⟨.loadN 5 (.reg 2), none, none⟩, ⟨.call false false 34 [(.reg 3)], none, none⟩, ⟨.un .not (.reg 4), (some 4), none⟩])
    (.cond (.loc 4)
     (.seq (.region [⟨.mov (.cst (.bool false)), (some 2), none⟩])
     .ret)
     .skip))
    (.region [⟨.fieldAddr 3 (.loc 1), none, none⟩, ⟨.load1 (.reg 0), none, none⟩, ⟨.indexAddrS 5 (.reg 1) (.cst (.int .i64 1)), none, none⟩, ⟨.loadN 5 (.reg 2), none, none⟩, ⟨.store 5 (.loc 1) (.reg 3), none, none⟩]))))))
 (.seq (.seq (.region [⟨.fieldAddr 0 (.loc 1), none, none⟩, ⟨.load1 (.reg 0), none, none⟩, ⟨.bin .eql (.reg 1) (.cst (.int .i64 7)), (some 5), none⟩])
 (.cond (.loc 5)
  (.seq (.region [⟨.fieldAddr 3 (.loc 1), none, none⟩, ⟨.load1 (.reg 0), none, none⟩, ⟨.call false false 57 [(.reg 1), (.fn 58)], none, none⟩, ⟨.un .not (.reg 2), none, none⟩, ⟨.mov (.reg 3), (some 2), none⟩])
  .ret)
  .skip))
 (.seq (.region [⟨.fieldAddr 3 (.loc 1), none, none⟩, ⟨.load1 (.reg 0), none, none⟩, ⟨.len .sl (.reg 1), none, none⟩, ⟨.bin .eql (.reg 2) (.cst (.int .i64 0)), none, none⟩, ⟨.mov (.reg 3), none, none⟩, ⟨.loadN 5 (.loc 1), none, (some (4, true))⟩, ⟨.call false false 59 [(.reg 5)], none, (some (4, true))⟩, ⟨.pick (.reg 4) (.reg 6) (.cst (.bool false)), none, none⟩, ⟨.mov (.reg 7), (some 2), none⟩])
 .ret))))⟩
theorem c34 : compFunc Tryd.prog opts a34 Tryd.f34 = some t34 := by kernel_rfl
/-- pennant/core.plain -/
def a35 : Ann := { slots := [0, 1, 2, 11, 17, 29], lb := [1], mu := [], trunc := [], draws := [] }
def t35 : TFunc := ⟨1, 6, [.loc 2],
 (.seq (.region [⟨.boxL 1 (.loc 0), none, none⟩, ⟨.mov (.cst (.bool false)), (some 2), none⟩])
 (.seq (.block 0
  (.loop
   (.seq (.seq (.region [⟨.fieldAddr 0 (.loc 1), none, none⟩, ⟨.load1 (.reg 0), none, none⟩, ⟨.bin .eql (.reg 1) (.cst (.int .i64 6)), none, none⟩, ⟨.mov (.reg 2), none, none⟩, ⟨.fieldAddr 3 (.loc 1), none, (some (3, true))⟩, ⟨.load1 (.reg 4), none, (some (3, true))⟩, ⟨.len .sl (.reg 5), none, (some (3, true))⟩, ⟨.bin .eql (.reg 6) (.cst (.int .i64 2)), none, (some (3, true))⟩, ⟨.pick (.reg 3) (.reg 7) (.cst (.bool false)), (some 3), none⟩])
   (.cond (.loc 3)
    .skip
    (.exit 0)))
   (.block 1
    (.seq (.seq (.region [⟨.fieldAddr 3 (.loc 1), none, none⟩, ⟨.load1 (.reg 0), none, none⟩, ⟨.indexAddrS 5 (.reg 1) (.cst (.int .i64 0)), none, none⟩, ⟨.loadN 5 (.reg 2), none, none⟩, ⟨.call false false 35 [(.reg 3)], none, none⟩, ⟨.un .not (.reg 4), (some 4), none⟩])
    (.cond (.loc 4)
     (.seq (.region [⟨.mov (.cst (.bool false)), (some 2), none⟩])
     .ret)
     .skip))
    (.region [⟨.fieldAddr 3 (.loc 1), none, none⟩, ⟨.load1 (.reg 0), none, none⟩, ⟨.indexAddrS 5 (.reg 1) (.cst (.int .i64 1)), none, none⟩, ⟨.loadN 5 (.reg 2), none, none⟩, ⟨.store 5 (.loc 1) (.reg 3), none, none⟩]))))))
 (.seq (.seq (.region [⟨.fieldAddr 0 (.loc 1), none, none⟩, ⟨.load1 (.reg 0), none, none⟩, ⟨.bin .eql (.reg 1) (.cst (.int .i64 5)), none, none⟩, ⟨.mov (.reg 2), none, none⟩, ⟨.fieldAddr 1 (.loc 1), none, (some (3, true))⟩, ⟨.load1 (.reg 4), none, (some (3, true))⟩, ⟨.bin .neq (.reg 5) (.cst (.int .i64 0)), none, (some (3, true))⟩, ⟨.pick (.reg 3) (.reg 6) (.cst (.bool false)), (some 5), none⟩])
 (.cond (.loc 5)
  (.seq (.region [⟨.mov (.cst (.bool false)), (some 2), none⟩])
  .ret)
  .skip))
 (.seq (.region [⟨.fieldAddr 3 (.loc 1), none, none⟩, ⟨.load1 (.reg 0), none, none⟩, ⟨.call false false 57 [(.reg 1), (.fn 60)], none, none⟩, ⟨.un .not (.reg 2), none, none⟩, ⟨.mov (.reg 3), (some 2), none⟩])
 .ret))))⟩
theorem c35 : compFunc Tryd.prog opts a35 Tryd.f35 = some t35 := by kernel_rfl
/-- (*pennant/core.checker).expr -/
def a36 : Ann := { slots := [0, 1, 2, 4, 6, 8, 10, 11, 13, 14, 17, 23, 24, 25, 26, 36, 52, 61, 87, 89, 90, 91, 92, 101, 105, 106, 107, 108], lb := [10, 4], mu := [], trunc := [], draws := [(14, ⟨[0, 1, 3, 7, 0, 16, 63, 127, 255], [0, 1, 2, 3, 4, 5, 6, 7, 8], []⟩), (16, ⟨[0, 1, 3, 7, 0, 16, 0, 127], [0, 1, 2, 3, 4, 5, 6], [(7, [], [])]⟩), (17, ⟨[0, 1, 3, 7, 15, 31, 63, 127, 255, 511, 1023, 2047, 4095, 511, 8703, 32767, 65535, 131071, 262143], [0, 1, 2, 3, 4, 5, 6, 7, 8, 9, 10, 11, 12, 13, 14, 15, 16, 17, 18], []⟩)] }
def t36 : TFunc := ⟨3, 28, [.loc 4],
 (.seq (.region [⟨.boxL 3 (.loc 1), none, none⟩, ⟨.mov (.cst (.int .i64 0)), (some 4), none⟩])
 (.seq (.block 0
  (.seq (.region [⟨.mov (.loc 2), none, none⟩, ⟨.bin .geq (.reg 0) (.cst (.int .i64 4000)), none, none⟩, ⟨.mov (.reg 1), (some 9), none⟩])
  (.cond (.loc 9)
   (.seq (.region [⟨.mov (.cst (.int .i64 5)), (some 4), none⟩])
   .ret)
   (.seq (.region [⟨.mov (.loc 0), none, none⟩, ⟨.loadN 5 (.loc 3), none, none⟩, ⟨.call false false 61 [(.reg 0), (.reg 1)], none, none⟩, ⟨.un .not (.reg 2), none, none⟩, ⟨.mov (.reg 3), (some 10), none⟩])
   (.cond (.loc 10)
    (.seq (.region [⟨.mov (.cst (.int .i64 4)), (some 4), none⟩])
    .ret)
    .skip)))))
 (.seq (.seq (.region [⟨.fieldAddr 2 (.loc 3), none, none⟩, ⟨.load1 (.reg 0), (some 11), none⟩, ⟨.len .sl (.reg 1), (some 12), none⟩, ⟨.mov (.cst (.int .i64 0)), (some 13), none⟩])
 (.block 1
  (.loop
   (.seq (.region [⟨.bin .lss (.loc 13) (.loc 12), (some 14), none⟩])
   (.seq (.cond (.loc 14)
    .skip
    (.exit 1))
   (.seq (.block 2
    (.seq (.region [⟨.indexAddrS 1 (.loc 11) (.loc 13), none, none⟩, ⟨.load1 (.reg 0), none, none⟩, ⟨.mov (.reg 1), (some 5), none⟩])
    (.seq (.seq (.region [⟨.mov (.loc 0), none, none⟩, ⟨.nilCheck (.reg 0), none, none⟩, ⟨.fieldAddr 8 (.reg 1), none, none⟩, ⟨.load1 (.reg 2), none, none⟩, ⟨.mov (.loc 5), none, none⟩, ⟨.lookup (.leaf .int) (.agg [(.int .i64 0)]) false (.reg 3) (.reg 4), none, none⟩, ⟨.field 0 1 false (.reg 5), none, none⟩, ⟨.bin .gtr (.reg 6) (.cst (.int .i64 0)), (some 15), none⟩])
    (.cond (.loc 15)
     (.seq (.region [⟨.mov (.cst (.int .i64 14)), (some 4), none⟩])
     .ret)
     .skip))
    (.seq (.region [⟨.mov (.loc 0), none, none⟩, ⟨.nilCheck (.reg 0), none, none⟩, ⟨.fieldAddr 8 (.reg 1), none, none⟩, ⟨.load1 (.reg 2), none, none⟩, ⟨.mov (.loc 5), none, none⟩, ⟨.build [(.int .i64 0)] [(0, 1, (.cst (.int .i64 1)))], none, none⟩, ⟨.update (.leaf .int) (.reg 3) (.reg 4) (.reg 5), none, none⟩])
    (.region [⟨.mov (.loc 0), none, none⟩, ⟨.nilCheck (.reg 0), none, none⟩, ⟨.fieldAddr 10 (.reg 1), none, none⟩, ⟨.load1 (.reg 2), none, none⟩, ⟨.mov (.loc 5), none, none⟩, ⟨.build [(.int .i64 0)] [(0, 1, (.cst (.int .i64 1)))], none, none⟩, ⟨.update (.leaf .int) (.reg 3) (.reg 4) (.reg 5), none, none⟩])))))
   (.region [⟨.bin .add (.loc 13) (.cst (.int .i64 1)), none, none⟩, ⟨.mov (.reg 0), (some 13), none⟩])))))))
 (.seq (.seq (.region [⟨.fieldAddr 0 (.loc 3), none, none⟩, ⟨.load1 (.reg 0), none, none⟩, ⟨.bin .eql (.reg 1) (.cst (.int .i64 1)), (some 16), none⟩])
 (.cond (.loc 16)
  (.seq (.seq (.draw [0, 1, 2, 3, 4, 5, 6, 7, 8] [] [⟨.mov (.loc 0), none, none⟩, ⟨.nilCheck (.reg 0), none, none⟩, ⟨.fieldAddr 9 (.reg 1), none, none⟩, ⟨.load1 (.reg 2), none, none⟩, ⟨.fieldAddr 1 (.loc 3), none, none⟩, ⟨.load1 (.reg 4), none, none⟩, ⟨.lookup (.leaf .int) (.agg [(.int .i64 0)]) false (.reg 3) (.reg 5), none, none⟩, ⟨.field 0 1 false (.reg 6), none, none⟩, ⟨.bin .gtr (.reg 7) (.cst (.int .i64 0)), (some 17), none⟩])
  (.cond (.loc 17)
   (.seq (.region [⟨.mov (.cst (.int .i64 14)), (some 4), none⟩])
   .ret)
   .skip))
  (.draw [0, 1, 2, 3, 4, 5, 6] [(7, [], [])] [⟨.mov (.loc 0), none, none⟩, ⟨.nilCheck (.reg 0), none, none⟩, ⟨.fieldAddr 9 (.reg 1), none, none⟩, ⟨.load1 (.reg 2), none, none⟩, ⟨.fieldAddr 1 (.loc 3), none, none⟩, ⟨.load1 (.reg 4), none, none⟩, ⟨.build [(.int .i64 0)] [(0, 1, (.cst (.int .i64 1)))], none, none⟩, ⟨.update (.leaf .int) (.reg 3) (.reg 5) (.reg 6), none, none⟩]))
  .skip))
 (.seq (.seq (.draw [0, 1, 2, 3, 4, 5, 6, 7, 8, 9, 10, 11, 12, 13, 14, 15, 16, 17, 18] [] [⟨.fieldAddr 0 (.loc 3), none, none⟩, ⟨.load1 (.reg 0), none, none⟩, ⟨.bin .eql (.reg 1) (.cst (.int .i64 2)), none, none⟩, ⟨.mov (.reg 2), none, none⟩, ⟨.fieldAddr 0 (.loc 3), none, (some (3, false))⟩, ⟨.load1 (.reg 4), none, (some (3, false))⟩, ⟨.bin .eql (.reg 5) (.cst (.int .i64 4)), none, (some (3, false))⟩, ⟨.pick (.reg 3) (.cst (.bool true)) (.reg 6), none, none⟩, ⟨.mov (.reg 7), none, none⟩, ⟨.mov (.loc 0), none, (some (8, true))⟩, ⟨.nilCheck (.reg 9), none, (some (8, true))⟩, ⟨.fieldAddr 10 (.reg 10), none, (some (8, true))⟩, ⟨.load1 (.reg 11), none, (some (8, true))⟩, ⟨.fieldAddr 1 (.loc 3), none, (some (8, true))⟩, ⟨.load1 (.reg 13), none, (some (8, true))⟩, ⟨.lookup (.leaf .int) (.agg [(.int .i64 0)]) false (.reg 12) (.reg 14), none, (some (8, true))⟩, ⟨.field 0 1 false (.reg 15), none, (some (8, true))⟩, ⟨.bin .eql (.reg 16) (.cst (.int .i64 0)), none, (some (8, true))⟩, ⟨.pick (.reg 8) (.reg 17) (.cst (.bool false)), (some 18), none⟩])
 (.cond (.loc 18)
  (.seq (.region [⟨.mov (.cst (.int .i64 6)), (some 4), none⟩])
  .ret)
  .skip))
 (.seq (.seq (.region [⟨.fieldAddr 4 (.loc 3), none, none⟩, ⟨.load1 (.reg 0), (some 19), none⟩, ⟨.len .sl (.reg 1), (some 20), none⟩, ⟨.mov (.cst (.int .i64 0)), (some 21), none⟩])
 (.block 3
  (.loop
   (.seq (.region [⟨.bin .lss (.loc 21) (.loc 20), (some 22), none⟩])
   (.seq (.cond (.loc 22)
    .skip
    (.exit 3))
   (.seq (.block 4
    (.seq (.region [⟨.indexAddrS 5 (.loc 19) (.loc 21), none, none⟩, ⟨.loadN 5 (.reg 0), none, none⟩, ⟨.allocL 6 [(.int .i64 0), (.int .i64 0), (.sl .nil []), (.bool false), (.sl .nil [])], none, none⟩, ⟨.store 5 (.reg 2) (.reg 1), none, none⟩])
    (.seq (.region [⟨.mov (.loc 0), none, none⟩, ⟨.loadN 5 (.loc 6), none, none⟩, ⟨.mov (.loc 2), none, none⟩, ⟨.bin .add (.reg 2) (.cst (.int .i64 1)), none, none⟩, ⟨.call false false 36 [(.reg 0), (.reg 1), (.reg 3)], none, none⟩, ⟨.mov (.reg 4), (some 7), none⟩])
    (.seq (.region [⟨.mov (.loc 7), none, none⟩, ⟨.bin .neq (.reg 0) (.cst (.int .i64 0)), (some 23), none⟩])
    (.cond (.loc 23)
     (.seq (.region [⟨.mov (.loc 7), none, none⟩, ⟨.mov (.reg 0), (some 4), none⟩])
     .ret)
     .skip)))))
   (.region [⟨.bin .add (.loc 21) (.cst (.int .i64 1)), none, none⟩, ⟨.mov (.reg 0), (some 21), none⟩])))))))
 (.seq (.seq (.region [⟨.fieldAddr 2 (.loc 3), none, none⟩, ⟨.load1 (.reg 0), (some 24), none⟩, ⟨.len .sl (.reg 1), (some 25), none⟩, ⟨.mov (.cst (.int .i64 0)), (some 26), none⟩])
 (.block 5
  (.loop
   (.seq (.region [⟨.bin .lss (.loc 26) (.loc 25), (some 27), none⟩])
   (.seq (.cond (.loc 27)
    .skip
    (.exit 5))
   (.seq (.block 6
    (.seq (.region [⟨.indexAddrS 1 (.loc 24) (.loc 26), none, none⟩, ⟨.load1 (.reg 0), none, none⟩, ⟨.mov (.reg 1), (some 8), none⟩])
    (.region [⟨.mov (.loc 0), none, none⟩, ⟨.nilCheck (.reg 0), none, none⟩, ⟨.fieldAddr 10 (.reg 1), none, none⟩, ⟨.load1 (.reg 2), none, none⟩, ⟨.mov (.loc 8), none, none⟩, ⟨.build [(.int .i64 0)] [], none, none⟩, ⟨.update (.leaf .int) (.reg 3) (.reg 4) (.reg 5), none, none⟩])))
   (.region [⟨.bin .add (.loc 26) (.cst (.int .i64 1)), none, none⟩, ⟨.mov (.reg 0), (some 26), none⟩])))))))
 (.seq (.region [⟨.mov (.cst (.int .i64 0)), (some 4), none⟩])
 .ret))))))))⟩
theorem c36 : compFunc Tryd.prog opts a36 Tryd.f36 = some t36 := by kernel_rfl
/-- slices.ContainsFunc[[]pennant/api.Expr,pennant/api.Expr] -/
def a43 : Ann := { slots := [0, 1, 4], lb := [], mu := [], trunc := [], draws := [] }
def t43 : TFunc := ⟨2, 3, [.loc 2],
 (.seq (.region [⟨.mov (.cst (.bool false)), (some 2), none⟩])
 (.seq (.region [⟨.mov (.loc 0), none, none⟩, ⟨.mov (.loc 1), none, none⟩, ⟨.call false false 70 [(.reg 0), (.reg 1)], none, none⟩, ⟨.bin .geq (.reg 2) (.cst (.int .i64 0)), none, none⟩, ⟨.mov (.reg 3), (some 2), none⟩])
 .ret))⟩
theorem c43 : compFunc Tryd.prog opts a43 Tryd.f43 = some t43 := by kernel_rfl
/-- slices.Backward[[]pennant/cps.step,pennant/cps.step] -/
def a44 : Ann := { slots := [0, 1, 2], lb := [], mu := [], trunc := [], draws := [] }
def t44 : TFunc := ⟨1, 3, [.loc 2],
 (.seq (.region [⟨.boxH (.loc 0), (some 1), none⟩, ⟨.mov (.cst .nilf), (some 2), none⟩])
 (.seq (.region [⟨.mkFn 71 [] [(.loc 1)], none, none⟩, ⟨.mov (.reg 0), (some 2), none⟩])
 .ret))⟩
theorem c44 : compFunc Tryd.prog opts a44 Tryd.f44 = some t44 := by kernel_rfl
/-- (*pennant/cps.maker).values -/
def a45 : Ann := { slots := [0, 1, 4, 5, 7, 8, 9, 10, 11, 12, 13], lb := [9, 7], mu := [], trunc := [], draws := [(5, ⟨[0, 0, 3, 0, 0, 16, 63, 127, 255], [0, 1, 3, 4, 5], [(2, [4], []), (6, [], [7, 8])]⟩)] }
def t45 : TFunc := ⟨2, 11, [.loc 2, .loc 3],
 (.seq (.region [⟨.mov (.cst (.sl .nil [])), (some 2), none⟩, ⟨.mov (.cst (.sl .nil [])), (some 3), none⟩])
 (.seq (.seq (.region [⟨.mov (.loc 1), (some 7), none⟩, ⟨.len .sl (.reg 0), (some 8), none⟩, ⟨.mov (.cst (.int .i64 0)), (some 9), none⟩])
 (.block 0
  (.loop
   (.seq (.region [⟨.bin .lss (.loc 9) (.loc 8), (some 10), none⟩])
   (.seq (.cond (.loc 10)
    .skip
    (.exit 0))
   (.seq (.block 1
    (.seq (.region [⟨.indexAddrS 5 (.loc 7) (.loc 9), none, none⟩, ⟨.loadN 5 (.reg 0), none, none⟩, ⟨.allocL 4 [(.int .i64 0), (.int .i64 0), (.sl .nil []), (.bool false), (.sl .nil [])], none, none⟩, ⟨.store 5 (.reg 2) (.reg 1), none, none⟩])
    (.seq (.region [⟨.mov (.loc 0), none, none⟩, ⟨.loadN 5 (.loc 4), none, none⟩, ⟨.call false false 48 [(.reg 0), (.reg 1)], none, none⟩, ⟨.mov (.reg 2), none, none⟩, ⟨.extract 0 (.reg 3), none, none⟩, ⟨.extract 1 (.reg 3), none, none⟩, ⟨.allocL 6 [(.int .i64 0), (.int .i64 0)], none, none⟩, ⟨.mov (.reg 4), (some 5), none⟩, ⟨.store 2 (.reg 6) (.reg 5), none, none⟩])
    (.draw [0, 1, 3, 4, 5] [(2, [4], []), (6, [], [7, 8])] [⟨.mov (.loc 2), none, none⟩, ⟨.mov (.loc 5), none, none⟩, ⟨.append false 14 176 (.reg 0) (.reg 1), none, none⟩, ⟨.mov (.loc 3), none, none⟩, ⟨.loadN 2 (.loc 6), none, none⟩, ⟨.lit false [(.int .i64 0), (.int .i64 0)] 1 [(0, (.reg 4))], none, none⟩, ⟨.append false 2 16 (.reg 3) (.reg 5), none, none⟩, ⟨.mov (.reg 2), (some 2), none⟩, ⟨.mov (.reg 6), (some 3), none⟩]))))
   (.region [⟨.bin .add (.loc 9) (.cst (.int .i64 1)), none, none⟩, ⟨.mov (.reg 0), (some 9), none⟩])))))))
 (.seq (.region [⟨.mov (.loc 2), none, none⟩, ⟨.mov (.loc 3), none, none⟩, ⟨.mov (.reg 0), (some 2), none⟩, ⟨.mov (.reg 1), (some 3), none⟩])
 .ret)))⟩
theorem c45 : compFunc Tryd.prog opts a45 Tryd.f45 = some t45 := by kernel_rfl
/-- pennant/cps.call -/
def a46 : Ann := { slots := [0, 2], lb := [2], mu := [], trunc := [], draws := [] }
def t46 : TFunc := ⟨1, 2, [.cell 1 7 true],
 (.seq (.region [⟨.allocL 1 [(.int .i64 0), (.int .i64 0), (.int .i64 0), (.int .i64 0), (.int .i64 0), (.sl .nil []), (.sl .nil [])], none, none⟩])
 (.seq (.region [⟨.mov (.loc 0), none, none⟩, ⟨.build [(.int .i64 0), (.int .i64 0), (.int .i64 0), (.int .i64 0), (.int .i64 0), (.sl .nil []), (.sl .nil [])] [(0, 1, (.cst (.int .i64 4))), (5, 1, (.reg 0))], none, none⟩, ⟨.store 7 (.loc 1) (.reg 1), none, none⟩])
 .ret))⟩
theorem c46 : compFunc Tryd.prog opts a46 Tryd.f46 = some t46 := by kernel_rfl
/-- slices.Concat[[]pennant/api.Atom,pennant/api.Atom] -/
def a47 : Ann := { slots := [0, 2, 3, 5, 6, 8, 9, 10, 11, 12, 20, 25, 26, 27, 28], lb := [], mu := [], trunc := [], draws := [] }
def t47 : TFunc := ⟨1, 15, [.loc 1],
 (.seq (.region [⟨.mov (.cst (.sl .nil [])), (some 1), none⟩])
 (.seq (.region [⟨.mov (.cst (.int .i64 0)), (some 2), none⟩])
 (.seq (.seq (.region [⟨.mov (.loc 0), (some 6), none⟩, ⟨.len .sl (.reg 0), (some 7), none⟩, ⟨.mov (.cst (.int .i64 0)), (some 8), none⟩])
 (.block 0
  (.loop
   (.seq (.region [⟨.bin .lss (.loc 8) (.loc 7), (some 9), none⟩])
   (.seq (.cond (.loc 9)
    .skip
    (.exit 0))
   (.seq (.block 1
    (.seq (.region [⟨.indexAddrS 1 (.loc 6) (.loc 8), none, none⟩, ⟨.load1 (.reg 0), none, none⟩, ⟨.mov (.reg 1), (some 3), none⟩])
    (.seq (.region [⟨.mov (.loc 2), none, none⟩, ⟨.mov (.loc 3), none, none⟩, ⟨.len .sl (.reg 1), none, none⟩, ⟨.bin .add (.reg 0) (.reg 2), none, none⟩, ⟨.mov (.reg 3), (some 2), none⟩])
    (.seq (.region [⟨.mov (.loc 2), none, none⟩, ⟨.bin .lss (.reg 0) (.cst (.int .i64 0)), (some 10), none⟩])
    (.cond (.loc 10)
     (.region [⟨.bad, none, none⟩, ⟨.bad, none, none⟩])
     .skip)))))
   (.region [⟨.bin .add (.loc 8) (.cst (.int .i64 1)), none, none⟩, ⟨.mov (.reg 0), (some 8), none⟩])))))))
 (.seq (.region [⟨.mov (.loc 2), none, none⟩, ⟨.call false false 72 [(.cst (.sl .nil [])), (.reg 0)], none, none⟩, ⟨.mov (.reg 1), (some 4), none⟩])
 (.seq (.seq (.region [⟨.mov (.loc 0), (some 11), none⟩, ⟨.len .sl (.reg 0), (some 12), none⟩, ⟨.mov (.cst (.int .i64 0)), (some 13), none⟩])
 (.block 2
  (.loop
   (.seq (.region [⟨.bin .lss (.loc 13) (.loc 12), (some 14), none⟩])
   (.seq (.cond (.loc 14)
    .skip
    (.exit 2))
   (.seq (.block 3
    (.seq (.region [⟨.indexAddrS 1 (.loc 11) (.loc 13), none, none⟩, ⟨.load1 (.reg 0), none, none⟩, ⟨.mov (.reg 1), (some 5), none⟩])
    (.region [⟨.mov (.loc 4), none, none⟩, ⟨.mov (.loc 5), none, none⟩, ⟨.append false 2 16 (.reg 0) (.reg 1), none, none⟩, ⟨.mov (.reg 2), (some 4), none⟩])))
   (.region [⟨.bin .add (.loc 13) (.cst (.int .i64 1)), none, none⟩, ⟨.mov (.reg 0), (some 13), none⟩])))))))
 (.seq (.region [⟨.mov (.loc 4), none, none⟩, ⟨.mov (.reg 0), (some 1), none⟩])
 .ret))))))⟩
theorem c47 : compFunc Tryd.prog opts a47 Tryd.f47 = some t47 := by kernel_rfl
/-- (*pennant/cps.maker).value -/
def a48 : Ann := { slots := [0, 1, 3, 4, 5, 6, 7, 8, 9, 10, 11, 12, 13, 14, 16, 17, 22, 27, 41, 46, 66], lb := [6, 5, 3], mu := [], trunc := [], draws := [(3, ⟨[0, 1, 3, 0, 15], [0, 1, 2, 3], [(4, [], [])]⟩), (8, ⟨[0, 1, 0, 4, 15, 31], [0, 1, 2], [(3, [0], [4]), (5, [], [])]⟩), (12, ⟨[0, 0, 0, 4, 12, 30, 62, 1, 255], [0, 1, 2, 3, 4, 5, 6, 7], [(8, [], [])]⟩)] }
def t48 : TFunc := ⟨2, 21, [.loc 3, .cell 4 2 true],
 (.seq (.region [⟨.boxL 2 (.loc 1), none, none⟩, ⟨.mov (.cst (.sl .nil [])), (some 3), none⟩, ⟨.allocL 4 [(.int .i64 0), (.int .i64 0)], none, none⟩])
 (.seq (.seq (.region [⟨.fieldAddr 0 (.loc 2), none, none⟩, ⟨.load1 (.reg 0), (some 14), none⟩])
 (.block 0
  (.seq (.region [⟨.bin .eql (.loc 14) (.cst (.int .i64 1)), none, none⟩, ⟨.mov (.reg 0), (some 15), none⟩])
  (.cond (.loc 15)
   (.seq (.draw [0, 1, 2, 3] [(4, [], [])] [⟨.fieldAddr 1 (.loc 2), none, none⟩, ⟨.load1 (.reg 0), none, none⟩, ⟨.build [(.int .i64 0), (.int .i64 0)] [(0, 1, (.cst (.int .i64 2))), (1, 1, (.reg 1))], none, none⟩, ⟨.mov (.cst (.sl .nil [])), (some 3), none⟩, ⟨.store 2 (.loc 4) (.reg 2), none, none⟩])
   .ret)
   (.seq (.region [⟨.bin .eql (.loc 14) (.cst (.int .i64 2)), none, none⟩, ⟨.mov (.reg 0), (some 16), none⟩])
   (.cond (.loc 16)
    (.seq (.region [⟨.fieldAddr 1 (.loc 2), none, none⟩, ⟨.load1 (.reg 0), none, none⟩, ⟨.call true false 25 [(.reg 1)], none, none⟩, ⟨.mov (.cst (.sl .nil [])), (some 3), none⟩, ⟨.store 2 (.loc 4) (.reg 2), none, none⟩])
    .ret)
    (.seq (.region [⟨.bin .eql (.loc 14) (.cst (.int .i64 7)), none, none⟩, ⟨.mov (.reg 0), (some 17), none⟩])
    (.cond (.loc 17)
     (.seq (.region [⟨.mov (.loc 0), none, none⟩, ⟨.mov (.loc 0), none, none⟩, ⟨.loadN 5 (.loc 2), none, none⟩, ⟨.call false false 73 [(.reg 1), (.reg 2)], none, none⟩, ⟨.call false false 22 [(.reg 0), (.reg 3)], none, none⟩, ⟨.mov (.reg 4), none, none⟩, ⟨.extract 0 (.reg 5), none, none⟩, ⟨.extract 1 (.reg 5), none, none⟩, ⟨.allocL 5 [(.int .i64 0), (.int .i64 0), (.int .i64 0), (.int .i64 0), (.int .i64 0), (.int .i64 0), (.sl .nil []), (.sl .nil []), (.int .i64 0), (.int .i64 0), (.sl .nil []), (.bool false), (.sl .nil []), (.int .i64 0)], none, none⟩, ⟨.store 14 (.reg 8) (.reg 6), none, none⟩, ⟨.mov (.reg 7), (some 6), none⟩])
     (.seq (.draw [0, 1, 2] [(3, [0], [4]), (5, [], [])] [⟨.loadN 14 (.loc 5), none, none⟩, ⟨.lit false [(.int .i64 0), (.int .i64 0), (.int .i64 0), (.int .i64 0), (.int .i64 0), (.int .i64 0), (.sl .nil []), (.sl .nil []), (.int .i64 0), (.int .i64 0), (.sl .nil []), (.bool false), (.sl .nil []), (.int .i64 0)] 1 [(0, (.reg 0))], none, none⟩, ⟨.mov (.loc 6), none, none⟩, ⟨.call true false 25 [(.reg 2)], none, none⟩, ⟨.mov (.reg 1), (some 3), none⟩, ⟨.store 2 (.loc 4) (.reg 3), none, none⟩])
     .ret))
     (.seq (.region [⟨.bin .eql (.loc 14) (.cst (.int .i64 10)), none, none⟩, ⟨.mov (.reg 0), (some 18), none⟩])
     (.cond (.loc 18)
      (.seq (.seq (.region [⟨.fieldAddr 4 (.loc 2), none, none⟩, ⟨.load1 (.reg 0), none, none⟩, ⟨.len .sl (.reg 1), none, none⟩, ⟨.bin .leq (.reg 2) (.cst (.int .i64 64)), (some 19), none⟩])
      (.cond (.loc 19)
       (.seq (.region [⟨.mov (.loc 0), none, none⟩, ⟨.fieldAddr 4 (.loc 2), none, none⟩, ⟨.load1 (.reg 1), none, none⟩, ⟨.call false false 45 [(.reg 0), (.reg 2)], none, none⟩, ⟨.mov (.reg 3), none, none⟩, ⟨.extract 0 (.reg 4), none, none⟩, ⟨.extract 1 (.reg 4), none, none⟩, ⟨.mov (.reg 5), (some 7), none⟩, ⟨.mov (.reg 6), (some 8), none⟩])
       (.seq (.draw [0, 1, 2, 3, 4, 5, 6, 7] [(8, [], [])] [⟨.mov (.loc 7), none, none⟩, ⟨.mov (.loc 8), none, none⟩, ⟨.mov (.loc 8), none, none⟩, ⟨.len .sl (.reg 2), none, none⟩, ⟨.bin .sub (.reg 3) (.cst (.int .i64 1)), none, none⟩, ⟨.indexAddrS 2 (.reg 1) (.reg 4), none, none⟩, ⟨.loadN 2 (.reg 5), none, none⟩, ⟨.mov (.reg 0), (some 3), none⟩, ⟨.store 2 (.loc 4) (.reg 6), none, none⟩])
       .ret))
       .skip))
      (.seq (.region [⟨.mov (.loc 0), none, none⟩, ⟨.loadN 5 (.loc 2), none, none⟩, ⟨.call false false 74 [(.reg 0), (.reg 1)], none, none⟩, ⟨.extract 0 (.reg 2), none, none⟩, ⟨.extract 1 (.reg 2), none, none⟩, ⟨.mov (.reg 3), (some 3), none⟩, ⟨.store 2 (.loc 4) (.reg 4), none, none⟩])
      .ret))
      (.seq (.seq (.region [⟨.bin .eql (.loc 14) (.cst (.int .i64 8)), none, none⟩, ⟨.mov (.reg 0), (some 20), none⟩])
      (.cond (.loc 20)
       .skip
       (.seq (.region [⟨.bin .eql (.loc 14) (.cst (.int .i64 6)), none, none⟩, ⟨.mov (.reg 0), (some 20), none⟩])
       (.cond (.loc 20)
        .skip
        (.region [⟨.bin .eql (.loc 14) (.cst (.int .i64 11)), none, none⟩, ⟨.mov (.reg 0), (some 20), none⟩])))))
      (.cond (.loc 20)
       (.seq (.region [⟨.mov (.loc 0), none, none⟩, ⟨.loadN 5 (.loc 2), none, none⟩, ⟨.call false false 74 [(.reg 0), (.reg 1)], none, none⟩, ⟨.extract 0 (.reg 2), none, none⟩, ⟨.extract 1 (.reg 2), none, none⟩, ⟨.mov (.reg 3), (some 3), none⟩, ⟨.store 2 (.loc 4) (.reg 4), none, none⟩])
       .ret)
       .skip))))))))))))
 (.seq (.region [⟨.mov (.loc 0), none, none⟩, ⟨.fieldAddr 4 (.loc 2), none, none⟩, ⟨.load1 (.reg 1), none, none⟩, ⟨.call false false 45 [(.reg 0), (.reg 2)], none, none⟩, ⟨.mov (.reg 3), none, none⟩, ⟨.extract 0 (.reg 4), none, none⟩, ⟨.extract 1 (.reg 4), none, none⟩, ⟨.mov (.reg 5), (some 9), none⟩, ⟨.mov (.reg 6), (some 10), none⟩])
 (.seq (.region [⟨.loadN 5 (.loc 2), none, none⟩, ⟨.call false false 75 [(.reg 0)], none, none⟩, ⟨.mov (.reg 1), none, none⟩, ⟨.extract 0 (.reg 2), none, none⟩, ⟨.extract 1 (.reg 2), none, none⟩, ⟨.mov (.reg 3), (some 11), none⟩, ⟨.mov (.reg 4), (some 12), none⟩])
 (.seq (.region [⟨.mov (.loc 0), none, none⟩, ⟨.call false false 21 [(.reg 0)], none, none⟩, ⟨.mov (.reg 1), (some 13), none⟩])
 (.seq (.region [⟨.mov (.loc 9), none, none⟩, ⟨.mov (.loc 13), none, none⟩, ⟨.mov (.loc 11), none, none⟩, ⟨.mov (.loc 12), none, none⟩, ⟨.mov (.loc 10), none, none⟩, ⟨.build [(.int .i64 0), (.int .i64 0), (.int .i64 0), (.int .i64 0), (.int .i64 0), (.sl .nil []), (.sl .nil [])] [(0, 1, (.cst (.int .i64 1))), (1, 1, (.reg 1)), (2, 1, (.reg 2)), (3, 1, (.reg 3)), (5, 1, (.reg 4))], none, none⟩, ⟨.mov (.loc 13), none, none⟩, ⟨.build [(.int .i64 0), (.int .i64 0), (.int .i64 0), (.int .i64 0), (.int .i64 0), (.int .i64 0), (.sl .nil []), (.sl .nil []), (.int .i64 0), (.int .i64 0), (.sl .nil []), (.bool false), (.sl .nil []), (.int .i64 0)] [(1, 7, (.reg 5)), (13, 1, (.reg 6))], none, none⟩, ⟨.lit false [(.int .i64 0), (.int .i64 0), (.int .i64 0), (.int .i64 0), (.int .i64 0), (.int .i64 0), (.sl .nil []), (.sl .nil []), (.int .i64 0), (.int .i64 0), (.sl .nil []), (.bool false), (.sl .nil []), (.int .i64 0)] 1 [(0, (.reg 7))], none, none⟩, ⟨.append false 14 176 (.reg 0) (.reg 8), none, none⟩, ⟨.mov (.loc 13), none, none⟩, ⟨.call true false 25 [(.reg 10)], none, none⟩, ⟨.mov (.reg 9), (some 3), none⟩, ⟨.store 2 (.loc 4) (.reg 11), none, none⟩])
 .ret))))))⟩
theorem c48 : compFunc Tryd.prog opts a48 Tryd.f48 = some t48 := by kernel_rfl
/-- (*pennant/cps.maker).sequence -/
def a49 : Ann := { slots := [0, 1, 2, 3, 4, 5, 6, 7, 8, 9, 10, 12, 14, 15, 16, 17, 23, 57, 58, 59], lb := [6, 5], mu := [], trunc := [], draws := [(7, ⟨[0, 0, 0, 0, 8, 24, 62, 127, 255, 511, 511, 1023, 4095], [0, 1, 2, 3, 4, 5, 6], [(7, [], [8, 9, 10, 11, 12])]⟩), (8, ⟨[0, 0, 0, 0, 0, 16, 48, 120, 248, 0, 1020, 2047, 0, 8191], [0, 1, 2, 3, 4, 5, 6, 7, 8, 9, 12], [(10, [0], []), (11, [], []), (13, [], [])]⟩), (11, ⟨[0, 0, 0, 4, 12, 0, 60, 126, 255, 511, 1023, 1023, 0, 6143, 16383], [0, 1, 2, 5, 12], [(3, [0, 1, 5], [4, 6]), (7, [0], []), (8, [], [9, 10, 11]), (13, [], [14])]⟩), (12, ⟨[0, 0, 0, 0, 8, 30, 63, 127, 255, 255, 511, 2047], [0, 1, 2, 3, 4, 5], [(6, [], [7, 8, 9, 10, 11])]⟩), (13, ⟨[0, 0, 2, 0, 14, 0, 62, 126, 254, 511, 1023], [0, 1, 2, 3, 5], [(4, [0], []), (6, [0], [7]), (8, [0], []), (9, [], []), (10, [], [])]⟩)] }
def t49 : TFunc := ⟨3, 20, [.cell 6 7 true],
 (.seq (.region [⟨.boxH (.loc 0), (some 3), none⟩, ⟨.boxH (.loc 1), (some 4), none⟩, ⟨.boxL 5 (.loc 2), none, none⟩, ⟨.allocL 6 [(.int .i64 0), (.int .i64 0), (.int .i64 0), (.int .i64 0), (.int .i64 0), (.sl .nil []), (.sl .nil [])], none, none⟩])
 (.seq (.region [⟨.mov (.cst (.sl .nil [])), (some 7), none⟩])
 (.seq (.seq (.region [⟨.mov (.cst (.int .i64 0)), (some 8), none⟩])
 (.block 0
  (.loop
   (.seq (.seq (.region [⟨.load1 (.loc 4), none, none⟩, ⟨.len .sl (.reg 0), none, none⟩, ⟨.mov (.loc 8), none, none⟩, ⟨.bin .sub (.reg 1) (.reg 2), none, none⟩, ⟨.bin .gtr (.reg 3) (.cst (.int .i64 64)), (some 16), none⟩])
   (.cond (.loc 16)
    .skip
    (.exit 0)))
   (.seq (.block 1
    (.region [⟨.mov (.loc 7), none, none⟩, ⟨.mov (.loc 8), none, none⟩, ⟨.lit false [(.int .i64 0)] 1 [(0, (.reg 1))], none, none⟩, ⟨.append false 1 8 (.reg 0) (.reg 2), none, none⟩, ⟨.mov (.reg 3), (some 7), none⟩]))
   (.region [⟨.mov (.loc 8), none, none⟩, ⟨.bin .add (.reg 0) (.cst (.int .i64 64)), none, none⟩, ⟨.mov (.reg 1), (some 8), none⟩]))))))
 (.seq (.region [⟨.mov (.loc 7), none, none⟩, ⟨.len .sl (.reg 0), none, none⟩, ⟨.bin .mul (.cst (.int .i64 64)) (.reg 1), none, none⟩, ⟨.mov (.reg 2), (some 9), none⟩])
 (.seq (.draw [0, 1, 2, 3, 4, 5, 6] [(7, [], [8, 9, 10, 11, 12])] [⟨.load1 (.loc 3), none, none⟩, ⟨.load1 (.loc 4), none, none⟩, ⟨.mov (.loc 9), none, none⟩, ⟨.load1 (.loc 4), none, none⟩, ⟨.len .sl (.reg 3), none, none⟩, ⟨.bin .sub (.reg 4) (.cst (.int .i64 1)), none, none⟩, ⟨.slice (.sl 5) (.reg 1) (some (.reg 2)) (some (.reg 5)) none, none, none⟩, ⟨.call false false 45 [(.reg 0), (.reg 6)], none, none⟩, ⟨.mov (.reg 7), none, none⟩, ⟨.extract 0 (.reg 8), none, none⟩, ⟨.extract 1 (.reg 8), none, none⟩, ⟨.mov (.reg 9), (some 10), none⟩, ⟨.mov (.reg 10), none, none⟩])
 (.seq (.draw [0, 1, 2, 3, 4, 5, 6, 7, 8, 9, 12] [(10, [0], []), (11, [], []), (13, [], [])] [⟨.load1 (.loc 3), none, none⟩, ⟨.mov (.loc 10), none, none⟩, ⟨.load1 (.loc 3), none, none⟩, ⟨.load1 (.loc 4), none, none⟩, ⟨.load1 (.loc 4), none, none⟩, ⟨.len .sl (.reg 4), none, none⟩, ⟨.bin .sub (.reg 5) (.cst (.int .i64 1)), none, none⟩, ⟨.indexAddrS 5 (.reg 3) (.reg 6), none, none⟩, ⟨.loadN 5 (.reg 7), none, none⟩, ⟨.loadN 2 (.loc 5), none, none⟩, ⟨.call false false 24 [(.reg 2), (.reg 8), (.reg 9)], none, none⟩, ⟨.call false false 23 [(.reg 0), (.reg 1), (.reg 10)], none, none⟩, ⟨.allocH [(.int .i64 0), (.int .i64 0), (.int .i64 0), (.int .i64 0), (.int .i64 0), (.sl .nil []), (.sl .nil [])], (some 11), none⟩, ⟨.store 7 (.reg 12) (.reg 11), none, none⟩])
 (.seq (.seq (.region [⟨.mov (.loc 7), none, none⟩, ⟨.call false false 76 [(.reg 0)], (some 17), none⟩])
 (.block 2
  (.rangeFunc (.loc 17) [18, 19]
   (.region [⟨.mov (.loc 19), (some 12), none⟩])
   (.block 3
    (.seq (.draw [0, 1, 2, 5, 12] [(3, [0, 1, 5], [4, 6]), (7, [0], []), (8, [], [9, 10, 11]), (13, [], [14])] [⟨.load1 (.loc 3), none, none⟩, ⟨.load1 (.loc 3), none, none⟩, ⟨.load1 (.loc 3), none, none⟩, ⟨.call false false 21 [(.reg 2)], none, none⟩, ⟨.lit false [(.int .i64 0)] 1 [(0, (.reg 3))], none, none⟩, ⟨.loadN 7 (.loc 11), none, none⟩, ⟨.build [(.sl .nil []), (.bool false), (.bool false), (.sl .nil []), (.int .i64 0), (.int .i64 0), (.int .i64 0), (.int .i64 0), (.int .i64 0), (.sl .nil []), (.sl .nil [])] [(0, 1, (.reg 4)), (1, 1, (.cst (.bool true))), (2, 1, (.cst (.bool true))), (4, 7, (.reg 5))], none, none⟩, ⟨.call false false 20 [(.reg 1), (.reg 6)], none, none⟩, ⟨.call false false 22 [(.reg 0), (.reg 7)], none, none⟩, ⟨.mov (.reg 8), none, none⟩, ⟨.extract 0 (.reg 9), none, none⟩, ⟨.extract 1 (.reg 9), none, none⟩, ⟨.allocH [(.int .i64 0), (.int .i64 0), (.int .i64 0), (.int .i64 0), (.int .i64 0), (.int .i64 0), (.sl .nil []), (.sl .nil []), (.int .i64 0), (.int .i64 0), (.sl .nil []), (.bool false), (.sl .nil []), (.int .i64 0)], (some 13), none⟩, ⟨.store 14 (.reg 12) (.reg 10), none, none⟩, ⟨.mov (.reg 11), (some 14), none⟩])
    (.seq (.draw [0, 1, 2, 3, 4, 5] [(6, [], [7, 8, 9, 10, 11])] [⟨.load1 (.loc 3), none, none⟩, ⟨.load1 (.loc 4), none, none⟩, ⟨.mov (.loc 12), none, none⟩, ⟨.mov (.loc 12), none, none⟩, ⟨.bin .add (.reg 3) (.cst (.int .i64 64)), none, none⟩, ⟨.slice (.sl 5) (.reg 1) (some (.reg 2)) (some (.reg 4)) none, none, none⟩, ⟨.call false false 45 [(.reg 0), (.reg 5)], none, none⟩, ⟨.mov (.reg 6), none, none⟩, ⟨.extract 0 (.reg 7), none, none⟩, ⟨.extract 1 (.reg 7), none, none⟩, ⟨.mov (.reg 8), (some 15), none⟩, ⟨.mov (.reg 9), none, none⟩])
    (.draw [0, 1, 2, 3, 5] [(4, [0], []), (6, [0], [7]), (8, [0], []), (9, [], []), (10, [], [])] [⟨.load1 (.loc 3), none, none⟩, ⟨.loadN 14 (.loc 13), none, none⟩, ⟨.lit false [(.int .i64 0), (.int .i64 0), (.int .i64 0), (.int .i64 0), (.int .i64 0), (.int .i64 0), (.sl .nil []), (.sl .nil []), (.int .i64 0), (.int .i64 0), (.sl .nil []), (.bool false), (.sl .nil []), (.int .i64 0)] 1 [(0, (.reg 1))], none, none⟩, ⟨.mov (.loc 15), none, none⟩, ⟨.append false 14 176 (.reg 2) (.reg 3), none, none⟩, ⟨.mov (.loc 14), none, none⟩, ⟨.call true false 25 [(.reg 5)], none, none⟩, ⟨.lit false [(.int .i64 0), (.int .i64 0)] 1 [(0, (.reg 6))], none, none⟩, ⟨.call false false 46 [(.reg 7)], none, none⟩, ⟨.call false false 23 [(.reg 0), (.reg 4), (.reg 8)], none, none⟩, ⟨.store 7 (.loc 11) (.reg 9), none, none⟩])))))))
 (.seq (.region [⟨.loadN 7 (.loc 11), none, none⟩, ⟨.store 7 (.loc 6) (.reg 0), none, none⟩])
 .ret))))))))⟩
theorem c49 : compFunc Tryd.prog opts a49 Tryd.f49 = some t49 := by kernel_rfl
/-- (*pennant/cps.maker).control -/
def a50 : Ann := { slots := [0, 1, 2, 4, 5, 6, 7, 8, 9, 10, 11, 12, 13, 14, 15, 24, 25, 39], lb := [14, 11, 6, 5, 4], mu := [], trunc := [], draws := [(4, ⟨[0, 0, 0, 4, 12, 0, 0, 64, 192, 508, 1020, 2047, 4095], [0, 1, 2, 3, 4, 5, 6, 7, 8, 9], [(10, [], []), (11, [], []), (12, [], [])]⟩), (7, ⟨[0, 0, 0, 0, 12, 0, 0, 64, 224, 480, 1020, 2046, 4095, 8191, 16383, 16383, 0, 98303, 262143], [0, 1, 2, 3, 4, 5, 6, 16], [(7, [5], [8]), (9, [], [10]), (11, [], []), (12, [], [13, 14, 15]), (17, [], [18])]⟩), (8, ⟨[0, 0, 0, 4, 14, 0, 32, 96, 0, 0, 542, 2046, 4094, 8191, 16383], [0, 1, 2, 3, 5, 6, 7, 8, 9], [(4, [7, 8], []), (10, [7, 8], [11]), (12, [], []), (13, [], []), (14, [], [])]⟩), (10, ⟨[0, 0, 0, 4, 0, 16, 48, 0, 0, 256, 1008, 2032, 4092, 8190, 16383, 32767, 65535, 65535, 0, 393215, 1048575], [0, 1, 2, 3, 4, 5, 6, 7, 8, 18], [(9, [6, 7], [10]), (11, [], [12]), (13, [], []), (14, [], [15, 16, 17]), (19, [], [20])]⟩), (11, ⟨[0, 0, 0, 4, 14, 0, 32, 96, 0, 286, 1022, 2046, 4095, 8191], [0, 1, 2, 3, 5, 6, 7, 8], [(4, [7], []), (9, [7], [10]), (11, [], []), (12, [], []), (13, [], [])]⟩)] }
def t50 : TFunc := ⟨3, 18, [.cell 5 7 true],
 (.seq (.region [⟨.boxL 3 (.loc 1), none, none⟩, ⟨.boxL 4 (.loc 2), none, none⟩, ⟨.allocL 5 [(.int .i64 0), (.int .i64 0), (.int .i64 0), (.int .i64 0), (.int .i64 0), (.sl .nil []), (.sl .nil [])], none, none⟩])
 (.seq (.region [⟨.mov (.loc 0), none, none⟩, ⟨.fieldAddr 4 (.loc 3), none, none⟩, ⟨.load1 (.reg 1), none, none⟩, ⟨.call false false 45 [(.reg 0), (.reg 2)], none, none⟩, ⟨.mov (.reg 3), none, none⟩, ⟨.extract 0 (.reg 4), none, none⟩, ⟨.extract 1 (.reg 4), none, none⟩, ⟨.mov (.reg 5), (some 6), none⟩, ⟨.mov (.reg 6), (some 7), none⟩])
 (.seq (.seq (.region [⟨.fieldAddr 1 (.loc 3), none, none⟩, ⟨.load1 (.reg 0), (some 15), none⟩])
 (.block 0
  (.seq (.region [⟨.bin .eql (.loc 15) (.cst (.int .i64 1)), none, none⟩, ⟨.mov (.reg 0), (some 16), none⟩])
  (.cond (.loc 16)
   (.seq (.draw [0, 1, 2, 3, 4, 5, 6, 7, 8, 9] [(10, [], []), (11, [], []), (12, [], [])] [⟨.mov (.loc 0), none, none⟩, ⟨.mov (.loc 6), none, none⟩, ⟨.mov (.loc 7), none, none⟩, ⟨.indexAddrS 2 (.reg 2) (.cst (.int .i64 0)), none, none⟩, ⟨.loadN 2 (.reg 3), none, none⟩, ⟨.loadN 2 (.loc 4), none, none⟩, ⟨.mov (.loc 7), none, none⟩, ⟨.indexAddrS 2 (.reg 6) (.cst (.int .i64 1)), none, none⟩, ⟨.loadN 2 (.reg 7), none, none⟩, ⟨.lit false [(.int .i64 0), (.int .i64 0)] 3 [(0, (.reg 4)), (1, (.reg 5)), (2, (.reg 8))], none, none⟩, ⟨.call false false 77 [(.reg 9)], none, none⟩, ⟨.call false false 23 [(.reg 0), (.reg 1), (.reg 10)], none, none⟩, ⟨.store 7 (.loc 5) (.reg 11), none, none⟩])
   .ret)
   (.seq (.region [⟨.bin .eql (.loc 15) (.cst (.int .i64 0)), none, none⟩, ⟨.mov (.reg 0), (some 17), none⟩])
   (.cond (.loc 17)
    (.seq (.region [⟨.mov (.loc 0), none, none⟩, ⟨.call false false 21 [(.reg 0)], none, none⟩, ⟨.mov (.loc 0), none, none⟩, ⟨.call false false 21 [(.reg 2)], none, none⟩, ⟨.mov (.reg 1), (some 8), none⟩, ⟨.mov (.reg 3), (some 9), none⟩])
    (.seq (.draw [0, 1, 2, 3, 4, 5, 6, 16] [(7, [5], [8]), (9, [], [10]), (11, [], []), (12, [], [13, 14, 15]), (17, [], [18])] [⟨.mov (.loc 0), none, none⟩, ⟨.mov (.loc 0), none, none⟩, ⟨.mov (.loc 8), none, none⟩, ⟨.mov (.loc 9), none, none⟩, ⟨.lit false [(.int .i64 0)] 2 [(0, (.reg 2)), (1, (.reg 3))], none, none⟩, ⟨.loadN 2 (.loc 4), none, none⟩, ⟨.mov (.loc 9), none, none⟩, ⟨.call true false 25 [(.reg 6)], none, none⟩, ⟨.lit false [(.int .i64 0), (.int .i64 0)] 2 [(0, (.reg 5)), (1, (.reg 7))], none, none⟩, ⟨.call false false 77 [(.reg 8)], none, none⟩, ⟨.build [(.sl .nil []), (.bool false), (.bool false), (.sl .nil []), (.int .i64 0), (.int .i64 0), (.int .i64 0), (.int .i64 0), (.int .i64 0), (.sl .nil []), (.sl .nil [])] [(0, 1, (.reg 4)), (1, 1, (.cst (.bool true))), (4, 7, (.reg 9))], none, none⟩, ⟨.call false false 20 [(.reg 1), (.reg 10)], none, none⟩, ⟨.call false false 22 [(.reg 0), (.reg 11)], none, none⟩, ⟨.mov (.reg 12), none, none⟩, ⟨.extract 0 (.reg 13), none, none⟩, ⟨.extract 1 (.reg 13), none, none⟩, ⟨.allocH [(.int .i64 0), (.int .i64 0), (.int .i64 0), (.int .i64 0), (.int .i64 0), (.int .i64 0), (.sl .nil []), (.sl .nil []), (.int .i64 0), (.int .i64 0), (.sl .nil []), (.bool false), (.sl .nil []), (.int .i64 0)], (some 10), none⟩, ⟨.store 14 (.reg 16) (.reg 14), none, none⟩, ⟨.mov (.reg 15), (some 11), none⟩])
    (.seq (.draw [0, 1, 2, 3, 5, 6, 7, 8, 9] [(4, [7, 8], []), (10, [7, 8], [11]), (12, [], []), (13, [], []), (14, [], [])] [⟨.mov (.loc 0), none, none⟩, ⟨.mov (.loc 6), none, none⟩, ⟨.loadN 14 (.loc 10), none, none⟩, ⟨.lit false [(.int .i64 0), (.int .i64 0), (.int .i64 0), (.int .i64 0), (.int .i64 0), (.int .i64 0), (.sl .nil []), (.sl .nil []), (.int .i64 0), (.int .i64 0), (.sl .nil []), (.bool false), (.sl .nil []), (.int .i64 0)] 1 [(0, (.reg 2))], none, none⟩, ⟨.append false 14 176 (.reg 1) (.reg 3), none, none⟩, ⟨.mov (.loc 7), none, none⟩, ⟨.indexAddrS 2 (.reg 5) (.cst (.int .i64 0)), none, none⟩, ⟨.loadN 2 (.reg 6), none, none⟩, ⟨.loadN 2 (.loc 4), none, none⟩, ⟨.mov (.loc 11), none, none⟩, ⟨.call true false 25 [(.reg 9)], none, none⟩, ⟨.lit false [(.int .i64 0), (.int .i64 0)] 3 [(0, (.reg 7)), (1, (.reg 8)), (2, (.reg 10))], none, none⟩, ⟨.call false false 46 [(.reg 11)], none, none⟩, ⟨.call false false 23 [(.reg 0), (.reg 4), (.reg 12)], none, none⟩, ⟨.store 7 (.loc 5) (.reg 13), none, none⟩])
    .ret)))
    .skip))))))
 (.seq (.region [⟨.mov (.loc 0), none, none⟩, ⟨.call false false 21 [(.reg 0)], none, none⟩, ⟨.mov (.reg 1), (some 12), none⟩])
 (.seq (.draw [0, 1, 2, 3, 4, 5, 6, 7, 8, 18] [(9, [6, 7], [10]), (11, [], [12]), (13, [], []), (14, [], [15, 16, 17]), (19, [], [20])] [⟨.mov (.loc 0), none, none⟩, ⟨.mov (.loc 0), none, none⟩, ⟨.mov (.loc 12), none, none⟩, ⟨.lit false [(.int .i64 0)] 1 [(0, (.reg 2))], none, none⟩, ⟨.mov (.loc 7), none, none⟩, ⟨.indexAddrS 2 (.reg 4) (.cst (.int .i64 1)), none, none⟩, ⟨.loadN 2 (.reg 5), none, none⟩, ⟨.loadN 2 (.loc 4), none, none⟩, ⟨.mov (.loc 12), none, none⟩, ⟨.call true false 25 [(.reg 8)], none, none⟩, ⟨.lit false [(.int .i64 0), (.int .i64 0)] 3 [(0, (.reg 6)), (1, (.reg 7)), (2, (.reg 9))], none, none⟩, ⟨.call false false 77 [(.reg 10)], none, none⟩, ⟨.build [(.sl .nil []), (.bool false), (.bool false), (.sl .nil []), (.int .i64 0), (.int .i64 0), (.int .i64 0), (.int .i64 0), (.int .i64 0), (.sl .nil []), (.sl .nil [])] [(0, 1, (.reg 3)), (1, 1, (.cst (.bool true))), (2, 1, (.cst (.bool true))), (4, 7, (.reg 11))], none, none⟩, ⟨.call false false 20 [(.reg 1), (.reg 12)], none, none⟩, ⟨.call false false 22 [(.reg 0), (.reg 13)], none, none⟩, ⟨.mov (.reg 14), none, none⟩, ⟨.extract 0 (.reg 15), none, none⟩, ⟨.extract 1 (.reg 15), none, none⟩, ⟨.allocH [(.int .i64 0), (.int .i64 0), (.int .i64 0), (.int .i64 0), (.int .i64 0), (.int .i64 0), (.sl .nil []), (.sl .nil []), (.int .i64 0), (.int .i64 0), (.sl .nil []), (.bool false), (.sl .nil []), (.int .i64 0)], (some 13), none⟩, ⟨.store 14 (.reg 18) (.reg 16), none, none⟩, ⟨.mov (.reg 17), (some 14), none⟩])
 (.seq (.draw [0, 1, 2, 3, 5, 6, 7, 8] [(4, [7], []), (9, [7], [10]), (11, [], []), (12, [], []), (13, [], [])] [⟨.mov (.loc 0), none, none⟩, ⟨.mov (.loc 6), none, none⟩, ⟨.loadN 14 (.loc 13), none, none⟩, ⟨.lit false [(.int .i64 0), (.int .i64 0), (.int .i64 0), (.int .i64 0), (.int .i64 0), (.int .i64 0), (.sl .nil []), (.sl .nil []), (.int .i64 0), (.int .i64 0), (.sl .nil []), (.bool false), (.sl .nil []), (.int .i64 0)] 1 [(0, (.reg 2))], none, none⟩, ⟨.append false 14 176 (.reg 1) (.reg 3), none, none⟩, ⟨.mov (.loc 7), none, none⟩, ⟨.indexAddrS 2 (.reg 5) (.cst (.int .i64 0)), none, none⟩, ⟨.loadN 2 (.reg 6), none, none⟩, ⟨.mov (.loc 14), none, none⟩, ⟨.call true false 25 [(.reg 8)], none, none⟩, ⟨.lit false [(.int .i64 0), (.int .i64 0)] 2 [(0, (.reg 7)), (1, (.reg 9))], none, none⟩, ⟨.call false false 46 [(.reg 10)], none, none⟩, ⟨.call false false 23 [(.reg 0), (.reg 4), (.reg 11)], none, none⟩, ⟨.store 7 (.loc 5) (.reg 12), none, none⟩])
 .ret))))))⟩
theorem c50 : compFunc Tryd.prog opts a50 Tryd.f50 = some t50 := by kernel_rfl
/-- pennant/datum.isPair -/
def a56 : Ann := { slots := [0, 1, 2], lb := [1], mu := [], trunc := [], draws := [] }
def t56 : TFunc := ⟨1, 3, [.loc 2],
 (.seq (.region [⟨.boxL 1 (.loc 0), none, none⟩, ⟨.mov (.cst (.bool false)), (some 2), none⟩])
 (.seq (.region [⟨.fieldAddr 0 (.loc 1), none, none⟩, ⟨.load1 (.reg 0), none, none⟩, ⟨.bin .eql (.reg 1) (.cst (.int .i64 6)), none, none⟩, ⟨.mov (.reg 2), none, none⟩, ⟨.fieldAddr 3 (.loc 1), none, (some (3, true))⟩, ⟨.load1 (.reg 4), none, (some (3, true))⟩, ⟨.len .sl (.reg 5), none, (some (3, true))⟩, ⟨.bin .eql (.reg 6) (.cst (.int .i64 2)), none, (some (3, true))⟩, ⟨.pick (.reg 3) (.reg 7) (.cst (.bool false)), none, none⟩, ⟨.mov (.reg 8), (some 2), none⟩])
 .ret))⟩
theorem c56 : compFunc Tryd.prog opts a56 Tryd.f56 = some t56 := by kernel_rfl
/-- slices.ContainsFunc[[]pennant/api.Datum,pennant/api.Datum] -/
def a57 : Ann := { slots := [0, 1, 4], lb := [], mu := [], trunc := [], draws := [] }
def t57 : TFunc := ⟨2, 3, [.loc 2],
 (.seq (.region [⟨.mov (.cst (.bool false)), (some 2), none⟩])
 (.seq (.region [⟨.mov (.loc 0), none, none⟩, ⟨.mov (.loc 1), none, none⟩, ⟨.call false false 84 [(.reg 0), (.reg 1)], none, none⟩, ⟨.bin .geq (.reg 2) (.cst (.int .i64 0)), none, none⟩, ⟨.mov (.reg 3), (some 2), none⟩])
 .ret))⟩
theorem c57 : compFunc Tryd.prog opts a57 Tryd.f57 = some t57 := by kernel_rfl
/-- pennant/datum.May$1 -/
def a58 : Ann := { slots := [0, 1, 2], lb := [1], mu := [], trunc := [], draws := [] }
def t58 : TFunc := ⟨1, 3, [.loc 2],
 (.seq (.region [⟨.boxL 1 (.loc 0), none, none⟩, ⟨.mov (.cst (.bool false)), (some 2), none⟩])
 (.seq (.region [⟨.loadN 5 (.loc 1), none, none⟩, ⟨.call false false 34 [(.reg 0)], none, none⟩, ⟨.un .not (.reg 1), none, none⟩, ⟨.mov (.reg 2), (some 2), none⟩])
 .ret))⟩
theorem c58 : compFunc Tryd.prog opts a58 Tryd.f58 = some t58 := by kernel_rfl
/-- pennant/datum.bare -/
def a59 : Ann := { slots := [0, 1, 2, 4, 6, 7, 12, 22, 27, 32], lb := [1], mu := [], trunc := [], draws := [] }
def t59 : TFunc := ⟨1, 10, [.loc 2],
 (.seq (.region [⟨.boxL 1 (.loc 0), none, none⟩, ⟨.mov (.cst (.bool false)), (some 2), none⟩])
 (.seq (.seq (.region [⟨.fieldAddr 0 (.loc 1), none, none⟩, ⟨.load1 (.reg 0), (some 4), none⟩])
 (.block 0
  (.seq (.seq (.region [⟨.bin .eql (.loc 4) (.cst (.int .i64 0)), none, none⟩, ⟨.mov (.reg 0), (some 5), none⟩])
  (.cond (.loc 5)
   .skip
   (.seq (.region [⟨.bin .eql (.loc 4) (.cst (.int .i64 8)), none, none⟩, ⟨.mov (.reg 0), (some 5), none⟩])
   (.cond (.loc 5)
    .skip
    (.seq (.region [⟨.bin .eql (.loc 4) (.cst (.int .i64 9)), none, none⟩, ⟨.mov (.reg 0), (some 5), none⟩])
    (.cond (.loc 5)
     .skip
     (.region [⟨.bin .eql (.loc 4) (.cst (.int .i64 10)), none, none⟩, ⟨.mov (.reg 0), (some 5), none⟩])))))))
  (.cond (.loc 5)
   (.seq (.region [⟨.mov (.cst (.bool true)), (some 2), none⟩])
   .ret)
   (.seq (.region [⟨.bin .eql (.loc 4) (.cst (.int .i64 1)), none, none⟩, ⟨.mov (.reg 0), (some 6), none⟩])
   (.cond (.loc 6)
    (.seq (.region [⟨.fieldAddr 1 (.loc 1), none, none⟩, ⟨.load1 (.reg 0), none, none⟩, ⟨.bin .eql (.reg 1) (.cst (.int .i64 0)), none, none⟩, ⟨.mov (.reg 2), none, none⟩, ⟨.fieldAddr 1 (.loc 1), none, (some (3, false))⟩, ⟨.load1 (.reg 4), none, (some (3, false))⟩, ⟨.bin .eql (.reg 5) (.cst (.int .i64 1)), none, (some (3, false))⟩, ⟨.pick (.reg 3) (.cst (.bool true)) (.reg 6), none, none⟩, ⟨.mov (.reg 7), (some 2), none⟩])
    .ret)
    (.seq (.region [⟨.bin .eql (.loc 4) (.cst (.int .i64 2)), none, none⟩, ⟨.mov (.reg 0), (some 7), none⟩])
    (.cond (.loc 7)
     (.seq (.region [⟨.fieldAddr 2 (.loc 1), none, none⟩, ⟨.load1 (.reg 0), none, none⟩, ⟨.call true false 85 [(.reg 1)], none, none⟩, ⟨.mov (.reg 2), (some 2), none⟩])
     .ret)
     (.seq (.region [⟨.bin .eql (.loc 4) (.cst (.int .i64 3)), none, none⟩, ⟨.mov (.reg 0), (some 8), none⟩])
     (.cond (.loc 8)
      (.seq (.region [⟨.fieldAddr 1 (.loc 1), none, none⟩, ⟨.load1 (.reg 0), none, none⟩, ⟨.call true false 86 [(.reg 1)], none, none⟩, ⟨.mov (.reg 2), (some 2), none⟩])
      .ret)
      (.seq (.seq (.region [⟨.bin .eql (.loc 4) (.cst (.int .i64 4)), none, none⟩, ⟨.mov (.reg 0), (some 9), none⟩])
      (.cond (.loc 9)
       .skip
       (.region [⟨.bin .eql (.loc 4) (.cst (.int .i64 5)), none, none⟩, ⟨.mov (.reg 0), (some 9), none⟩])))
      (.cond (.loc 9)
       (.seq (.region [⟨.fieldAddr 2 (.loc 1), none, none⟩, ⟨.load1 (.reg 0), none, none⟩, ⟨.call true false 87 [(.reg 1)], none, none⟩, ⟨.mov (.reg 2), none, none⟩, ⟨.extract 0 (.reg 3), none, none⟩, ⟨.extract 1 (.reg 3), none, none⟩, ⟨.mov (.reg 4), none, none⟩, ⟨.mov (.reg 5), (some 3), none⟩])
       (.seq (.region [⟨.mov (.loc 3), none, none⟩, ⟨.bin .eql (.reg 0) (.cst (.int .i64 0)), none, none⟩, ⟨.mov (.reg 1), none, none⟩, ⟨.fieldAddr 0 (.loc 1), none, (some (2, true))⟩, ⟨.load1 (.reg 3), none, (some (2, true))⟩, ⟨.bin .eql (.reg 4) (.cst (.int .i64 4)), none, (some (2, true))⟩, ⟨.mov (.reg 5), none, (some (2, true))⟩, ⟨.fieldAddr 2 (.loc 1), none, (some (6, false))⟩, ⟨.load1 (.reg 7), none, (some (6, false))⟩, ⟨.bin .neq (.reg 8) (.cst (.str [])), none, (some (6, false))⟩, ⟨.pick (.reg 6) (.cst (.bool true)) (.reg 9), none, (some (2, true))⟩, ⟨.pick (.reg 2) (.reg 10) (.cst (.bool false)), none, none⟩, ⟨.mov (.reg 11), (some 2), none⟩])
       .ret))
       .skip))))))))))))
 (.seq (.region [⟨.mov (.cst (.bool false)), (some 2), none⟩])
 .ret)))⟩
theorem c59 : compFunc Tryd.prog opts a59 Tryd.f59 = some t59 := by kernel_rfl
/-- pennant/core.plain$1 -/
def a60 : Ann := { slots := [0, 1, 2], lb := [1], mu := [], trunc := [], draws := [] }
def t60 : TFunc := ⟨1, 3, [.loc 2],
 (.seq (.region [⟨.boxL 1 (.loc 0), none, none⟩, ⟨.mov (.cst (.bool false)), (some 2), none⟩])
 (.seq (.region [⟨.loadN 5 (.loc 1), none, none⟩, ⟨.call false false 35 [(.reg 0)], none, none⟩, ⟨.un .not (.reg 1), none, none⟩, ⟨.mov (.reg 2), (some 2), none⟩])
 .ret))⟩
theorem c60 : compFunc Tryd.prog opts a60 Tryd.f60 = some t60 := by kernel_rfl
/-- (*pennant/core.checker).formed -/
def a61 : Ann := { slots := [0, 1, 2, 3, 4, 5, 6, 7, 8, 73, 75, 76, 88, 100], lb := [5, 3], mu := [], trunc := [], draws := [(8, ⟨[0, 0, 2, 0, 8, 24, 56, 120, 248, 511, 1023], [0, 1, 2, 3, 4, 5, 6, 7, 8], [(9, [], [10])]⟩), (11, ⟨[0, 0, 2, 0, 8, 24, 56, 120, 255, 511], [0, 1, 2, 3, 4, 5, 6, 7], [(8, [], [9])]⟩), (14, ⟨[0, 0, 2, 0, 8, 24, 56, 120, 255, 511], [0, 1, 2, 3, 4, 5, 6, 7], [(8, [], [9])]⟩)] }
def t61 : TFunc := ⟨2, 14, [.loc 4],
 (.seq (.region [⟨.boxH (.loc 0), (some 2), none⟩, ⟨.boxL 3 (.loc 1), none, none⟩, ⟨.mov (.cst (.bool false)), (some 4), none⟩])
 (.seq (.region [⟨.loadN 5 (.loc 3), none, none⟩, ⟨.call false false 88 [(.reg 0)], none, none⟩, ⟨.mov (.reg 1), none, none⟩, ⟨.extract 0 (.reg 2), none, none⟩, ⟨.extract 1 (.reg 2), none, none⟩, ⟨.allocL 5 [(.bool false), (.int .i64 0), (.bool false), (.str [])], none, none⟩, ⟨.store 4 (.reg 5) (.reg 3), none, none⟩, ⟨.mov (.reg 4), (some 6), none⟩])
 (.seq (.region [⟨.fieldAddr 0 (.loc 3), none, none⟩, ⟨.load1 (.reg 0), none, none⟩, ⟨.bin .eql (.reg 1) (.cst (.int .i64 7)), none, none⟩, ⟨.mov (.reg 2), (some 7), none⟩])
 (.seq (.seq (.region [⟨.mov (.loc 6), none, none⟩, ⟨.un .not (.reg 0), none, none⟩, ⟨.mov (.reg 1), none, none⟩, ⟨.fieldAddr 4 (.loc 3), none, (some (2, false))⟩, ⟨.load1 (.reg 3), none, (some (2, false))⟩, ⟨.len .sl (.reg 4), none, (some (2, false))⟩, ⟨.fieldAddr 1 (.loc 5), none, (some (2, false))⟩, ⟨.load1 (.reg 6), none, (some (2, false))⟩, ⟨.bin .lss (.reg 5) (.reg 7), none, (some (2, false))⟩, ⟨.pick (.reg 2) (.cst (.bool true)) (.reg 8), none, none⟩, ⟨.mov (.reg 9), none, none⟩, ⟨.fieldAddr 4 (.loc 3), none, (some (10, false))⟩, ⟨.load1 (.reg 11), none, (some (10, false))⟩, ⟨.len .sl (.reg 12), none, (some (10, false))⟩, ⟨.fieldAddr 1 (.loc 5), none, (some (10, false))⟩, ⟨.load1 (.reg 14), none, (some (10, false))⟩, ⟨.bin .gtr (.reg 13) (.reg 15), none, (some (10, false))⟩, ⟨.mov (.reg 16), none, (some (10, false))⟩, ⟨.fieldAddr 2 (.loc 5), none, (some (17, true))⟩, ⟨.load1 (.reg 18), none, (some (17, true))⟩, ⟨.un .not (.reg 19), none, (some (17, true))⟩, ⟨.pick (.reg 17) (.reg 20) (.cst (.bool false)), none, (some (10, false))⟩, ⟨.pick (.reg 10) (.cst (.bool true)) (.reg 21), none, none⟩, ⟨.mov (.reg 22), none, none⟩, ⟨.fieldAddr 0 (.loc 5), none, (some (23, false))⟩, ⟨.load1 (.reg 24), none, (some (23, false))⟩, ⟨.un .not (.reg 25), none, (some (23, false))⟩, ⟨.mov (.reg 26), none, (some (23, false))⟩, ⟨.fieldAddr 1 (.loc 3), none, (some (27, true))⟩, ⟨.load1 (.reg 28), none, (some (27, true))⟩, ⟨.bin .neq (.reg 29) (.cst (.int .i64 0)), none, (some (27, true))⟩, ⟨.pick (.reg 27) (.reg 30) (.cst (.bool false)), none, (some (23, false))⟩, ⟨.pick (.reg 23) (.cst (.bool true)) (.reg 31), none, none⟩, ⟨.mov (.reg 32), none, none⟩, ⟨.mov (.loc 7), none, (some (33, false))⟩, ⟨.un .not (.reg 34), none, (some (33, false))⟩, ⟨.mov (.reg 35), none, (some (33, false))⟩, ⟨.fieldAddr 2 (.loc 3), none, (some (36, true))⟩, ⟨.load1 (.reg 37), none, (some (36, true))⟩, ⟨.len .sl (.reg 38), none, (some (36, true))⟩, ⟨.bin .gtr (.reg 39) (.cst (.int .i64 0)), none, (some (36, true))⟩, ⟨.mov (.reg 40), none, (some (36, true))⟩, ⟨.fieldAddr 3 (.loc 3), none, (some (41, false))⟩, ⟨.load1 (.reg 42), none, (some (41, false))⟩, ⟨.pick (.reg 41) (.cst (.bool true)) (.reg 43), none, (some (36, true))⟩, ⟨.pick (.reg 36) (.reg 44) (.cst (.bool false)), none, (some (33, false))⟩, ⟨.pick (.reg 33) (.cst (.bool true)) (.reg 45), none, none⟩, ⟨.mov (.reg 46), none, none⟩, ⟨.fieldAddr 3 (.loc 3), none, (some (47, false))⟩, ⟨.load1 (.reg 48), none, (some (47, false))⟩, ⟨.mov (.reg 49), none, (some (47, false))⟩, ⟨.fieldAddr 2 (.loc 3), none, (some (50, true))⟩, ⟨.load1 (.reg 51), none, (some (50, true))⟩, ⟨.len .sl (.reg 52), none, (some (50, true))⟩, ⟨.bin .eql (.reg 53) (.cst (.int .i64 0)), none, (some (50, true))⟩, ⟨.pick (.reg 50) (.reg 54) (.cst (.bool false)), none, (some (47, false))⟩, ⟨.pick (.reg 47) (.cst (.bool true)) (.reg 55), (some 9), none⟩])
 (.cond (.loc 9)
  (.seq (.region [⟨.mov (.cst (.bool false)), (some 4), none⟩])
  .ret)
  .skip))
 (.seq (.region [⟨.allocH [.nilf], (some 8), none⟩, ⟨.store 1 (.reg 0) (.fn 89), none, none⟩])
 (.seq (.seq (.region [⟨.fieldAddr 0 (.loc 3), none, none⟩, ⟨.load1 (.reg 0), (some 10), none⟩])
 (.block 0
  (.seq (.region [⟨.bin .eql (.loc 10) (.cst (.int .i64 1)), none, none⟩, ⟨.mov (.reg 0), (some 11), none⟩])
  (.cond (.loc 11)
   (.seq (.draw [0, 1, 2, 3, 4, 5, 6, 7, 8] [(9, [], [10])] [⟨.load1 (.loc 8), none, none⟩, ⟨.fieldAddr 1 (.loc 3), none, none⟩, ⟨.load1 (.reg 1), none, none⟩, ⟨.load1 (.loc 2), none, none⟩, ⟨.nilCheck (.reg 3), none, none⟩, ⟨.fieldAddr 0 (.reg 4), none, none⟩, ⟨.fieldAddr 7 (.reg 5), none, none⟩, ⟨.load1 (.reg 6), none, none⟩, ⟨.len .sl (.reg 7), none, none⟩, ⟨.callv (.reg 0) [(.reg 2), (.reg 8)], none, none⟩, ⟨.mov (.reg 9), (some 4), none⟩])
   .ret)
   (.seq (.seq (.region [⟨.bin .eql (.loc 10) (.cst (.int .i64 2)), none, none⟩, ⟨.mov (.reg 0), (some 12), none⟩])
   (.cond (.loc 12)
    .skip
    (.region [⟨.bin .eql (.loc 10) (.cst (.int .i64 4)), none, none⟩, ⟨.mov (.reg 0), (some 12), none⟩])))
   (.cond (.loc 12)
    (.seq (.draw [0, 1, 2, 3, 4, 5, 6, 7] [(8, [], [9])] [⟨.load1 (.loc 8), none, none⟩, ⟨.fieldAddr 1 (.loc 3), none, none⟩, ⟨.load1 (.reg 1), none, none⟩, ⟨.load1 (.loc 2), none, none⟩, ⟨.nilCheck (.reg 3), none, none⟩, ⟨.fieldAddr 0 (.reg 4), none, none⟩, ⟨.fieldAddr 6 (.reg 5), none, none⟩, ⟨.load1 (.reg 6), none, none⟩, ⟨.callv (.reg 0) [(.reg 2), (.reg 7)], none, none⟩, ⟨.mov (.reg 8), (some 4), none⟩])
    .ret)
    (.seq (.seq (.region [⟨.bin .eql (.loc 10) (.cst (.int .i64 3)), none, none⟩, ⟨.mov (.reg 0), (some 13), none⟩])
    (.cond (.loc 13)
     .skip
     (.region [⟨.bin .eql (.loc 10) (.cst (.int .i64 5)), none, none⟩, ⟨.mov (.reg 0), (some 13), none⟩])))
    (.cond (.loc 13)
     (.seq (.draw [0, 1, 2, 3, 4, 5, 6, 7] [(8, [], [9])] [⟨.load1 (.loc 8), none, none⟩, ⟨.fieldAddr 1 (.loc 3), none, none⟩, ⟨.load1 (.reg 1), none, none⟩, ⟨.load1 (.loc 2), none, none⟩, ⟨.nilCheck (.reg 3), none, none⟩, ⟨.fieldAddr 0 (.reg 4), none, none⟩, ⟨.fieldAddr 5 (.reg 5), none, none⟩, ⟨.load1 (.reg 6), none, none⟩, ⟨.callv (.reg 0) [(.reg 2), (.reg 7)], none, none⟩, ⟨.mov (.reg 8), (some 4), none⟩])
     .ret)
     .skip))))))))
 (.seq (.region [⟨.fieldAddr 2 (.loc 3), none, none⟩, ⟨.load1 (.reg 0), none, none⟩, ⟨.mkFn 91 [] [(.loc 8), (.loc 2)], none, none⟩, ⟨.call false false 90 [(.reg 1), (.reg 2)], none, none⟩, ⟨.un .not (.reg 3), none, none⟩, ⟨.mov (.reg 4), (some 4), none⟩])
 .ret)))))))⟩
theorem c61 : compFunc Tryd.prog opts a61 Tryd.f61 = some t61 := by kernel_rfl
/-- slices.IndexFunc[[]pennant/api.Expr,pennant/api.Expr] -/
def a70 : Ann := { slots := [0, 1, 4, 5, 7, 8, 9, 16], lb := [], mu := [], trunc := [], draws := [] }
def t70 : TFunc := ⟨2, 8, [.loc 2],
 (.seq (.region [⟨.mov (.cst (.int .i64 0)), (some 2), none⟩])
 (.seq (.seq (.region [⟨.mov (.loc 0), none, none⟩, ⟨.len .sl (.reg 0), (some 4), none⟩, ⟨.mov (.cst (.int .i64 0)), (some 5), none⟩])
 (.block 0
  (.loop
   (.seq (.region [⟨.bin .lss (.loc 5) (.loc 4), (some 6), none⟩])
   (.seq (.cond (.loc 6)
    .skip
    (.exit 0))
   (.seq (.block 1
    (.seq (.region [⟨.mov (.loc 5), none, none⟩, ⟨.mov (.reg 0), (some 3), none⟩])
    (.seq (.region [⟨.mov (.loc 1), none, none⟩, ⟨.mov (.loc 0), none, none⟩, ⟨.mov (.loc 3), none, none⟩, ⟨.indexAddrS 5 (.reg 1) (.reg 2), none, none⟩, ⟨.loadN 5 (.reg 3), none, none⟩, ⟨.callv (.reg 0) [(.reg 4)], (some 7), none⟩])
    (.cond (.loc 7)
     (.seq (.region [⟨.mov (.loc 3), none, none⟩, ⟨.mov (.reg 0), (some 2), none⟩])
     .ret)
     .skip))))
   (.region [⟨.bin .add (.loc 5) (.cst (.int .i64 1)), none, none⟩, ⟨.mov (.reg 0), (some 5), none⟩])))))))
 (.seq (.region [⟨.mov (.cst (.int .i64 (-1))), (some 2), none⟩])
 .ret)))⟩
theorem c70 : compFunc Tryd.prog opts a70 Tryd.f70 = some t70 := by kernel_rfl
/-- slices.Backward[[]pennant/cps.step,pennant/cps.step]$1 -/
def a71 : Ann := { slots := [0, 1, 3, 8, 18], lb := [], mu := [], trunc := [], draws := [] }
def t71 : TFunc := ⟨2, 5, [],
 (.seq (.region [⟨.load1 (.loc 1), none, none⟩, ⟨.len .sl (.reg 0), none, none⟩, ⟨.bin .sub (.reg 1) (.cst (.int .i64 1)), none, none⟩, ⟨.mov (.reg 2), (some 2), none⟩])
 (.block 0
  (.loop
   (.seq (.seq (.region [⟨.mov (.loc 2), none, none⟩, ⟨.bin .geq (.reg 0) (.cst (.int .i64 0)), (some 3), none⟩])
   (.cond (.loc 3)
    .skip
    (.exit 0)))
   (.seq (.block 1
    (.seq (.region [⟨.mov (.loc 0), none, none⟩, ⟨.mov (.loc 2), none, none⟩, ⟨.load1 (.loc 1), none, none⟩, ⟨.mov (.loc 2), none, none⟩, ⟨.indexAddrS 14 (.reg 2) (.reg 3), none, none⟩, ⟨.loadN 14 (.reg 4), none, none⟩, ⟨.callv (.reg 0) [(.reg 1), (.reg 5)], none, none⟩, ⟨.un .not (.reg 6), (some 4), none⟩])
    (.cond (.loc 4)
     .ret
     .skip)))
   (.region [⟨.mov (.loc 2), none, none⟩, ⟨.bin .sub (.reg 0) (.cst (.int .i64 1)), none, none⟩, ⟨.mov (.reg 1), (some 2), none⟩]))))))⟩
theorem c71 : compFunc Tryd.prog opts a71 Tryd.f71 = some t71 := by kernel_rfl
/-- slices.Grow[[]pennant/api.Atom,pennant/api.Atom] -/
def a72 : Ann := { slots := [0, 1, 4, 6, 16], lb := [], mu := [], trunc := [], draws := [] }
def t72 : TFunc := ⟨2, 5, [.loc 2],
 (.seq (.region [⟨.mov (.cst (.sl .nil [])), (some 2), none⟩])
 (.seq (.seq (.region [⟨.mov (.loc 1), none, none⟩, ⟨.bin .lss (.reg 0) (.cst (.int .i64 0)), (some 3), none⟩])
 (.cond (.loc 3)
  (.region [⟨.bad, none, none⟩, ⟨.bad, none, none⟩])
  .skip))
 (.seq (.seq (.region [⟨.mov (.loc 1), none, none⟩, ⟨.mov (.loc 0), none, none⟩, ⟨.cap (.reg 1), none, none⟩, ⟨.mov (.loc 0), none, none⟩, ⟨.len .sl (.reg 3), none, none⟩, ⟨.bin .sub (.reg 2) (.reg 4), none, none⟩, ⟨.bin .sub (.reg 0) (.reg 5), none, none⟩, ⟨.mov (.reg 6), (some 1), none⟩])
 (.seq (.region [⟨.mov (.loc 1), none, none⟩, ⟨.bin .gtr (.reg 0) (.cst (.int .i64 0)), (some 4), none⟩])
 (.cond (.loc 4)
  (.region [⟨.mov (.loc 0), none, none⟩, ⟨.mov (.loc 0), none, none⟩, ⟨.cap (.reg 1), none, none⟩, ⟨.slice (.sl 2) (.reg 0) none (some (.reg 2)) none, none, none⟩, ⟨.mov (.loc 1), none, none⟩, ⟨.grow 2 16 (.reg 3) (.reg 4), none, none⟩, ⟨.mov (.loc 0), none, none⟩, ⟨.len .sl (.reg 6), none, none⟩, ⟨.slice (.sl 2) (.reg 5) none (some (.reg 7)) none, none, none⟩, ⟨.mov (.reg 8), (some 0), none⟩])
  .skip)))
 (.seq (.region [⟨.mov (.loc 0), none, none⟩, ⟨.mov (.reg 0), (some 2), none⟩])
 .ret))))⟩
theorem c72 : compFunc Tryd.prog opts a72 Tryd.f72 = some t72 := by kernel_rfl
/-- (*pennant/cps.maker).lambda -/
def a73 : Ann := { slots := [0, 1, 3, 4, 5], lb := [3], mu := [], trunc := [], draws := [(2, ⟨[0, 0, 2, 0, 8, 30, 0, 64, 0, 0, 512, 1536, 3584, 0, 8254, 32574, 65534, 131071, 262143], [0, 1, 2, 3, 4, 6, 7, 8, 9, 10, 11, 12, 13], [(5, [7, 10, 12], []), (14, [7, 10, 12], []), (15, [7], [16]), (17, [], [18])]⟩)] }
def t73 : TFunc := ⟨2, 5, [.loc 3],
 (.seq (.region [⟨.boxL 2 (.loc 1), none, none⟩, ⟨.mov (.cst (.int .i64 0)), (some 3), none⟩])
 (.seq (.region [⟨.mov (.loc 0), none, none⟩, ⟨.call false false 21 [(.reg 0)], none, none⟩, ⟨.mov (.reg 1), (some 4), none⟩])
 (.seq (.draw [0, 1, 2, 3, 4, 6, 7, 8, 9, 10, 11, 12, 13] [(5, [7, 10, 12], []), (14, [7, 10, 12], []), (15, [7], [16]), (17, [], [18])] [⟨.mov (.loc 0), none, none⟩, ⟨.mov (.loc 4), none, none⟩, ⟨.lit false [(.int .i64 0)] 1 [(0, (.reg 1))], none, none⟩, ⟨.fieldAddr 2 (.loc 2), none, none⟩, ⟨.load1 (.reg 3), none, none⟩, ⟨.append false 1 8 (.reg 2) (.reg 4), none, none⟩, ⟨.fieldAddr 3 (.loc 2), none, none⟩, ⟨.load1 (.reg 6), none, none⟩, ⟨.mov (.loc 0), none, none⟩, ⟨.fieldAddr 4 (.loc 2), none, none⟩, ⟨.load1 (.reg 9), none, none⟩, ⟨.indexAddrS 5 (.reg 10) (.cst (.int .i64 0)), none, none⟩, ⟨.loadN 5 (.reg 11), none, none⟩, ⟨.mov (.loc 4), none, none⟩, ⟨.call true false 25 [(.reg 13)], none, none⟩, ⟨.call false false 24 [(.reg 8), (.reg 12), (.reg 14)], none, none⟩, ⟨.build [(.sl .nil []), (.bool false), (.bool false), (.sl .nil []), (.int .i64 0), (.int .i64 0), (.int .i64 0), (.int .i64 0), (.int .i64 0), (.sl .nil []), (.sl .nil [])] [(0, 1, (.reg 5)), (1, 1, (.reg 7)), (4, 7, (.reg 15))], none, none⟩, ⟨.call false false 20 [(.reg 0), (.reg 16)], none, none⟩, ⟨.mov (.reg 17), (some 3), none⟩])
 .ret)))⟩
theorem c73 : compFunc Tryd.prog opts a73 Tryd.f73 = some t73 := by kernel_rfl
/-- (*pennant/cps.maker).later -/
def a74 : Ann := { slots := [0, 1, 3, 4, 5, 6], lb := [5, 3], mu := [], trunc := [], draws := [(2, ⟨[0, 0, 3, 7, 0, 16, 63, 127], [0, 1, 2, 3, 4], [(5, [0], [6]), (7, [], [])]⟩)] }
def t74 : TFunc := ⟨2, 6, [.loc 3, .cell 4 2 true],
 (.seq (.region [⟨.boxL 2 (.loc 1), none, none⟩, ⟨.mov (.cst (.sl .nil [])), (some 3), none⟩, ⟨.allocL 4 [(.int .i64 0), (.int .i64 0)], none, none⟩])
 (.seq (.region [⟨.mov (.loc 0), none, none⟩, ⟨.call false false 21 [(.reg 0)], none, none⟩, ⟨.mov (.reg 1), (some 5), none⟩])
 (.seq (.draw [0, 1, 2, 3, 4] [(5, [0], [6]), (7, [], [])] [⟨.loadN 5 (.loc 2), none, none⟩, ⟨.mov (.loc 5), none, none⟩, ⟨.build [(.int .i64 0), (.int .i64 0), (.int .i64 0), (.int .i64 0), (.int .i64 0), (.int .i64 0), (.sl .nil []), (.sl .nil []), (.int .i64 0), (.int .i64 0), (.sl .nil []), (.bool false), (.sl .nil []), (.int .i64 0)] [(0, 1, (.cst (.int .i64 1))), (8, 5, (.reg 0)), (13, 1, (.reg 1))], none, none⟩, ⟨.lit false [(.int .i64 0), (.int .i64 0), (.int .i64 0), (.int .i64 0), (.int .i64 0), (.int .i64 0), (.sl .nil []), (.sl .nil []), (.int .i64 0), (.int .i64 0), (.sl .nil []), (.bool false), (.sl .nil []), (.int .i64 0)] 1 [(0, (.reg 2))], none, none⟩, ⟨.mov (.loc 5), none, none⟩, ⟨.call true false 25 [(.reg 4)], none, none⟩, ⟨.mov (.reg 3), (some 3), none⟩, ⟨.store 2 (.loc 4) (.reg 5), none, none⟩])
 .ret)))⟩
theorem c74 : compFunc Tryd.prog opts a74 Tryd.f74 = some t74 := by kernel_rfl
/-- pennant/cps.operation -/
def a75 : Ann := { slots := [0, 1, 2, 3, 5, 6, 8, 10, 12, 16], lb := [1], mu := [], trunc := [], draws := [(9, ⟨[0, 1, 0, 7], [0, 1, 2, 3], []⟩), (11, ⟨[0, 1, 0, 7], [0, 1, 2, 3], []⟩)] }
def t75 : TFunc := ⟨1, 10, [.loc 2, .loc 3],
 (.seq (.region [⟨.boxL 1 (.loc 0), none, none⟩, ⟨.mov (.cst (.int .i64 0)), (some 2), none⟩, ⟨.mov (.cst (.int .i64 0)), (some 3), none⟩])
 (.seq (.seq (.region [⟨.fieldAddr 0 (.loc 1), none, none⟩, ⟨.load1 (.reg 0), (some 4), none⟩])
 (.block 0
  (.seq (.region [⟨.bin .eql (.loc 4) (.cst (.int .i64 12)), none, none⟩, ⟨.mov (.reg 0), (some 5), none⟩])
  (.cond (.loc 5)
   (.seq (.region [⟨.mov (.cst (.int .i64 100)), (some 2), none⟩, ⟨.mov (.cst (.int .i64 0)), (some 3), none⟩])
   .ret)
   (.seq (.region [⟨.bin .eql (.loc 4) (.cst (.int .i64 13)), none, none⟩, ⟨.mov (.reg 0), (some 6), none⟩])
   (.cond (.loc 6)
    (.seq (.region [⟨.mov (.cst (.int .i64 101)), (some 2), none⟩, ⟨.mov (.cst (.int .i64 0)), (some 3), none⟩])
    .ret)
    (.seq (.region [⟨.bin .eql (.loc 4) (.cst (.int .i64 14)), none, none⟩, ⟨.mov (.reg 0), (some 7), none⟩])
    (.cond (.loc 7)
     (.seq (.region [⟨.mov (.cst (.int .i64 102)), (some 2), none⟩, ⟨.mov (.cst (.int .i64 0)), (some 3), none⟩])
     .ret)
     (.seq (.region [⟨.bin .eql (.loc 4) (.cst (.int .i64 3)), none, none⟩, ⟨.mov (.reg 0), (some 8), none⟩])
     (.cond (.loc 8)
      (.seq (.draw [0, 1, 2, 3] [] [⟨.fieldAddr 1 (.loc 1), none, none⟩, ⟨.load1 (.reg 0), none, none⟩, ⟨.mov (.cst (.int .i64 103)), (some 2), none⟩, ⟨.mov (.reg 1), (some 3), none⟩])
      .ret)
      (.seq (.region [⟨.bin .eql (.loc 4) (.cst (.int .i64 5)), none, none⟩, ⟨.mov (.reg 0), (some 9), none⟩])
      (.cond (.loc 9)
       (.seq (.draw [0, 1, 2, 3] [] [⟨.fieldAddr 1 (.loc 1), none, none⟩, ⟨.load1 (.reg 0), none, none⟩, ⟨.mov (.cst (.int .i64 104)), (some 2), none⟩, ⟨.mov (.reg 1), (some 3), none⟩])
       .ret)
       .skip))))))))))))
 (.seq (.region [⟨.fieldAddr 1 (.loc 1), none, none⟩, ⟨.load1 (.reg 0), none, none⟩, ⟨.mov (.reg 1), (some 2), none⟩, ⟨.mov (.cst (.int .i64 0)), (some 3), none⟩])
 .ret)))⟩
theorem c75 : compFunc Tryd.prog opts a75 Tryd.f75 = some t75 := by kernel_rfl
/-- slices.Backward[[]int,int] -/
def a76 : Ann := { slots := [0, 1, 2], lb := [], mu := [], trunc := [], draws := [] }
def t76 : TFunc := ⟨1, 3, [.loc 2],
 (.seq (.region [⟨.boxH (.loc 0), (some 1), none⟩, ⟨.mov (.cst .nilf), (some 2), none⟩])
 (.seq (.region [⟨.mkFn 96 [] [(.loc 1)], none, none⟩, ⟨.mov (.reg 0), (some 2), none⟩])
 .ret))⟩
theorem c76 : compFunc Tryd.prog opts a76 Tryd.f76 = some t76 := by kernel_rfl
/-- pennant/cps.apply -/
def a77 : Ann := { slots := [0, 2], lb := [2], mu := [], trunc := [], draws := [] }
def t77 : TFunc := ⟨1, 2, [.cell 1 7 true],
 (.seq (.region [⟨.allocL 1 [(.int .i64 0), (.int .i64 0), (.int .i64 0), (.int .i64 0), (.int .i64 0), (.sl .nil []), (.sl .nil [])], none, none⟩])
 (.seq (.region [⟨.mov (.loc 0), none, none⟩, ⟨.build [(.int .i64 0), (.int .i64 0), (.int .i64 0), (.int .i64 0), (.int .i64 0), (.sl .nil []), (.sl .nil [])] [(0, 1, (.cst (.int .i64 6))), (5, 1, (.reg 0))], none, none⟩, ⟨.store 7 (.loc 1) (.reg 1), none, none⟩])
 .ret))⟩
theorem c77 : compFunc Tryd.prog opts a77 Tryd.f77 = some t77 := by kernel_rfl
/-- slices.IndexFunc[[]pennant/api.Datum,pennant/api.Datum] -/
def a84 : Ann := { slots := [0, 1, 4, 5, 7, 8, 9, 16], lb := [], mu := [], trunc := [], draws := [] }
def t84 : TFunc := ⟨2, 8, [.loc 2],
 (.seq (.region [⟨.mov (.cst (.int .i64 0)), (some 2), none⟩])
 (.seq (.seq (.region [⟨.mov (.loc 0), none, none⟩, ⟨.len .sl (.reg 0), (some 4), none⟩, ⟨.mov (.cst (.int .i64 0)), (some 5), none⟩])
 (.block 0
  (.loop
   (.seq (.region [⟨.bin .lss (.loc 5) (.loc 4), (some 6), none⟩])
   (.seq (.cond (.loc 6)
    .skip
    (.exit 0))
   (.seq (.block 1
    (.seq (.region [⟨.mov (.loc 5), none, none⟩, ⟨.mov (.reg 0), (some 3), none⟩])
    (.seq (.region [⟨.mov (.loc 1), none, none⟩, ⟨.mov (.loc 0), none, none⟩, ⟨.mov (.loc 3), none, none⟩, ⟨.indexAddrS 5 (.reg 1) (.reg 2), none, none⟩, ⟨.loadN 5 (.reg 3), none, none⟩, ⟨.callv (.reg 0) [(.reg 4)], (some 7), none⟩])
    (.cond (.loc 7)
     (.seq (.region [⟨.mov (.loc 3), none, none⟩, ⟨.mov (.reg 0), (some 2), none⟩])
     .ret)
     .skip))))
   (.region [⟨.bin .add (.loc 5) (.cst (.int .i64 1)), none, none⟩, ⟨.mov (.reg 0), (some 5), none⟩])))))))
 (.seq (.region [⟨.mov (.cst (.int .i64 (-1))), (some 2), none⟩])
 .ret)))⟩
theorem c84 : compFunc Tryd.prog opts a84 Tryd.f84 = some t84 := by kernel_rfl
/-- pennant/datum.digits -/
def a85 : Ann := { slots := [0, 2, 3, 16], lb := [], mu := [], trunc := [], draws := [] }
def t85 : TFunc := ⟨1, 4, [.loc 1],
 (.seq (.region [⟨.mov (.cst (.bool false)), (some 1), none⟩])
 (.seq (.region [⟨.mov (.loc 0), none, none⟩, ⟨.call true false 100 [(.reg 0), (.cst (.str [45]))], none, none⟩, ⟨.mov (.reg 1), (some 2), none⟩])
 (.seq (.seq (.region [⟨.mov (.loc 2), none, none⟩, ⟨.bin .eql (.reg 0) (.cst (.str [])), none, none⟩, ⟨.mov (.reg 1), none, none⟩, ⟨.mov (.loc 2), none, (some (2, false))⟩, ⟨.indexS (.reg 3) (.cst (.int .i64 0)), none, (some (2, false))⟩, ⟨.bin .eql (.reg 4) (.cst (.int .u8 48)), none, (some (2, false))⟩, ⟨.mov (.reg 5), none, (some (2, false))⟩, ⟨.mov (.loc 0), none, (some (6, true))⟩, ⟨.bin .neq (.reg 7) (.cst (.str [48])), none, (some (6, true))⟩, ⟨.pick (.reg 6) (.reg 8) (.cst (.bool false)), none, (some (2, false))⟩, ⟨.pick (.reg 2) (.cst (.bool true)) (.reg 9), (some 3), none⟩])
 (.cond (.loc 3)
  (.seq (.region [⟨.mov (.cst (.bool false)), (some 1), none⟩])
  .ret)
  .skip))
 (.seq (.region [⟨.mov (.loc 2), none, none⟩, ⟨.call false false 101 [(.reg 0), (.fn 102)], none, none⟩, ⟨.un .not (.reg 1), none, none⟩, ⟨.mov (.reg 2), (some 1), none⟩])
 .ret))))⟩
theorem c85 : compFunc Tryd.prog opts a85 Tryd.f85 = some t85 := by kernel_rfl
/-- pennant/utf.Is -/
def a86 : Ann := { slots := [0, 2], lb := [], mu := [], trunc := [], draws := [] }
def t86 : TFunc := ⟨1, 2, [.loc 1],
 (.seq (.region [⟨.mov (.cst (.bool false)), (some 1), none⟩])
 (.seq (.region [⟨.mov (.loc 0), none, none⟩, ⟨.bin .geq (.reg 0) (.cst (.int .i64 0)), none, none⟩, ⟨.mov (.reg 1), none, none⟩, ⟨.mov (.loc 0), none, (some (2, true))⟩, ⟨.bin .leq (.reg 3) (.cst (.int .i64 1114111)), none, (some (2, true))⟩, ⟨.pick (.reg 2) (.reg 4) (.cst (.bool false)), none, none⟩, ⟨.mov (.reg 5), none, none⟩, ⟨.mov (.loc 0), none, (some (6, true))⟩, ⟨.conv (.toInt .i32) (.reg 7), none, (some (6, true))⟩, ⟨.call true false 103 [(.reg 8)], none, (some (6, true))⟩, ⟨.pick (.reg 6) (.reg 9) (.cst (.bool false)), none, none⟩, ⟨.mov (.reg 10), (some 1), none⟩])
 .ret))⟩
theorem c86 : compFunc Tryd.prog opts a86 Tryd.f86 = some t86 := by kernel_rfl
/-- pennant/utf.Codes -/
def a87 : Ann := { slots := [0, 2, 3, 4, 5, 6, 8, 17, 20, 21, 22, 23], lb := [8, 5], mu := [], trunc := [], draws := [(3, ⟨[0, 1, 0, 7], [0, 1, 2, 3], []⟩)] }
def t87 : TFunc := ⟨1, 12, [.loc 1, .loc 2],
 (.seq (.region [⟨.mov (.cst (.sl .nil [])), (some 1), none⟩, ⟨.mov (.cst (.int .i64 0)), (some 2), none⟩])
 (.seq (.region [⟨.mov (.loc 0), none, none⟩, ⟨.conv .strBytes (.reg 0), none, none⟩, ⟨.call true false 104 [(.reg 1)], none, none⟩, ⟨.mov (.reg 2), none, none⟩, ⟨.extract 0 (.reg 3), none, none⟩, ⟨.extract 1 (.reg 3), none, none⟩, ⟨.allocL 4 [(.int .i64 0), (.int .i64 0)], none, none⟩, ⟨.mov (.reg 4), (some 3), none⟩, ⟨.store 2 (.reg 6) (.reg 5), none, none⟩])
 (.seq (.seq (.region [⟨.fieldAddr 0 (.loc 4), none, none⟩, ⟨.load1 (.reg 0), none, none⟩, ⟨.bin .neq (.reg 1) (.cst (.int .i64 0)), (some 7), none⟩])
 (.cond (.loc 7)
  (.seq (.draw [0, 1, 2, 3] [] [⟨.fieldAddr 0 (.loc 4), none, none⟩, ⟨.load1 (.reg 0), none, none⟩, ⟨.mov (.cst (.sl .nil [])), (some 1), none⟩, ⟨.mov (.reg 1), (some 2), none⟩])
  .ret)
  .skip))
 (.seq (.region [⟨.mov (.cst (.sl .nil [])), (some 5), none⟩])
 (.seq (.seq (.region [⟨.mov (.loc 3), (some 8), none⟩, ⟨.len .sl (.reg 0), (some 9), none⟩, ⟨.mov (.cst (.int .i64 0)), (some 10), none⟩])
 (.block 0
  (.loop
   (.seq (.region [⟨.bin .lss (.loc 10) (.loc 9), (some 11), none⟩])
   (.seq (.cond (.loc 11)
    .skip
    (.exit 0))
   (.seq (.block 1
    (.seq (.region [⟨.indexAddrS 2 (.loc 8) (.loc 10), none, none⟩, ⟨.loadN 2 (.reg 0), none, none⟩, ⟨.allocL 6 [(.int .i64 0), (.int .i64 0)], none, none⟩, ⟨.store 2 (.reg 2) (.reg 1), none, none⟩])
    (.region [⟨.mov (.loc 5), none, none⟩, ⟨.fieldAddr 0 (.loc 6), none, none⟩, ⟨.load1 (.reg 1), none, none⟩, ⟨.lit false [(.int .i64 0)] 1 [(0, (.reg 2))], none, none⟩, ⟨.append false 1 8 (.reg 0) (.reg 3), none, none⟩, ⟨.mov (.reg 4), (some 5), none⟩])))
   (.region [⟨.bin .add (.loc 10) (.cst (.int .i64 1)), none, none⟩, ⟨.mov (.reg 0), (some 10), none⟩])))))))
 (.seq (.region [⟨.mov (.loc 5), none, none⟩, ⟨.mov (.reg 0), (some 1), none⟩, ⟨.mov (.cst (.int .i64 0)), (some 2), none⟩])
 .ret))))))⟩
theorem c87 : compFunc Tryd.prog opts a87 Tryd.f87 = some t87 := by kernel_rfl
/-- pennant/core.of -/
def a88 : Ann := { slots := [0, 1, 2, 3, 5, 6, 9, 12, 15, 18, 21, 24, 27, 30, 44, 47, 56, 67, 70, 73], lb := [2, 1], mu := [], trunc := [], draws := [(19, ⟨[0, 1, 3, 7, 0, 16, 55, 127, 0, 256, 887, 1911, 2047, 8191], [0, 1, 4, 5, 8, 9], [(2, [5, 9], [3]), (6, [9], [7]), (10, [], [11]), (12, [], [13])]⟩), (25, ⟨[0, 1, 3, 7, 0, 0, 32, 112, 255, 511, 1023], [0, 1, 2, 3, 4, 5, 6, 7, 8], [(9, [], [10])]⟩)] }
def t88 : TFunc := ⟨1, 20, [.cell 2 4 true, .loc 3],
 (.seq (.region [⟨.boxL 1 (.loc 0), none, none⟩, ⟨.allocL 2 [(.bool false), (.int .i64 0), (.bool false), (.str [])], none, none⟩, ⟨.mov (.cst (.bool false)), (some 3), none⟩])
 (.seq (.seq (.region [⟨.fieldAddr 0 (.loc 1), none, none⟩, ⟨.load1 (.reg 0), (some 4), none⟩])
 (.block 0
  (.seq (.region [⟨.bin .eql (.loc 4) (.cst (.int .i64 1)), none, none⟩, ⟨.mov (.reg 0), (some 5), none⟩])
  (.cond (.loc 5)
   (.seq (.region [⟨.build [(.bool false), (.int .i64 0), (.bool false), (.str [])] [(0, 1, (.cst (.bool true))), (1, 1, (.cst (.int .i64 0))), (2, 1, (.cst (.bool false))), (3, 1, (.cst (.str [99])))], none, none⟩, ⟨.store 4 (.loc 2) (.reg 0), none, none⟩, ⟨.mov (.cst (.bool true)), (some 3), none⟩])
   .ret)
   (.seq (.region [⟨.bin .eql (.loc 4) (.cst (.int .i64 2)), none, none⟩, ⟨.mov (.reg 0), (some 6), none⟩])
   (.cond (.loc 6)
    (.seq (.region [⟨.build [(.bool false), (.int .i64 0), (.bool false), (.str [])] [(0, 1, (.cst (.bool true))), (1, 1, (.cst (.int .i64 0))), (2, 1, (.cst (.bool false))), (3, 1, (.cst (.str [118])))], none, none⟩, ⟨.store 4 (.loc 2) (.reg 0), none, none⟩, ⟨.mov (.cst (.bool true)), (some 3), none⟩])
    .ret)
    (.seq (.region [⟨.bin .eql (.loc 4) (.cst (.int .i64 3)), none, none⟩, ⟨.mov (.reg 0), (some 7), none⟩])
    (.cond (.loc 7)
     (.seq (.region [⟨.build [(.bool false), (.int .i64 0), (.bool false), (.str [])] [(0, 1, (.cst (.bool true))), (1, 1, (.cst (.int .i64 0))), (2, 1, (.cst (.bool false))), (3, 1, (.cst (.str [103])))], none, none⟩, ⟨.store 4 (.loc 2) (.reg 0), none, none⟩, ⟨.mov (.cst (.bool true)), (some 3), none⟩])
     .ret)
     (.seq (.region [⟨.bin .eql (.loc 4) (.cst (.int .i64 4)), none, none⟩, ⟨.mov (.reg 0), (some 8), none⟩])
     (.cond (.loc 8)
      (.seq (.region [⟨.build [(.bool false), (.int .i64 0), (.bool false), (.str [])] [(0, 1, (.cst (.bool true))), (1, 1, (.cst (.int .i64 1))), (2, 1, (.cst (.bool false))), (3, 1, (.cst (.str [115, 101, 116, 33, 32, 118])))], none, none⟩, ⟨.store 4 (.loc 2) (.reg 0), none, none⟩, ⟨.mov (.cst (.bool true)), (some 3), none⟩])
      .ret)
      (.seq (.region [⟨.bin .eql (.loc 4) (.cst (.int .i64 5)), none, none⟩, ⟨.mov (.reg 0), (some 9), none⟩])
      (.cond (.loc 9)
       (.seq (.region [⟨.build [(.bool false), (.int .i64 0), (.bool false), (.str [])] [(0, 1, (.cst (.bool true))), (1, 1, (.cst (.int .i64 1))), (2, 1, (.cst (.bool false))), (3, 1, (.cst (.str [115, 101, 116, 33, 32, 103])))], none, none⟩, ⟨.store 4 (.loc 2) (.reg 0), none, none⟩, ⟨.mov (.cst (.bool true)), (some 3), none⟩])
       .ret)
       (.seq (.region [⟨.bin .eql (.loc 4) (.cst (.int .i64 6)), none, none⟩, ⟨.mov (.reg 0), (some 10), none⟩])
       (.cond (.loc 10)
        (.seq (.region [⟨.build [(.bool false), (.int .i64 0), (.bool false), (.str [])] [(0, 1, (.cst (.bool false))), (1, 1, (.cst (.int .i64 3))), (2, 1, (.cst (.bool false))), (3, 1, (.cst (.str [105, 102])))], none, none⟩, ⟨.store 4 (.loc 2) (.reg 0), none, none⟩, ⟨.mov (.cst (.bool true)), (some 3), none⟩])
        .ret)
        (.seq (.region [⟨.bin .eql (.loc 4) (.cst (.int .i64 7)), none, none⟩, ⟨.mov (.reg 0), (some 11), none⟩])
        (.cond (.loc 11)
         (.seq (.region [⟨.build [(.bool false), (.int .i64 0), (.bool false), (.str [])] [(0, 1, (.cst (.bool false))), (1, 1, (.cst (.int .i64 1))), (2, 1, (.cst (.bool false))), (3, 1, (.cst (.str [108, 97, 109, 98, 100, 97])))], none, none⟩, ⟨.store 4 (.loc 2) (.reg 0), none, none⟩, ⟨.mov (.cst (.bool true)), (some 3), none⟩])
         .ret)
         (.seq (.region [⟨.bin .eql (.loc 4) (.cst (.int .i64 8)), none, none⟩, ⟨.mov (.reg 0), (some 12), none⟩])
         (.cond (.loc 12)
          (.seq (.region [⟨.build [(.bool false), (.int .i64 0), (.bool false), (.str [])] [(0, 1, (.cst (.bool false))), (1, 1, (.cst (.int .i64 1))), (2, 1, (.cst (.bool true))), (3, 1, (.cst (.str [99, 97, 108, 108])))], none, none⟩, ⟨.store 4 (.loc 2) (.reg 0), none, none⟩, ⟨.mov (.cst (.bool true)), (some 3), none⟩])
          .ret)
          (.seq (.region [⟨.bin .eql (.loc 4) (.cst (.int .i64 9)), none, none⟩, ⟨.mov (.reg 0), (some 13), none⟩])
          (.cond (.loc 13)
           (.seq (.draw [0, 1, 4, 5, 8, 9] [(2, [5, 9], [3]), (6, [9], [7]), (10, [], [11]), (12, [], [13])] [⟨.fieldAddr 1 (.loc 1), none, none⟩, ⟨.load1 (.reg 0), none, none⟩, ⟨.call true false 92 [(.reg 1)], none, none⟩, ⟨.minmax true [(.cst (.int .i64 0)), (.reg 2)], none, none⟩, ⟨.fieldAddr 1 (.loc 1), none, none⟩, ⟨.load1 (.reg 4), none, none⟩, ⟨.call true false 105 [(.reg 5)], none, none⟩, ⟨.build [(.bool false), (.int .i64 0), (.bool false), (.str [])] [(0, 1, (.cst (.bool true))), (1, 1, (.reg 3)), (2, 1, (.cst (.bool false))), (3, 1, (.reg 6))], none, none⟩, ⟨.fieldAddr 1 (.loc 1), none, none⟩, ⟨.load1 (.reg 8), none, none⟩, ⟨.call true false 92 [(.reg 9)], none, none⟩, ⟨.bin .geq (.reg 10) (.cst (.int .i64 0)), none, none⟩, ⟨.store 4 (.loc 2) (.reg 7), none, none⟩, ⟨.mov (.reg 11), (some 3), none⟩])
           .ret)
           (.seq (.region [⟨.bin .eql (.loc 4) (.cst (.int .i64 10)), none, none⟩, ⟨.mov (.reg 0), (some 14), none⟩])
           (.cond (.loc 14)
            (.seq (.region [⟨.build [(.bool false), (.int .i64 0), (.bool false), (.str [])] [(0, 1, (.cst (.bool false))), (1, 1, (.cst (.int .i64 1))), (2, 1, (.cst (.bool true))), (3, 1, (.cst (.str [98, 101, 103, 105, 110])))], none, none⟩, ⟨.store 4 (.loc 2) (.reg 0), none, none⟩, ⟨.mov (.cst (.bool true)), (some 3), none⟩])
            .ret)
            (.seq (.region [⟨.bin .eql (.loc 4) (.cst (.int .i64 11)), none, none⟩, ⟨.mov (.reg 0), (some 15), none⟩])
            (.cond (.loc 15)
             (.seq (.seq (.region [⟨.fieldAddr 1 (.loc 1), none, none⟩, ⟨.load1 (.reg 0), none, none⟩, ⟨.bin .lss (.reg 1) (.cst (.int .i64 0)), none, none⟩, ⟨.mov (.reg 2), none, none⟩, ⟨.fieldAddr 1 (.loc 1), none, (some (3, false))⟩, ⟨.load1 (.reg 4), none, (some (3, false))⟩, ⟨.bin .gtr (.reg 5) (.cst (.int .i64 2)), none, (some (3, false))⟩, ⟨.pick (.reg 3) (.cst (.bool true)) (.reg 6), (some 16), none⟩])
             (.cond (.loc 16)
              (.seq (.region [⟨.build [(.bool false), (.int .i64 0), (.bool false), (.str [])] [], none, none⟩, ⟨.store 4 (.loc 2) (.reg 0), none, none⟩, ⟨.mov (.cst (.bool false)), (some 3), none⟩])
              .ret)
              .skip))
             (.seq (.draw [0, 1, 2, 3, 4, 5, 6, 7, 8] [(9, [], [10])] [⟨.fieldAddr 1 (.loc 1), none, none⟩, ⟨.load1 (.reg 0), none, none⟩, ⟨.bin .add (.reg 1) (.cst (.int .i64 1)), none, none⟩, ⟨.minmax false [(.reg 2), (.cst (.int .i64 2))], none, none⟩, ⟨.build [(.str []), (.str []), (.str [])] [(0, 1, (.cst (.str [99, 97, 108, 108, 47, 99, 99]))), (1, 1, (.cst (.str [97, 112, 112, 108, 121]))), (2, 1, (.cst (.str [99, 97, 108, 108, 45, 119, 105, 116, 104, 45, 118, 97, 108, 117, 101, 115])))], none, none⟩, ⟨.fieldAddr 1 (.loc 1), none, none⟩, ⟨.load1 (.reg 5), none, none⟩, ⟨.indexA 3 1 false (.reg 4) (.reg 6), none, none⟩, ⟨.build [(.bool false), (.int .i64 0), (.bool false), (.str [])] [(0, 1, (.cst (.bool true))), (1, 1, (.reg 3)), (2, 1, (.cst (.bool false))), (3, 1, (.reg 7))], none, none⟩, ⟨.store 4 (.loc 2) (.reg 8), none, none⟩, ⟨.mov (.cst (.bool true)), (some 3), none⟩])
             .ret))
             (.seq (.region [⟨.bin .eql (.loc 4) (.cst (.int .i64 12)), none, none⟩, ⟨.mov (.reg 0), (some 17), none⟩])
             (.cond (.loc 17)
              (.seq (.region [⟨.build [(.bool false), (.int .i64 0), (.bool false), (.str [])] [(0, 1, (.cst (.bool false))), (1, 1, (.cst (.int .i64 1))), (2, 1, (.cst (.bool false))), (3, 1, (.cst (.str [98, 111, 120])))], none, none⟩, ⟨.store 4 (.loc 2) (.reg 0), none, none⟩, ⟨.mov (.cst (.bool true)), (some 3), none⟩])
              .ret)
              (.seq (.region [⟨.bin .eql (.loc 4) (.cst (.int .i64 13)), none, none⟩, ⟨.mov (.reg 0), (some 18), none⟩])
              (.cond (.loc 18)
               (.seq (.region [⟨.build [(.bool false), (.int .i64 0), (.bool false), (.str [])] [(0, 1, (.cst (.bool false))), (1, 1, (.cst (.int .i64 1))), (2, 1, (.cst (.bool false))), (3, 1, (.cst (.str [117, 110, 98, 111, 120])))], none, none⟩, ⟨.store 4 (.loc 2) (.reg 0), none, none⟩, ⟨.mov (.cst (.bool true)), (some 3), none⟩])
               .ret)
               (.seq (.region [⟨.bin .eql (.loc 4) (.cst (.int .i64 14)), none, none⟩, ⟨.mov (.reg 0), (some 19), none⟩])
               (.cond (.loc 19)
                (.seq (.region [⟨.build [(.bool false), (.int .i64 0), (.bool false), (.str [])] [(0, 1, (.cst (.bool false))), (1, 1, (.cst (.int .i64 2))), (2, 1, (.cst (.bool false))), (3, 1, (.cst (.str [115, 101, 116, 45, 98, 111, 120, 33])))], none, none⟩, ⟨.store 4 (.loc 2) (.reg 0), none, none⟩, ⟨.mov (.cst (.bool true)), (some 3), none⟩])
                .ret)
                .skip))))))))))))))))))))))))))))))
 (.seq (.region [⟨.build [(.bool false), (.int .i64 0), (.bool false), (.str [])] [], none, none⟩, ⟨.store 4 (.loc 2) (.reg 0), none, none⟩, ⟨.mov (.cst (.bool false)), (some 3), none⟩])
 .ret)))⟩
theorem c88 : compFunc Tryd.prog opts a88 Tryd.f88 = some t88 := by kernel_rfl
/-- (*pennant/core.checker).formed$1 -/
def a89 : Ann := { slots := [0, 1, 4], lb := [], mu := [], trunc := [], draws := [] }
def t89 : TFunc := ⟨2, 3, [.loc 2],
 (.seq (.region [⟨.mov (.cst (.bool false)), (some 2), none⟩])
 (.seq (.region [⟨.mov (.loc 0), none, none⟩, ⟨.bin .geq (.reg 0) (.cst (.int .i64 0)), none, none⟩, ⟨.mov (.reg 1), none, none⟩, ⟨.mov (.loc 0), none, (some (2, true))⟩, ⟨.mov (.loc 1), none, (some (2, true))⟩, ⟨.bin .lss (.reg 3) (.reg 4), none, (some (2, true))⟩, ⟨.pick (.reg 2) (.reg 5) (.cst (.bool false)), none, none⟩, ⟨.mov (.reg 6), (some 2), none⟩])
 .ret))⟩
theorem c89 : compFunc Tryd.prog opts a89 Tryd.f89 = some t89 := by kernel_rfl
/-- slices.ContainsFunc[[]int,int] -/
def a90 : Ann := { slots := [0, 1, 4], lb := [], mu := [], trunc := [], draws := [] }
def t90 : TFunc := ⟨2, 3, [.loc 2],
 (.seq (.region [⟨.mov (.cst (.bool false)), (some 2), none⟩])
 (.seq (.region [⟨.mov (.loc 0), none, none⟩, ⟨.mov (.loc 1), none, none⟩, ⟨.call false false 106 [(.reg 0), (.reg 1)], none, none⟩, ⟨.bin .geq (.reg 2) (.cst (.int .i64 0)), none, none⟩, ⟨.mov (.reg 3), (some 2), none⟩])
 .ret))⟩
theorem c90 : compFunc Tryd.prog opts a90 Tryd.f90 = some t90 := by kernel_rfl
/-- (*pennant/core.checker).formed$2 -/
def a91 : Ann := { slots := [0, 1, 2, 4], lb := [], mu := [], trunc := [], draws := [(1, ⟨[0, 0, 0, 4, 12, 28, 60, 127, 255, 511], [0, 1, 2, 3, 4, 5, 6], [(7, [], [8, 9])]⟩)] }
def t91 : TFunc := ⟨3, 4, [.loc 3],
 (.seq (.region [⟨.mov (.cst (.bool false)), (some 3), none⟩])
 (.seq (.draw [0, 1, 2, 3, 4, 5, 6] [(7, [], [8, 9])] [⟨.load1 (.loc 1), none, none⟩, ⟨.mov (.loc 0), none, none⟩, ⟨.load1 (.loc 2), none, none⟩, ⟨.nilCheck (.reg 2), none, none⟩, ⟨.fieldAddr 0 (.reg 3), none, none⟩, ⟨.fieldAddr 6 (.reg 4), none, none⟩, ⟨.load1 (.reg 5), none, none⟩, ⟨.callv (.reg 0) [(.reg 1), (.reg 6)], none, none⟩, ⟨.un .not (.reg 7), none, none⟩, ⟨.mov (.reg 8), (some 3), none⟩])
 .ret))⟩
theorem c91 : compFunc Tryd.prog opts a91 Tryd.f91 = some t91 := by kernel_rfl
/-- pennant/api.PrimArgs -/
def a92 : Ann := { slots := [0, 2, 3, 10], lb := [3], mu := [], trunc := [], draws := [] }
def t92 : TFunc := ⟨1, 4, [.loc 1],
 (.seq (.region [⟨.mov (.cst (.int .i64 0)), (some 1), none⟩])
 (.seq (.region [⟨.build [(.int .i64 0), (.int .i64 0), (.int .i64 0), (.int .i64 0), (.int .i64 0), (.int .i64 0), (.int .i64 0), (.int .i64 0), (.int .i64 0), (.int .i64 0), (.int .i64 0), (.int .i64 0), (.int .i64 0), (.int .i64 0), (.int .i64 0), (.int .i64 0), (.int .i64 0), (.int .i64 0), (.int .i64 0), (.int .i64 0), (.int .i64 0), (.int .i64 0), (.int .i64 0), (.int .i64 0), (.int .i64 0), (.int .i64 0), (.int .i64 0), (.int .i64 0), (.int .i64 0), (.int .i64 0), (.int .i64 0), (.int .i64 0), (.int .i64 0), (.int .i64 0), (.int .i64 0), (.int .i64 0), (.int .i64 0), (.int .i64 0), (.int .i64 0), (.int .i64 0), (.int .i64 0), (.int .i64 0)] [(0, 1, (.cst (.int .i64 2))), (1, 1, (.cst (.int .i64 1))), (2, 1, (.cst (.int .i64 2))), (3, 1, (.cst (.int .i64 1))), (4, 1, (.cst (.int .i64 1))), (5, 1, (.cst (.int .i64 2))), (6, 1, (.cst (.int .i64 2))), (7, 1, (.cst (.int .i64 1))), (8, 1, (.cst (.int .i64 2))), (9, 1, (.cst (.int .i64 2))), (10, 1, (.cst (.int .i64 2))), (11, 1, (.cst (.int .i64 2))), (12, 1, (.cst (.int .i64 2))), (13, 1, (.cst (.int .i64 2))), (14, 1, (.cst (.int .i64 2))), (15, 1, (.cst (.int .i64 1))), (16, 1, (.cst (.int .i64 1))), (17, 1, (.cst (.int .i64 1))), (18, 1, (.cst (.int .i64 1))), (19, 1, (.cst (.int .i64 2))), (20, 1, (.cst (.int .i64 1))), (21, 1, (.cst (.int .i64 2))), (22, 1, (.cst (.int .i64 3))), (23, 1, (.cst (.int .i64 1))), (24, 1, (.cst (.int .i64 1))), (25, 1, (.cst (.int .i64 1))), (26, 1, (.cst (.int .i64 1))), (27, 1, (.cst (.int .i64 2))), (28, 1, (.cst (.int .i64 1))), (29, 1, (.cst (.int .i64 2))), (30, 1, (.cst (.int .i64 3))), (31, 1, (.cst (.int .i64 1))), (32, 1, (.cst (.int .i64 2))), (33, 1, (.cst (.int .i64 1))), (34, 1, (.cst (.int .i64 2))), (35, 1, (.cst (.int .i64 3))), (36, 1, (.cst (.int .i64 1))), (37, 1, (.cst (.int .i64 0))), (38, 1, (.cst (.int .i64 1))), (39, 1, (.cst (.int .i64 1))), (40, 1, (.cst (.int .i64 0))), (41, 1, (.cst (.int .i64 0)))], none, none⟩, ⟨.allocL 2 [(.int .i64 0), (.int .i64 0), (.int .i64 0), (.int .i64 0), (.int .i64 0), (.int .i64 0), (.int .i64 0), (.int .i64 0), (.int .i64 0), (.int .i64 0), (.int .i64 0), (.int .i64 0), (.int .i64 0), (.int .i64 0), (.int .i64 0), (.int .i64 0), (.int .i64 0), (.int .i64 0), (.int .i64 0), (.int .i64 0), (.int .i64 0), (.int .i64 0), (.int .i64 0), (.int .i64 0), (.int .i64 0), (.int .i64 0), (.int .i64 0), (.int .i64 0), (.int .i64 0), (.int .i64 0), (.int .i64 0), (.int .i64 0), (.int .i64 0), (.int .i64 0), (.int .i64 0), (.int .i64 0), (.int .i64 0), (.int .i64 0), (.int .i64 0), (.int .i64 0), (.int .i64 0), (.int .i64 0)], none, none⟩, ⟨.store 42 (.reg 1) (.reg 0), none, none⟩])
 (.seq (.seq (.region [⟨.mov (.loc 0), none, none⟩, ⟨.bin .lss (.reg 0) (.cst (.int .i64 0)), none, none⟩, ⟨.mov (.reg 1), none, none⟩, ⟨.mov (.loc 0), none, (some (2, false))⟩, ⟨.bin .geq (.reg 3) (.cst (.int .i64 42)), none, (some (2, false))⟩, ⟨.pick (.reg 2) (.cst (.bool true)) (.reg 4), (some 3), none⟩])
 (.cond (.loc 3)
  (.seq (.region [⟨.mov (.cst (.int .i64 (-1))), (some 1), none⟩])
  .ret)
  .skip))
 (.seq (.region [⟨.mov (.loc 0), none, none⟩, ⟨.indexAddrA 42 1 (.loc 2) (.reg 0), none, none⟩, ⟨.load1 (.reg 1), none, none⟩, ⟨.mov (.reg 2), (some 1), none⟩])
 .ret))))⟩
theorem c92 : compFunc Tryd.prog opts a92 Tryd.f92 = some t92 := by kernel_rfl
/-- slices.Backward[[]int,int]$1 -/
def a96 : Ann := { slots := [0, 1, 3, 8, 18], lb := [], mu := [], trunc := [], draws := [] }
def t96 : TFunc := ⟨2, 5, [],
 (.seq (.region [⟨.load1 (.loc 1), none, none⟩, ⟨.len .sl (.reg 0), none, none⟩, ⟨.bin .sub (.reg 1) (.cst (.int .i64 1)), none, none⟩, ⟨.mov (.reg 2), (some 2), none⟩])
 (.block 0
  (.loop
   (.seq (.seq (.region [⟨.mov (.loc 2), none, none⟩, ⟨.bin .geq (.reg 0) (.cst (.int .i64 0)), (some 3), none⟩])
   (.cond (.loc 3)
    .skip
    (.exit 0)))
   (.seq (.block 1
    (.seq (.region [⟨.mov (.loc 0), none, none⟩, ⟨.mov (.loc 2), none, none⟩, ⟨.load1 (.loc 1), none, none⟩, ⟨.mov (.loc 2), none, none⟩, ⟨.indexAddrS 1 (.reg 2) (.reg 3), none, none⟩, ⟨.load1 (.reg 4), none, none⟩, ⟨.callv (.reg 0) [(.reg 1), (.reg 5)], none, none⟩, ⟨.un .not (.reg 6), (some 4), none⟩])
    (.cond (.loc 4)
     .ret
     .skip)))
   (.region [⟨.mov (.loc 2), none, none⟩, ⟨.bin .sub (.reg 0) (.cst (.int .i64 1)), none, none⟩, ⟨.mov (.reg 1), (some 2), none⟩]))))))⟩
theorem c96 : compFunc Tryd.prog opts a96 Tryd.f96 = some t96 := by kernel_rfl
/-- strings.TrimPrefix -/
def a100 : Ann := { slots := [0, 1, 4], lb := [], mu := [], trunc := [], draws := [] }
def t100 : TFunc := ⟨2, 3, [.loc 2],
 (.seq (.region [⟨.mov (.cst (.str [])), (some 2), none⟩])
 (.seq (.region [⟨.mov (.loc 0), none, none⟩, ⟨.mov (.loc 1), none, none⟩, ⟨.call true false 111 [(.reg 0), (.reg 1)], none, none⟩, ⟨.mov (.reg 2), (some 2), none⟩])
 .ret))⟩
theorem c100 : compFunc Tryd.prog opts a100 Tryd.f100 = some t100 := by kernel_rfl
/-- strings.ContainsFunc -/
def a101 : Ann := { slots := [0, 1, 4], lb := [], mu := [], trunc := [], draws := [] }
def t101 : TFunc := ⟨2, 3, [.loc 2],
 (.seq (.region [⟨.mov (.cst (.bool false)), (some 2), none⟩])
 (.seq (.region [⟨.mov (.loc 0), none, none⟩, ⟨.mov (.loc 1), none, none⟩, ⟨.call false false 112 [(.reg 0), (.reg 1)], none, none⟩, ⟨.bin .geq (.reg 2) (.cst (.int .i64 0)), none, none⟩, ⟨.mov (.reg 3), (some 2), none⟩])
 .ret))⟩
theorem c101 : compFunc Tryd.prog opts a101 Tryd.f101 = some t101 := by kernel_rfl
/-- pennant/datum.digits$1 -/
def a102 : Ann := { slots := [0, 2], lb := [], mu := [], trunc := [], draws := [] }
def t102 : TFunc := ⟨1, 2, [.loc 1],
 (.seq (.region [⟨.mov (.cst (.bool false)), (some 1), none⟩])
 (.seq (.region [⟨.mov (.loc 0), none, none⟩, ⟨.bin .lss (.reg 0) (.cst (.int .i32 48)), none, none⟩, ⟨.mov (.reg 1), none, none⟩, ⟨.mov (.loc 0), none, (some (2, false))⟩, ⟨.bin .gtr (.reg 3) (.cst (.int .i32 57)), none, (some (2, false))⟩, ⟨.pick (.reg 2) (.cst (.bool true)) (.reg 4), none, none⟩, ⟨.mov (.reg 5), (some 1), none⟩])
 .ret))⟩
theorem c102 : compFunc Tryd.prog opts a102 Tryd.f102 = some t102 := by kernel_rfl
/-- unicode/utf8.ValidRune -/
def a103 : Ann := { slots := [0, 2, 3, 10], lb := [], mu := [], trunc := [], draws := [] }
def t103 : TFunc := ⟨1, 4, [.loc 1],
 (.seq (.region [⟨.mov (.cst (.bool false)), (some 1), none⟩])
 (.seq (.block 0
  (.seq (.region [⟨.mov (.loc 0), none, none⟩, ⟨.bin .leq (.cst (.int .i32 0)) (.reg 0), none, none⟩, ⟨.mov (.reg 1), none, none⟩, ⟨.mov (.loc 0), none, (some (2, true))⟩, ⟨.bin .lss (.reg 3) (.cst (.int .i32 55296)), none, (some (2, true))⟩, ⟨.pick (.reg 2) (.reg 4) (.cst (.bool false)), none, none⟩, ⟨.mov (.reg 5), (some 2), none⟩])
  (.cond (.loc 2)
   (.seq (.region [⟨.mov (.cst (.bool true)), (some 1), none⟩])
   .ret)
   (.seq (.region [⟨.mov (.loc 0), none, none⟩, ⟨.bin .lss (.cst (.int .i32 57343)) (.reg 0), none, none⟩, ⟨.mov (.reg 1), none, none⟩, ⟨.mov (.loc 0), none, (some (2, true))⟩, ⟨.bin .leq (.reg 3) (.cst (.int .i32 1114111)), none, (some (2, true))⟩, ⟨.pick (.reg 2) (.reg 4) (.cst (.bool false)), none, none⟩, ⟨.mov (.reg 5), (some 3), none⟩])
   (.cond (.loc 3)
    (.seq (.region [⟨.mov (.cst (.bool true)), (some 1), none⟩])
    .ret)
    .skip)))))
 (.seq (.region [⟨.mov (.cst (.bool false)), (some 1), none⟩])
 .ret)))⟩
theorem c103 : compFunc Tryd.prog opts a103 Tryd.f103 = some t103 := by kernel_rfl
/-- pennant/utf.All -/
def a104 : Ann := { slots := [0, 2, 3, 4, 5, 6, 8, 11, 12, 13, 17, 27], lb := [3], mu := [], trunc := [], draws := [] }
def t104 : TFunc := ⟨1, 12, [.loc 1, .cell 2 2 true],
 (.seq (.region [⟨.mov (.cst (.sl .nil [])), (some 1), none⟩, ⟨.allocL 2 [(.int .i64 0), (.int .i64 0)], none, none⟩])
 (.seq (.region [⟨.mov (.cst (.sl .nil [])), (some 3), none⟩])
 (.seq (.seq (.region [⟨.mov (.loc 0), none, none⟩, ⟨.conv .bytesStr (.reg 0), none, none⟩, ⟨.range true (.reg 1), (some 7), none⟩])
 (.block 0
  (.loop
   (.seq (.region [⟨.nextS (.loc 7), (some 8), none⟩, ⟨.extract 0 (.reg 0), (some 9), none⟩])
   (.seq (.cond (.loc 9)
    .skip
    (.exit 0))
   (.block 1
    (.seq (.region [⟨.extract 1 (.loc 8), none, none⟩, ⟨.extract 2 (.loc 8), none, none⟩, ⟨.mov (.reg 0), (some 4), none⟩, ⟨.mov (.reg 1), (some 5), none⟩])
    (.seq (.seq (.region [⟨.mov (.loc 5), none, none⟩, ⟨.bin .eql (.reg 0) (.cst (.int .i32 65533)), (some 10), none⟩])
    (.cond (.loc 10)
     (.seq (.region [⟨.mov (.loc 0), none, none⟩, ⟨.mov (.loc 4), none, none⟩, ⟨.slice (.sl 1) (.reg 0) (some (.reg 1)) none none, none, none⟩, ⟨.call true false 113 [(.reg 2)], none, none⟩, ⟨.mov (.reg 3), none, none⟩, ⟨.extract 0 (.reg 4), none, none⟩, ⟨.extract 1 (.reg 4), none, none⟩, ⟨.mov (.reg 5), none, none⟩, ⟨.mov (.reg 6), (some 6), none⟩])
     (.seq (.region [⟨.mov (.loc 5), none, none⟩, ⟨.mov (.loc 6), none, none⟩, ⟨.call true false 114 [(.reg 0), (.reg 1)], (some 11), none⟩])
     (.cond (.loc 11)
      (.seq (.region [⟨.mov (.loc 4), none, none⟩, ⟨.build [(.int .i64 0), (.int .i64 0)] [(0, 1, (.cst (.int .i64 4))), (1, 1, (.reg 0))], none, none⟩, ⟨.mov (.cst (.sl .nil [])), (some 1), none⟩, ⟨.store 2 (.loc 2) (.reg 1), none, none⟩])
      .ret)
      .skip)))
     .skip))
    (.region [⟨.mov (.loc 3), none, none⟩, ⟨.mov (.loc 5), none, none⟩, ⟨.conv (.toInt .i64) (.reg 1), none, none⟩, ⟨.mov (.loc 4), none, none⟩, ⟨.build [(.int .i64 0), (.int .i64 0)] [(0, 1, (.reg 2)), (1, 1, (.reg 3))], none, none⟩, ⟨.lit false [(.int .i64 0), (.int .i64 0)] 1 [(0, (.reg 4))], none, none⟩, ⟨.append false 2 16 (.reg 0) (.reg 5), none, none⟩, ⟨.mov (.reg 6), (some 3), none⟩])))))))))
 (.seq (.region [⟨.mov (.loc 3), none, none⟩, ⟨.build [(.int .i64 0), (.int .i64 0)] [], none, none⟩, ⟨.mov (.reg 0), (some 1), none⟩, ⟨.store 2 (.loc 2) (.reg 1), none, none⟩])
 .ret))))⟩
theorem c104 : compFunc Tryd.prog opts a104 Tryd.f104 = some t104 := by kernel_rfl
/-- pennant/api.PrimName -/
def a105 : Ann := { slots := [0, 2, 3, 10], lb := [3], mu := [], trunc := [], draws := [] }
def t105 : TFunc := ⟨1, 4, [.loc 1],
 (.seq (.region [⟨.mov (.cst (.str [])), (some 1), none⟩])
 (.seq (.region [⟨.build [(.str []), (.str []), (.str []), (.str []), (.str []), (.str []), (.str []), (.str []), (.str []), (.str []), (.str []), (.str []), (.str []), (.str []), (.str []), (.str []), (.str []), (.str []), (.str []), (.str []), (.str []), (.str []), (.str []), (.str []), (.str []), (.str []), (.str []), (.str []), (.str []), (.str []), (.str []), (.str []), (.str []), (.str []), (.str []), (.str []), (.str []), (.str []), (.str []), (.str []), (.str []), (.str [])] [(0, 1, (.cst (.str [101, 113, 63]))), (1, 1, (.cst (.str [112, 97, 105, 114, 63]))), (2, 1, (.cst (.str [99, 111, 110, 115]))), (3, 1, (.cst (.str [99, 97, 114]))), (4, 1, (.cst (.str [99, 100, 114]))), (5, 1, (.cst (.str [115, 101, 116, 45, 99, 97, 114, 33]))), (6, 1, (.cst (.str [115, 101, 116, 45, 99, 100, 114, 33]))), (7, 1, (.cst (.str [105, 110, 116, 101, 103, 101, 114, 63]))), (8, 1, (.cst (.str [37, 43]))), (9, 1, (.cst (.str [37, 45]))), (10, 1, (.cst (.str [37, 42]))), (11, 1, (.cst (.str [113, 117, 111, 116, 105, 101, 110, 116]))), (12, 1, (.cst (.str [114, 101, 109, 97, 105, 110, 100, 101, 114]))), (13, 1, (.cst (.str [37, 61]))), (14, 1, (.cst (.str [37, 60]))), (15, 1, (.cst (.str [99, 104, 97, 114, 63]))), (16, 1, (.cst (.str [99, 104, 97, 114, 45, 62, 105, 110, 116, 101, 103, 101, 114]))), (17, 1, (.cst (.str [105, 110, 116, 101, 103, 101, 114, 45, 62, 99, 104, 97, 114]))), (18, 1, (.cst (.str [115, 116, 114, 105, 110, 103, 63]))), (19, 1, (.cst (.str [109, 97, 107, 101, 45, 115, 116, 114, 105, 110, 103]))), (20, 1, (.cst (.str [115, 116, 114, 105, 110, 103, 45, 108, 101, 110, 103, 116, 104]))), (21, 1, (.cst (.str [115, 116, 114, 105, 110, 103, 45, 114, 101, 102]))), (22, 1, (.cst (.str [115, 116, 114, 105, 110, 103, 45, 115, 101, 116, 33]))), (23, 1, (.cst (.str [115, 121, 109, 98, 111, 108, 63]))), (24, 1, (.cst (.str [115, 121, 109, 98, 111, 108, 45, 62, 115, 116, 114, 105, 110, 103]))), (25, 1, (.cst (.str [115, 116, 114, 105, 110, 103, 45, 62, 115, 121, 109, 98, 111, 108]))), (26, 1, (.cst (.str [118, 101, 99, 116, 111, 114, 63]))), (27, 1, (.cst (.str [109, 97, 107, 101, 45, 118, 101, 99, 116, 111, 114]))), (28, 1, (.cst (.str [118, 101, 99, 116, 111, 114, 45, 108, 101, 110, 103, 116, 104]))), (29, 1, (.cst (.str [118, 101, 99, 116, 111, 114, 45, 114, 101, 102]))), (30, 1, (.cst (.str [118, 101, 99, 116, 111, 114, 45, 115, 101, 116, 33]))), (31, 1, (.cst (.str [98, 121, 116, 101, 118, 101, 99, 116, 111, 114, 63]))), (32, 1, (.cst (.str [109, 97, 107, 101, 45, 98, 121, 116, 101, 118, 101, 99, 116, 111, 114]))), (33, 1, (.cst (.str [98, 121, 116, 101, 118, 101, 99, 116, 111, 114, 45, 108, 101, 110, 103, 116, 104]))), (34, 1, (.cst (.str [98, 121, 116, 101, 118, 101, 99, 116, 111, 114, 45, 117, 56, 45, 114, 101, 102]))), (35, 1, (.cst (.str [98, 121, 116, 101, 118, 101, 99, 116, 111, 114, 45, 117, 56, 45, 115, 101, 116, 33]))), (36, 1, (.cst (.str [112, 114, 111, 99, 101, 100, 117, 114, 101, 63]))), (37, 1, (.cst (.str [114, 101, 97, 100, 45, 117, 56]))), (38, 1, (.cst (.str [119, 114, 105, 116, 101, 45, 117, 56]))), (39, 1, (.cst (.str [37, 104, 97, 108, 116]))), (40, 1, (.cst (.str [101, 111, 102, 45, 111, 98, 106, 101, 99, 116]))), (41, 1, (.cst (.str [37, 110, 111, 110, 101])))], none, none⟩, ⟨.allocL 2 [(.str []), (.str []), (.str []), (.str []), (.str []), (.str []), (.str []), (.str []), (.str []), (.str []), (.str []), (.str []), (.str []), (.str []), (.str []), (.str []), (.str []), (.str []), (.str []), (.str []), (.str []), (.str []), (.str []), (.str []), (.str []), (.str []), (.str []), (.str []), (.str []), (.str []), (.str []), (.str []), (.str []), (.str []), (.str []), (.str []), (.str []), (.str []), (.str []), (.str []), (.str []), (.str [])], none, none⟩, ⟨.store 42 (.reg 1) (.reg 0), none, none⟩])
 (.seq (.seq (.region [⟨.mov (.loc 0), none, none⟩, ⟨.bin .lss (.reg 0) (.cst (.int .i64 0)), none, none⟩, ⟨.mov (.reg 1), none, none⟩, ⟨.mov (.loc 0), none, (some (2, false))⟩, ⟨.bin .geq (.reg 3) (.cst (.int .i64 42)), none, (some (2, false))⟩, ⟨.pick (.reg 2) (.cst (.bool true)) (.reg 4), (some 3), none⟩])
 (.cond (.loc 3)
  (.seq (.region [⟨.mov (.cst (.str [])), (some 1), none⟩])
  .ret)
  .skip))
 (.seq (.region [⟨.mov (.loc 0), none, none⟩, ⟨.indexAddrA 42 1 (.loc 2) (.reg 0), none, none⟩, ⟨.load1 (.reg 1), none, none⟩, ⟨.mov (.reg 2), (some 1), none⟩])
 .ret))))⟩
theorem c105 : compFunc Tryd.prog opts a105 Tryd.f105 = some t105 := by kernel_rfl
/-- slices.IndexFunc[[]int,int] -/
def a106 : Ann := { slots := [0, 1, 4, 5, 7, 8, 9, 16], lb := [], mu := [], trunc := [], draws := [] }
def t106 : TFunc := ⟨2, 8, [.loc 2],
 (.seq (.region [⟨.mov (.cst (.int .i64 0)), (some 2), none⟩])
 (.seq (.seq (.region [⟨.mov (.loc 0), none, none⟩, ⟨.len .sl (.reg 0), (some 4), none⟩, ⟨.mov (.cst (.int .i64 0)), (some 5), none⟩])
 (.block 0
  (.loop
   (.seq (.region [⟨.bin .lss (.loc 5) (.loc 4), (some 6), none⟩])
   (.seq (.cond (.loc 6)
    .skip
    (.exit 0))
   (.seq (.block 1
    (.seq (.region [⟨.mov (.loc 5), none, none⟩, ⟨.mov (.reg 0), (some 3), none⟩])
    (.seq (.region [⟨.mov (.loc 1), none, none⟩, ⟨.mov (.loc 0), none, none⟩, ⟨.mov (.loc 3), none, none⟩, ⟨.indexAddrS 1 (.reg 1) (.reg 2), none, none⟩, ⟨.load1 (.reg 3), none, none⟩, ⟨.callv (.reg 0) [(.reg 4)], (some 7), none⟩])
    (.cond (.loc 7)
     (.seq (.region [⟨.mov (.loc 3), none, none⟩, ⟨.mov (.reg 0), (some 2), none⟩])
     .ret)
     .skip))))
   (.region [⟨.bin .add (.loc 5) (.cst (.int .i64 1)), none, none⟩, ⟨.mov (.reg 0), (some 5), none⟩])))))))
 (.seq (.region [⟨.mov (.cst (.int .i64 (-1))), (some 2), none⟩])
 .ret)))⟩
theorem c106 : compFunc Tryd.prog opts a106 Tryd.f106 = some t106 := by kernel_rfl
/-- internal/stringslite.TrimPrefix -/
def a111 : Ann := { slots := [0, 1, 4, 7], lb := [], mu := [], trunc := [], draws := [] }
def t111 : TFunc := ⟨2, 4, [.loc 2],
 (.seq (.region [⟨.mov (.cst (.str [])), (some 2), none⟩])
 (.seq (.seq (.region [⟨.mov (.loc 0), none, none⟩, ⟨.mov (.loc 1), none, none⟩, ⟨.call true false 128 [(.reg 0), (.reg 1)], (some 3), none⟩])
 (.cond (.loc 3)
  (.seq (.region [⟨.mov (.loc 0), none, none⟩, ⟨.mov (.loc 1), none, none⟩, ⟨.len .str (.reg 1), none, none⟩, ⟨.slice .str (.reg 0) (some (.reg 2)) none none, none, none⟩, ⟨.mov (.reg 3), (some 2), none⟩])
  .ret)
  .skip))
 (.seq (.region [⟨.mov (.loc 0), none, none⟩, ⟨.mov (.reg 0), (some 2), none⟩])
 .ret)))⟩
theorem c111 : compFunc Tryd.prog opts a111 Tryd.f111 = some t111 := by kernel_rfl
/-- strings.IndexFunc -/
def a112 : Ann := { slots := [0, 1, 4], lb := [], mu := [], trunc := [], draws := [] }
def t112 : TFunc := ⟨2, 3, [.loc 2],
 (.seq (.region [⟨.mov (.cst (.int .i64 0)), (some 2), none⟩])
 (.seq (.region [⟨.mov (.loc 0), none, none⟩, ⟨.mov (.loc 1), none, none⟩, ⟨.call false false 129 [(.reg 0), (.reg 1), (.cst (.bool true))], none, none⟩, ⟨.mov (.reg 2), (some 2), none⟩])
 .ret))⟩
theorem c112 : compFunc Tryd.prog opts a112 Tryd.f112 = some t112 := by kernel_rfl
/-- unicode/utf8.DecodeRune -/
def a113 : Ann := { slots := [0, 2, 3, 5, 6, 7, 8, 9, 13], lb := [], mu := [], trunc := [], draws := [] }
def t113 : TFunc := ⟨1, 9, [.loc 1, .loc 2],
 (.seq (.region [⟨.mov (.cst (.int .i32 0)), (some 1), none⟩, ⟨.mov (.cst (.int .i64 0)), (some 2), none⟩])
 (.seq (.seq (.region [⟨.mov (.loc 0), (some 4), none⟩, ⟨.len .sl (.reg 0), (some 5), none⟩, ⟨.mov (.cst (.int .i64 0)), (some 6), none⟩])
 (.block 0
  (.loop
   (.seq (.region [⟨.bin .lss (.loc 6) (.loc 5), (some 7), none⟩])
   (.seq (.cond (.loc 7)
    .skip
    (.exit 0))
   (.seq (.block 1
    (.seq (.region [⟨.indexAddrS 1 (.loc 4) (.loc 6), none, none⟩, ⟨.load1 (.reg 0), none, none⟩, ⟨.mov (.reg 1), (some 3), none⟩])
    (.seq (.seq (.region [⟨.mov (.loc 3), none, none⟩, ⟨.bin .lss (.reg 0) (.cst (.int .u8 128)), (some 8), none⟩])
    (.cond (.loc 8)
     (.seq (.region [⟨.mov (.loc 3), none, none⟩, ⟨.conv (.toInt .i32) (.reg 0), none, none⟩, ⟨.mov (.reg 1), (some 1), none⟩, ⟨.mov (.cst (.int .i64 1)), (some 2), none⟩])
     .ret)
     .skip))
    (.exit 0))))
   (.region [⟨.bin .add (.loc 6) (.cst (.int .i64 1)), none, none⟩, ⟨.mov (.reg 0), (some 6), none⟩])))))))
 (.seq (.region [⟨.mov (.loc 0), none, none⟩, ⟨.call true false 130 [(.reg 0)], none, none⟩, ⟨.mov (.reg 1), none, none⟩, ⟨.extract 0 (.reg 2), none, none⟩, ⟨.extract 1 (.reg 2), none, none⟩, ⟨.mov (.reg 3), (some 1), none⟩, ⟨.mov (.reg 4), (some 2), none⟩])
 .ret)))⟩
theorem c113 : compFunc Tryd.prog opts a113 Tryd.f113 = some t113 := by kernel_rfl
/-- pennant/utf.wrong -/
def a114 : Ann := { slots := [0, 1, 4], lb := [], mu := [], trunc := [], draws := [] }
def t114 : TFunc := ⟨2, 3, [.loc 2],
 (.seq (.region [⟨.mov (.cst (.bool false)), (some 2), none⟩])
 (.seq (.region [⟨.mov (.loc 0), none, none⟩, ⟨.bin .eql (.reg 0) (.cst (.int .i32 65533)), none, none⟩, ⟨.mov (.reg 1), none, none⟩, ⟨.mov (.loc 1), none, (some (2, true))⟩, ⟨.bin .leq (.reg 3) (.cst (.int .i64 1)), none, (some (2, true))⟩, ⟨.pick (.reg 2) (.reg 4) (.cst (.bool false)), none, none⟩, ⟨.mov (.reg 5), (some 2), none⟩])
 .ret))⟩
theorem c114 : compFunc Tryd.prog opts a114 Tryd.f114 = some t114 := by kernel_rfl
/-- internal/stringslite.HasPrefix -/
def a128 : Ann := { slots := [0, 1, 4], lb := [], mu := [], trunc := [], draws := [] }
def t128 : TFunc := ⟨2, 3, [.loc 2],
 (.seq (.region [⟨.mov (.cst (.bool false)), (some 2), none⟩])
 (.seq (.region [⟨.mov (.loc 0), none, none⟩, ⟨.len .str (.reg 0), none, none⟩, ⟨.mov (.loc 1), none, none⟩, ⟨.len .str (.reg 2), none, none⟩, ⟨.bin .geq (.reg 1) (.reg 3), none, none⟩, ⟨.mov (.reg 4), none, none⟩, ⟨.mov (.loc 0), none, (some (5, true))⟩, ⟨.mov (.loc 1), none, (some (5, true))⟩, ⟨.len .str (.reg 7), none, (some (5, true))⟩, ⟨.slice .str (.reg 6) none (some (.reg 8)) none, none, (some (5, true))⟩, ⟨.mov (.loc 1), none, (some (5, true))⟩, ⟨.bin .eql (.reg 9) (.reg 10), none, (some (5, true))⟩, ⟨.pick (.reg 5) (.reg 11) (.cst (.bool false)), none, none⟩, ⟨.mov (.reg 12), (some 2), none⟩])
 .ret))⟩
theorem c128 : compFunc Tryd.prog opts a128 Tryd.f128 = some t128 := by kernel_rfl
/-- strings.indexFunc -/
def a129 : Ann := { slots := [0, 1, 2, 6, 7, 8, 10, 11, 12, 19], lb := [], mu := [], trunc := [], draws := [] }
def t129 : TFunc := ⟨3, 10, [.loc 3],
 (.seq (.region [⟨.mov (.cst (.int .i64 0)), (some 3), none⟩])
 (.seq (.seq (.region [⟨.mov (.loc 0), none, none⟩, ⟨.range true (.reg 0), (some 6), none⟩])
 (.block 0
  (.loop
   (.seq (.region [⟨.nextS (.loc 6), (some 7), none⟩, ⟨.extract 0 (.reg 0), (some 8), none⟩])
   (.seq (.cond (.loc 8)
    .skip
    (.exit 0))
   (.block 1
    (.seq (.region [⟨.extract 1 (.loc 7), none, none⟩, ⟨.extract 2 (.loc 7), none, none⟩, ⟨.mov (.reg 0), (some 4), none⟩, ⟨.mov (.reg 1), (some 5), none⟩])
    (.seq (.region [⟨.mov (.loc 1), none, none⟩, ⟨.mov (.loc 5), none, none⟩, ⟨.callv (.reg 0) [(.reg 1)], none, none⟩, ⟨.mov (.loc 2), none, none⟩, ⟨.eqB false .bool (.reg 2) (.reg 3), (some 9), none⟩])
    (.cond (.loc 9)
     (.seq (.region [⟨.mov (.loc 4), none, none⟩, ⟨.mov (.reg 0), (some 3), none⟩])
     .ret)
     .skip)))))))))
 (.seq (.region [⟨.mov (.cst (.int .i64 (-1))), (some 3), none⟩])
 .ret)))⟩
theorem c129 : compFunc Tryd.prog opts a129 Tryd.f129 = some t129 := by kernel_rfl
/-- unicode/utf8.decodeRuneSlow -/
def a130 : Ann := { slots := [0, 2, 3, 4, 5, 6, 7, 8, 9, 10, 11, 12, 16, 24, 47, 60, 62, 79, 81, 103], lb := [9], mu := [], trunc := [], draws := [] }
def t130 : TFunc := ⟨1, 20, [.loc 1, .loc 2],
 (.seq (.region [⟨.mov (.cst (.int .i32 0)), (some 1), none⟩, ⟨.mov (.cst (.int .i64 0)), (some 2), none⟩])
 (.seq (.region [⟨.mov (.loc 0), none, none⟩, ⟨.len .sl (.reg 0), none, none⟩, ⟨.mov (.reg 1), (some 3), none⟩])
 (.seq (.seq (.region [⟨.mov (.loc 3), none, none⟩, ⟨.bin .lss (.reg 0) (.cst (.int .i64 1)), (some 12), none⟩])
 (.cond (.loc 12)
  (.seq (.region [⟨.mov (.cst (.int .i32 65533)), (some 1), none⟩, ⟨.mov (.cst (.int .i64 0)), (some 2), none⟩])
  .ret)
  .skip))
 (.seq (.region [⟨.mov (.loc 0), none, none⟩, ⟨.indexAddrS 1 (.reg 0) (.cst (.int .i64 0)), none, none⟩, ⟨.load1 (.reg 1), none, none⟩, ⟨.mov (.reg 2), (some 4), none⟩])
 (.seq (.region [⟨.mov (.loc 4), none, none⟩, ⟨.indexAddrA 256 1 (.glob 0) (.reg 0), none, none⟩, ⟨.load1 (.reg 1), none, none⟩, ⟨.mov (.reg 2), (some 5), none⟩])
 (.seq (.seq (.region [⟨.mov (.loc 5), none, none⟩, ⟨.bin .geq (.reg 0) (.cst (.int .u8 240)), (some 13), none⟩])
 (.cond (.loc 13)
  (.seq (.region [⟨.mov (.loc 5), none, none⟩, ⟨.conv (.toInt .i32) (.reg 0), none, none⟩, ⟨.bin .shl (.reg 1) (.cst (.int .u64 31)), none, none⟩, ⟨.bin .shr (.reg 2) (.cst (.int .u64 31)), none, none⟩, ⟨.mov (.reg 3), (some 6), none⟩])
  (.seq (.region [⟨.mov (.loc 0), none, none⟩, ⟨.indexAddrS 1 (.reg 0) (.cst (.int .i64 0)), none, none⟩, ⟨.load1 (.reg 1), none, none⟩, ⟨.conv (.toInt .i32) (.reg 2), none, none⟩, ⟨.mov (.loc 6), none, none⟩, ⟨.bin .andNot (.reg 3) (.reg 4), none, none⟩, ⟨.mov (.loc 6), none, none⟩, ⟨.bin .and (.cst (.int .i32 65533)) (.reg 6), none, none⟩, ⟨.bin .or (.reg 5) (.reg 7), none, none⟩, ⟨.mov (.reg 8), (some 1), none⟩, ⟨.mov (.cst (.int .i64 1)), (some 2), none⟩])
  .ret))
  .skip))
 (.seq (.region [⟨.mov (.loc 5), none, none⟩, ⟨.bin .and (.reg 0) (.cst (.int .u8 7)), none, none⟩, ⟨.conv (.toInt .i64) (.reg 1), none, none⟩, ⟨.mov (.reg 2), (some 7), none⟩])
 (.seq (.region [⟨.mov (.loc 5), none, none⟩, ⟨.bin .shr (.reg 0) (.cst (.int .u64 4)), none, none⟩, ⟨.indexAddrA 16 2 (.glob 1) (.reg 1), none, none⟩, ⟨.loadN 2 (.reg 2), none, none⟩, ⟨.allocL 8 [(.int .u8 0), (.int .u8 0)], none, none⟩, ⟨.store 2 (.reg 4) (.reg 3), none, none⟩])
 (.seq (.seq (.region [⟨.mov (.loc 3), none, none⟩, ⟨.mov (.loc 7), none, none⟩, ⟨.bin .lss (.reg 0) (.reg 1), (some 14), none⟩])
 (.cond (.loc 14)
  (.seq (.region [⟨.mov (.cst (.int .i32 65533)), (some 1), none⟩, ⟨.mov (.cst (.int .i64 1)), (some 2), none⟩])
  .ret)
  .skip))
 (.seq (.region [⟨.mov (.loc 0), none, none⟩, ⟨.indexAddrS 1 (.reg 0) (.cst (.int .i64 1)), none, none⟩, ⟨.load1 (.reg 1), none, none⟩, ⟨.mov (.reg 2), (some 9), none⟩])
 (.seq (.seq (.region [⟨.mov (.loc 9), none, none⟩, ⟨.fieldAddr 0 (.loc 8), none, none⟩, ⟨.load1 (.reg 1), none, none⟩, ⟨.bin .lss (.reg 0) (.reg 2), none, none⟩, ⟨.mov (.reg 3), none, none⟩, ⟨.fieldAddr 1 (.loc 8), none, (some (4, false))⟩, ⟨.load1 (.reg 5), none, (some (4, false))⟩, ⟨.mov (.loc 9), none, (some (4, false))⟩, ⟨.bin .lss (.reg 6) (.reg 7), none, (some (4, false))⟩, ⟨.pick (.reg 4) (.cst (.bool true)) (.reg 8), (some 15), none⟩])
 (.cond (.loc 15)
  (.seq (.region [⟨.mov (.cst (.int .i32 65533)), (some 1), none⟩, ⟨.mov (.cst (.int .i64 1)), (some 2), none⟩])
  .ret)
  .skip))
 (.seq (.seq (.region [⟨.mov (.loc 7), none, none⟩, ⟨.bin .leq (.reg 0) (.cst (.int .i64 2)), (some 16), none⟩])
 (.cond (.loc 16)
  (.seq (.region [⟨.mov (.loc 4), none, none⟩, ⟨.bin .and (.reg 0) (.cst (.int .u8 31)), none, none⟩, ⟨.conv (.toInt .i32) (.reg 1), none, none⟩, ⟨.bin .shl (.reg 2) (.cst (.int .u64 6)), none, none⟩, ⟨.mov (.loc 9), none, none⟩, ⟨.bin .and (.reg 4) (.cst (.int .u8 63)), none, none⟩, ⟨.conv (.toInt .i32) (.reg 5), none, none⟩, ⟨.bin .or (.reg 3) (.reg 6), none, none⟩, ⟨.mov (.reg 7), (some 1), none⟩, ⟨.mov (.cst (.int .i64 2)), (some 2), none⟩])
  .ret)
  .skip))
 (.seq (.region [⟨.mov (.loc 0), none, none⟩, ⟨.indexAddrS 1 (.reg 0) (.cst (.int .i64 2)), none, none⟩, ⟨.load1 (.reg 1), none, none⟩, ⟨.mov (.reg 2), (some 10), none⟩])
 (.seq (.seq (.region [⟨.mov (.loc 10), none, none⟩, ⟨.bin .lss (.reg 0) (.cst (.int .u8 128)), none, none⟩, ⟨.mov (.reg 1), none, none⟩, ⟨.mov (.loc 10), none, (some (2, false))⟩, ⟨.bin .lss (.cst (.int .u8 191)) (.reg 3), none, (some (2, false))⟩, ⟨.pick (.reg 2) (.cst (.bool true)) (.reg 4), (some 17), none⟩])
 (.cond (.loc 17)
  (.seq (.region [⟨.mov (.cst (.int .i32 65533)), (some 1), none⟩, ⟨.mov (.cst (.int .i64 1)), (some 2), none⟩])
  .ret)
  .skip))
 (.seq (.seq (.region [⟨.mov (.loc 7), none, none⟩, ⟨.bin .leq (.reg 0) (.cst (.int .i64 3)), (some 18), none⟩])
 (.cond (.loc 18)
  (.seq (.region [⟨.mov (.loc 4), none, none⟩, ⟨.bin .and (.reg 0) (.cst (.int .u8 15)), none, none⟩, ⟨.conv (.toInt .i32) (.reg 1), none, none⟩, ⟨.bin .shl (.reg 2) (.cst (.int .u64 12)), none, none⟩, ⟨.mov (.loc 9), none, none⟩, ⟨.bin .and (.reg 4) (.cst (.int .u8 63)), none, none⟩, ⟨.conv (.toInt .i32) (.reg 5), none, none⟩, ⟨.bin .shl (.reg 6) (.cst (.int .u64 6)), none, none⟩, ⟨.bin .or (.reg 3) (.reg 7), none, none⟩, ⟨.mov (.loc 10), none, none⟩, ⟨.bin .and (.reg 9) (.cst (.int .u8 63)), none, none⟩, ⟨.conv (.toInt .i32) (.reg 10), none, none⟩, ⟨.bin .or (.reg 8) (.reg 11), none, none⟩, ⟨.mov (.reg 12), (some 1), none⟩, ⟨.mov (.cst (.int .i64 3)), (some 2), none⟩])
  .ret)
  .skip))
 (.seq (.region [⟨.mov (.loc 0), none, none⟩, ⟨.indexAddrS 1 (.reg 0) (.cst (.int .i64 3)), none, none⟩, ⟨.load1 (.reg 1), none, none⟩, ⟨.mov (.reg 2), (some 11), none⟩])
 (.seq (.seq (.region [⟨.mov (.loc 11), none, none⟩, ⟨.bin .lss (.reg 0) (.cst (.int .u8 128)), none, none⟩, ⟨.mov (.reg 1), none, none⟩, ⟨.mov (.loc 11), none, (some (2, false))⟩, ⟨.bin .lss (.cst (.int .u8 191)) (.reg 3), none, (some (2, false))⟩, ⟨.pick (.reg 2) (.cst (.bool true)) (.reg 4), (some 19), none⟩])
 (.cond (.loc 19)
  (.seq (.region [⟨.mov (.cst (.int .i32 65533)), (some 1), none⟩, ⟨.mov (.cst (.int .i64 1)), (some 2), none⟩])
  .ret)
  .skip))
 (.seq (.region [⟨.mov (.loc 4), none, none⟩, ⟨.bin .and (.reg 0) (.cst (.int .u8 7)), none, none⟩, ⟨.conv (.toInt .i32) (.reg 1), none, none⟩, ⟨.bin .shl (.reg 2) (.cst (.int .u64 18)), none, none⟩, ⟨.mov (.loc 9), none, none⟩, ⟨.bin .and (.reg 4) (.cst (.int .u8 63)), none, none⟩, ⟨.conv (.toInt .i32) (.reg 5), none, none⟩, ⟨.bin .shl (.reg 6) (.cst (.int .u64 12)), none, none⟩, ⟨.bin .or (.reg 3) (.reg 7), none, none⟩, ⟨.mov (.loc 10), none, none⟩, ⟨.bin .and (.reg 9) (.cst (.int .u8 63)), none, none⟩, ⟨.conv (.toInt .i32) (.reg 10), none, none⟩, ⟨.bin .shl (.reg 11) (.cst (.int .u64 6)), none, none⟩, ⟨.bin .or (.reg 8) (.reg 12), none, none⟩, ⟨.mov (.loc 11), none, none⟩, ⟨.bin .and (.reg 14) (.cst (.int .u8 63)), none, none⟩, ⟨.conv (.toInt .i32) (.reg 15), none, none⟩, ⟨.bin .or (.reg 13) (.reg 16), none, none⟩, ⟨.mov (.reg 17), (some 1), none⟩, ⟨.mov (.cst (.int .i64 4)), (some 2), none⟩])
 .ret))))))))))))))))))⟩
theorem c130 : compFunc Tryd.prog opts a130 Tryd.f130 = some t130 := by kernel_rfl
def g0 : List IV := [(.int .u8 240), (.int .u8 240), (.int .u8 240), (.int .u8 240), (.int .u8 240), (.int .u8 240), (.int .u8 240), (.int .u8 240), (.int .u8 240), (.int .u8 240), (.int .u8 240), (.int .u8 240), (.int .u8 240), (.int .u8 240), (.int .u8 240), (.int .u8 240), (.int .u8 240), (.int .u8 240), (.int .u8 240), (.int .u8 240), (.int .u8 240), (.int .u8 240), (.int .u8 240), (.int .u8 240), (.int .u8 240), (.int .u8 240), (.int .u8 240), (.int .u8 240), (.int .u8 240), (.int .u8 240), (.int .u8 240), (.int .u8 240), (.int .u8 240), (.int .u8 240), (.int .u8 240), (.int .u8 240), (.int .u8 240), (.int .u8 240), (.int .u8 240), (.int .u8 240), (.int .u8 240), (.int .u8 240), (.int .u8 240), (.int .u8 240), (.int .u8 240), (.int .u8 240), (.int .u8 240), (.int .u8 240), (.int .u8 240), (.int .u8 240), (.int .u8 240), (.int .u8 240), (.int .u8 240), (.int .u8 240), (.int .u8 240), (.int .u8 240), (.int .u8 240), (.int .u8 240), (.int .u8 240), (.int .u8 240), (.int .u8 240), (.int .u8 240), (.int .u8 240), (.int .u8 240), (.int .u8 240), (.int .u8 240), (.int .u8 240), (.int .u8 240), (.int .u8 240), (.int .u8 240), (.int .u8 240), (.int .u8 240), (.int .u8 240), (.int .u8 240), (.int .u8 240), (.int .u8 240), (.int .u8 240), (.int .u8 240), (.int .u8 240), (.int .u8 240), (.int .u8 240), (.int .u8 240), (.int .u8 240), (.int .u8 240), (.int .u8 240), (.int .u8 240), (.int .u8 240), (.int .u8 240), (.int .u8 240), (.int .u8 240), (.int .u8 240), (.int .u8 240), (.int .u8 240), (.int .u8 240), (.int .u8 240), (.int .u8 240), (.int .u8 240), (.int .u8 240), (.int .u8 240), (.int .u8 240), (.int .u8 240), (.int .u8 240), (.int .u8 240), (.int .u8 240), (.int .u8 240), (.int .u8 240), (.int .u8 240), (.int .u8 240), (.int .u8 240), (.int .u8 240), (.int .u8 240), (.int .u8 240), (.int .u8 240), (.int .u8 240), (.int .u8 240), (.int .u8 240), (.int .u8 240), (.int .u8 240), (.int .u8 240), (.int .u8 240), (.int .u8 240), (.int .u8 240), (.int .u8 240), (.int .u8 240), (.int .u8 240), (.int .u8 240), (.int .u8 240), (.int .u8 240), (.int .u8 241), (.int .u8 241), (.int .u8 241), (.int .u8 241), (.int .u8 241), (.int .u8 241), (.int .u8 241), (.int .u8 241), (.int .u8 241), (.int .u8 241), (.int .u8 241), (.int .u8 241), (.int .u8 241), (.int .u8 241), (.int .u8 241), (.int .u8 241), (.int .u8 241), (.int .u8 241), (.int .u8 241), (.int .u8 241), (.int .u8 241), (.int .u8 241), (.int .u8 241), (.int .u8 241), (.int .u8 241), (.int .u8 241), (.int .u8 241), (.int .u8 241), (.int .u8 241), (.int .u8 241), (.int .u8 241), (.int .u8 241), (.int .u8 241), (.int .u8 241), (.int .u8 241), (.int .u8 241), (.int .u8 241), (.int .u8 241), (.int .u8 241), (.int .u8 241), (.int .u8 241), (.int .u8 241), (.int .u8 241), (.int .u8 241), (.int .u8 241), (.int .u8 241), (.int .u8 241), (.int .u8 241), (.int .u8 241), (.int .u8 241), (.int .u8 241), (.int .u8 241), (.int .u8 241), (.int .u8 241), (.int .u8 241), (.int .u8 241), (.int .u8 241), (.int .u8 241), (.int .u8 241), (.int .u8 241), (.int .u8 241), (.int .u8 241), (.int .u8 241), (.int .u8 241), (.int .u8 241), (.int .u8 241), (.int .u8 2), (.int .u8 2), (.int .u8 2), (.int .u8 2), (.int .u8 2), (.int .u8 2), (.int .u8 2), (.int .u8 2), (.int .u8 2), (.int .u8 2), (.int .u8 2), (.int .u8 2), (.int .u8 2), (.int .u8 2), (.int .u8 2), (.int .u8 2), (.int .u8 2), (.int .u8 2), (.int .u8 2), (.int .u8 2), (.int .u8 2), (.int .u8 2), (.int .u8 2), (.int .u8 2), (.int .u8 2), (.int .u8 2), (.int .u8 2), (.int .u8 2), (.int .u8 2), (.int .u8 2), (.int .u8 19), (.int .u8 3), (.int .u8 3), (.int .u8 3), (.int .u8 3), (.int .u8 3), (.int .u8 3), (.int .u8 3), (.int .u8 3), (.int .u8 3), (.int .u8 3), (.int .u8 3), (.int .u8 3), (.int .u8 35), (.int .u8 3), (.int .u8 3), (.int .u8 52), (.int .u8 4), (.int .u8 4), (.int .u8 4), (.int .u8 68), (.int .u8 241), (.int .u8 241), (.int .u8 241), (.int .u8 241), (.int .u8 241), (.int .u8 241), (.int .u8 241), (.int .u8 241), (.int .u8 241), (.int .u8 241), (.int .u8 241)]
def g1 : List IV := [(.int .u8 128), (.int .u8 191), (.int .u8 160), (.int .u8 191), (.int .u8 128), (.int .u8 159), (.int .u8 144), (.int .u8 191), (.int .u8 128), (.int .u8 143), (.int .u8 0), (.int .u8 0), (.int .u8 0), (.int .u8 0), (.int .u8 0), (.int .u8 0), (.int .u8 0), (.int .u8 0), (.int .u8 0), (.int .u8 0), (.int .u8 0), (.int .u8 0), (.int .u8 0), (.int .u8 0), (.int .u8 0), (.int .u8 0), (.int .u8 0), (.int .u8 0), (.int .u8 0), (.int .u8 0), (.int .u8 0), (.int .u8 0)]
def tbl : List (Option TFunc) := [none, none, none, none, none, some t5, none, none, some t8, some t9, none, some t11, none, none, none, none, none, none, none, some t19, some t20, some t21, some t22, some t23, some t24, some t25, none, none, none, none, none, none, none, none, some t34, some t35, some t36, none, none, none, none, none, none, some t43, some t44, some t45, some t46, some t47, some t48, some t49, some t50, none, none, none, none, none, some t56, some t57, some t58, some t59, some t60, some t61, none, none, none, none, none, none, none, none, some t70, some t71, some t72, some t73, some t74, some t75, some t76, some t77, none, none, none, none, none, none, some t84, some t85, some t86, some t87, some t88, some t89, some t90, some t91, some t92, none, none, none, some t96, none, none, none, some t100, some t101, some t102, some t103, some t104, some t105, some t106, none, none, none, none, some t111, some t112, some t113, some t114, none, none, none, none, none, none, none, none, none, none, none, none, none, some t128, some t129, some t130]
def gtbl : List (Option (List IV)) := [some g0, some g1]
def K : TM.Prog := ⟨fun k => tbl.getD k none, fun g => gtbl.getD g none, fun _ => none⟩
/-- A function that stands in the table. -/
def Good (k : Nat) (tf : TFunc) : Prop := ∃ (A : Ann) (fn : Func), Tryd.prog.funcs[k]? = some fn ∧ fn.name ≠ "runtime.NumGoroutine" ∧ compFunc Tryd.prog opts A fn = some tf
theorem n5 : (Tryd.f5.name == "runtime.NumGoroutine") = false := by kernel_rfl
theorem q5 : Good 5 t5 := ⟨a5, Tryd.f5, Tryd.func5, fun e => by have h := n5; rw [e] at h; simp at h, c5⟩
theorem n8 : (Tryd.f8.name == "runtime.NumGoroutine") = false := by kernel_rfl
theorem q8 : Good 8 t8 := ⟨a8, Tryd.f8, Tryd.func8, fun e => by have h := n8; rw [e] at h; simp at h, c8⟩
theorem n9 : (Tryd.f9.name == "runtime.NumGoroutine") = false := by kernel_rfl
theorem q9 : Good 9 t9 := ⟨a9, Tryd.f9, Tryd.func9, fun e => by have h := n9; rw [e] at h; simp at h, c9⟩
theorem n11 : (Tryd.f11.name == "runtime.NumGoroutine") = false := by kernel_rfl
theorem q11 : Good 11 t11 := ⟨a11, Tryd.f11, Tryd.func11, fun e => by have h := n11; rw [e] at h; simp at h, c11⟩
theorem n19 : (Tryd.f19.name == "runtime.NumGoroutine") = false := by kernel_rfl
theorem q19 : Good 19 t19 := ⟨a19, Tryd.f19, Tryd.func19, fun e => by have h := n19; rw [e] at h; simp at h, c19⟩
theorem n20 : (Tryd.f20.name == "runtime.NumGoroutine") = false := by kernel_rfl
theorem q20 : Good 20 t20 := ⟨a20, Tryd.f20, Tryd.func20, fun e => by have h := n20; rw [e] at h; simp at h, c20⟩
theorem n21 : (Tryd.f21.name == "runtime.NumGoroutine") = false := by kernel_rfl
theorem q21 : Good 21 t21 := ⟨a21, Tryd.f21, Tryd.func21, fun e => by have h := n21; rw [e] at h; simp at h, c21⟩
theorem n22 : (Tryd.f22.name == "runtime.NumGoroutine") = false := by kernel_rfl
theorem q22 : Good 22 t22 := ⟨a22, Tryd.f22, Tryd.func22, fun e => by have h := n22; rw [e] at h; simp at h, c22⟩
theorem n23 : (Tryd.f23.name == "runtime.NumGoroutine") = false := by kernel_rfl
theorem q23 : Good 23 t23 := ⟨a23, Tryd.f23, Tryd.func23, fun e => by have h := n23; rw [e] at h; simp at h, c23⟩
theorem n24 : (Tryd.f24.name == "runtime.NumGoroutine") = false := by kernel_rfl
theorem q24 : Good 24 t24 := ⟨a24, Tryd.f24, Tryd.func24, fun e => by have h := n24; rw [e] at h; simp at h, c24⟩
theorem n25 : (Tryd.f25.name == "runtime.NumGoroutine") = false := by kernel_rfl
theorem q25 : Good 25 t25 := ⟨a25, Tryd.f25, Tryd.func25, fun e => by have h := n25; rw [e] at h; simp at h, c25⟩
theorem n34 : (Tryd.f34.name == "runtime.NumGoroutine") = false := by kernel_rfl
theorem q34 : Good 34 t34 := ⟨a34, Tryd.f34, Tryd.func34, fun e => by have h := n34; rw [e] at h; simp at h, c34⟩
theorem n35 : (Tryd.f35.name == "runtime.NumGoroutine") = false := by kernel_rfl
theorem q35 : Good 35 t35 := ⟨a35, Tryd.f35, Tryd.func35, fun e => by have h := n35; rw [e] at h; simp at h, c35⟩
theorem n36 : (Tryd.f36.name == "runtime.NumGoroutine") = false := by kernel_rfl
theorem q36 : Good 36 t36 := ⟨a36, Tryd.f36, Tryd.func36, fun e => by have h := n36; rw [e] at h; simp at h, c36⟩
theorem n43 : (Tryd.f43.name == "runtime.NumGoroutine") = false := by kernel_rfl
theorem q43 : Good 43 t43 := ⟨a43, Tryd.f43, Tryd.func43, fun e => by have h := n43; rw [e] at h; simp at h, c43⟩
theorem n44 : (Tryd.f44.name == "runtime.NumGoroutine") = false := by kernel_rfl
theorem q44 : Good 44 t44 := ⟨a44, Tryd.f44, Tryd.func44, fun e => by have h := n44; rw [e] at h; simp at h, c44⟩
theorem n45 : (Tryd.f45.name == "runtime.NumGoroutine") = false := by kernel_rfl
theorem q45 : Good 45 t45 := ⟨a45, Tryd.f45, Tryd.func45, fun e => by have h := n45; rw [e] at h; simp at h, c45⟩
theorem n46 : (Tryd.f46.name == "runtime.NumGoroutine") = false := by kernel_rfl
theorem q46 : Good 46 t46 := ⟨a46, Tryd.f46, Tryd.func46, fun e => by have h := n46; rw [e] at h; simp at h, c46⟩
theorem n47 : (Tryd.f47.name == "runtime.NumGoroutine") = false := by kernel_rfl
theorem q47 : Good 47 t47 := ⟨a47, Tryd.f47, Tryd.func47, fun e => by have h := n47; rw [e] at h; simp at h, c47⟩
theorem n48 : (Tryd.f48.name == "runtime.NumGoroutine") = false := by kernel_rfl
theorem q48 : Good 48 t48 := ⟨a48, Tryd.f48, Tryd.func48, fun e => by have h := n48; rw [e] at h; simp at h, c48⟩
theorem n49 : (Tryd.f49.name == "runtime.NumGoroutine") = false := by kernel_rfl
theorem q49 : Good 49 t49 := ⟨a49, Tryd.f49, Tryd.func49, fun e => by have h := n49; rw [e] at h; simp at h, c49⟩
theorem n50 : (Tryd.f50.name == "runtime.NumGoroutine") = false := by kernel_rfl
theorem q50 : Good 50 t50 := ⟨a50, Tryd.f50, Tryd.func50, fun e => by have h := n50; rw [e] at h; simp at h, c50⟩
theorem n56 : (Tryd.f56.name == "runtime.NumGoroutine") = false := by kernel_rfl
theorem q56 : Good 56 t56 := ⟨a56, Tryd.f56, Tryd.func56, fun e => by have h := n56; rw [e] at h; simp at h, c56⟩
theorem n57 : (Tryd.f57.name == "runtime.NumGoroutine") = false := by kernel_rfl
theorem q57 : Good 57 t57 := ⟨a57, Tryd.f57, Tryd.func57, fun e => by have h := n57; rw [e] at h; simp at h, c57⟩
theorem n58 : (Tryd.f58.name == "runtime.NumGoroutine") = false := by kernel_rfl
theorem q58 : Good 58 t58 := ⟨a58, Tryd.f58, Tryd.func58, fun e => by have h := n58; rw [e] at h; simp at h, c58⟩
theorem n59 : (Tryd.f59.name == "runtime.NumGoroutine") = false := by kernel_rfl
theorem q59 : Good 59 t59 := ⟨a59, Tryd.f59, Tryd.func59, fun e => by have h := n59; rw [e] at h; simp at h, c59⟩
theorem n60 : (Tryd.f60.name == "runtime.NumGoroutine") = false := by kernel_rfl
theorem q60 : Good 60 t60 := ⟨a60, Tryd.f60, Tryd.func60, fun e => by have h := n60; rw [e] at h; simp at h, c60⟩
theorem n61 : (Tryd.f61.name == "runtime.NumGoroutine") = false := by kernel_rfl
theorem q61 : Good 61 t61 := ⟨a61, Tryd.f61, Tryd.func61, fun e => by have h := n61; rw [e] at h; simp at h, c61⟩
theorem n70 : (Tryd.f70.name == "runtime.NumGoroutine") = false := by kernel_rfl
theorem q70 : Good 70 t70 := ⟨a70, Tryd.f70, Tryd.func70, fun e => by have h := n70; rw [e] at h; simp at h, c70⟩
theorem n71 : (Tryd.f71.name == "runtime.NumGoroutine") = false := by kernel_rfl
theorem q71 : Good 71 t71 := ⟨a71, Tryd.f71, Tryd.func71, fun e => by have h := n71; rw [e] at h; simp at h, c71⟩
theorem n72 : (Tryd.f72.name == "runtime.NumGoroutine") = false := by kernel_rfl
theorem q72 : Good 72 t72 := ⟨a72, Tryd.f72, Tryd.func72, fun e => by have h := n72; rw [e] at h; simp at h, c72⟩
theorem n73 : (Tryd.f73.name == "runtime.NumGoroutine") = false := by kernel_rfl
theorem q73 : Good 73 t73 := ⟨a73, Tryd.f73, Tryd.func73, fun e => by have h := n73; rw [e] at h; simp at h, c73⟩
theorem n74 : (Tryd.f74.name == "runtime.NumGoroutine") = false := by kernel_rfl
theorem q74 : Good 74 t74 := ⟨a74, Tryd.f74, Tryd.func74, fun e => by have h := n74; rw [e] at h; simp at h, c74⟩
theorem n75 : (Tryd.f75.name == "runtime.NumGoroutine") = false := by kernel_rfl
theorem q75 : Good 75 t75 := ⟨a75, Tryd.f75, Tryd.func75, fun e => by have h := n75; rw [e] at h; simp at h, c75⟩
theorem n76 : (Tryd.f76.name == "runtime.NumGoroutine") = false := by kernel_rfl
theorem q76 : Good 76 t76 := ⟨a76, Tryd.f76, Tryd.func76, fun e => by have h := n76; rw [e] at h; simp at h, c76⟩
theorem n77 : (Tryd.f77.name == "runtime.NumGoroutine") = false := by kernel_rfl
theorem q77 : Good 77 t77 := ⟨a77, Tryd.f77, Tryd.func77, fun e => by have h := n77; rw [e] at h; simp at h, c77⟩
theorem n84 : (Tryd.f84.name == "runtime.NumGoroutine") = false := by kernel_rfl
theorem q84 : Good 84 t84 := ⟨a84, Tryd.f84, Tryd.func84, fun e => by have h := n84; rw [e] at h; simp at h, c84⟩
theorem n85 : (Tryd.f85.name == "runtime.NumGoroutine") = false := by kernel_rfl
theorem q85 : Good 85 t85 := ⟨a85, Tryd.f85, Tryd.func85, fun e => by have h := n85; rw [e] at h; simp at h, c85⟩
theorem n86 : (Tryd.f86.name == "runtime.NumGoroutine") = false := by kernel_rfl
theorem q86 : Good 86 t86 := ⟨a86, Tryd.f86, Tryd.func86, fun e => by have h := n86; rw [e] at h; simp at h, c86⟩
theorem n87 : (Tryd.f87.name == "runtime.NumGoroutine") = false := by kernel_rfl
theorem q87 : Good 87 t87 := ⟨a87, Tryd.f87, Tryd.func87, fun e => by have h := n87; rw [e] at h; simp at h, c87⟩
theorem n88 : (Tryd.f88.name == "runtime.NumGoroutine") = false := by kernel_rfl
theorem q88 : Good 88 t88 := ⟨a88, Tryd.f88, Tryd.func88, fun e => by have h := n88; rw [e] at h; simp at h, c88⟩
theorem n89 : (Tryd.f89.name == "runtime.NumGoroutine") = false := by kernel_rfl
theorem q89 : Good 89 t89 := ⟨a89, Tryd.f89, Tryd.func89, fun e => by have h := n89; rw [e] at h; simp at h, c89⟩
theorem n90 : (Tryd.f90.name == "runtime.NumGoroutine") = false := by kernel_rfl
theorem q90 : Good 90 t90 := ⟨a90, Tryd.f90, Tryd.func90, fun e => by have h := n90; rw [e] at h; simp at h, c90⟩
theorem n91 : (Tryd.f91.name == "runtime.NumGoroutine") = false := by kernel_rfl
theorem q91 : Good 91 t91 := ⟨a91, Tryd.f91, Tryd.func91, fun e => by have h := n91; rw [e] at h; simp at h, c91⟩
theorem n92 : (Tryd.f92.name == "runtime.NumGoroutine") = false := by kernel_rfl
theorem q92 : Good 92 t92 := ⟨a92, Tryd.f92, Tryd.func92, fun e => by have h := n92; rw [e] at h; simp at h, c92⟩
theorem n96 : (Tryd.f96.name == "runtime.NumGoroutine") = false := by kernel_rfl
theorem q96 : Good 96 t96 := ⟨a96, Tryd.f96, Tryd.func96, fun e => by have h := n96; rw [e] at h; simp at h, c96⟩
theorem n100 : (Tryd.f100.name == "runtime.NumGoroutine") = false := by kernel_rfl
theorem q100 : Good 100 t100 := ⟨a100, Tryd.f100, Tryd.func100, fun e => by have h := n100; rw [e] at h; simp at h, c100⟩
theorem n101 : (Tryd.f101.name == "runtime.NumGoroutine") = false := by kernel_rfl
theorem q101 : Good 101 t101 := ⟨a101, Tryd.f101, Tryd.func101, fun e => by have h := n101; rw [e] at h; simp at h, c101⟩
theorem n102 : (Tryd.f102.name == "runtime.NumGoroutine") = false := by kernel_rfl
theorem q102 : Good 102 t102 := ⟨a102, Tryd.f102, Tryd.func102, fun e => by have h := n102; rw [e] at h; simp at h, c102⟩
theorem n103 : (Tryd.f103.name == "runtime.NumGoroutine") = false := by kernel_rfl
theorem q103 : Good 103 t103 := ⟨a103, Tryd.f103, Tryd.func103, fun e => by have h := n103; rw [e] at h; simp at h, c103⟩
theorem n104 : (Tryd.f104.name == "runtime.NumGoroutine") = false := by kernel_rfl
theorem q104 : Good 104 t104 := ⟨a104, Tryd.f104, Tryd.func104, fun e => by have h := n104; rw [e] at h; simp at h, c104⟩
theorem n105 : (Tryd.f105.name == "runtime.NumGoroutine") = false := by kernel_rfl
theorem q105 : Good 105 t105 := ⟨a105, Tryd.f105, Tryd.func105, fun e => by have h := n105; rw [e] at h; simp at h, c105⟩
theorem n106 : (Tryd.f106.name == "runtime.NumGoroutine") = false := by kernel_rfl
theorem q106 : Good 106 t106 := ⟨a106, Tryd.f106, Tryd.func106, fun e => by have h := n106; rw [e] at h; simp at h, c106⟩
theorem n111 : (Tryd.f111.name == "runtime.NumGoroutine") = false := by kernel_rfl
theorem q111 : Good 111 t111 := ⟨a111, Tryd.f111, Tryd.func111, fun e => by have h := n111; rw [e] at h; simp at h, c111⟩
theorem n112 : (Tryd.f112.name == "runtime.NumGoroutine") = false := by kernel_rfl
theorem q112 : Good 112 t112 := ⟨a112, Tryd.f112, Tryd.func112, fun e => by have h := n112; rw [e] at h; simp at h, c112⟩
theorem n113 : (Tryd.f113.name == "runtime.NumGoroutine") = false := by kernel_rfl
theorem q113 : Good 113 t113 := ⟨a113, Tryd.f113, Tryd.func113, fun e => by have h := n113; rw [e] at h; simp at h, c113⟩
theorem n114 : (Tryd.f114.name == "runtime.NumGoroutine") = false := by kernel_rfl
theorem q114 : Good 114 t114 := ⟨a114, Tryd.f114, Tryd.func114, fun e => by have h := n114; rw [e] at h; simp at h, c114⟩
theorem n128 : (Tryd.f128.name == "runtime.NumGoroutine") = false := by kernel_rfl
theorem q128 : Good 128 t128 := ⟨a128, Tryd.f128, Tryd.func128, fun e => by have h := n128; rw [e] at h; simp at h, c128⟩
theorem n129 : (Tryd.f129.name == "runtime.NumGoroutine") = false := by kernel_rfl
theorem q129 : Good 129 t129 := ⟨a129, Tryd.f129, Tryd.func129, fun e => by have h := n129; rw [e] at h; simp at h, c129⟩
theorem n130 : (Tryd.f130.name == "runtime.NumGoroutine") = false := by kernel_rfl
theorem q130 : Good 130 t130 := ⟨a130, Tryd.f130, Tryd.func130, fun e => by have h := n130; rw [e] at h; simp at h, c130⟩
theorem good : AllAt Good 0 tbl := ⟨q5, q8, q9, q11, q19, q20, q21, q22, q23, q24, q25, q34, q35, q36, q43, q44, q45, q46, q47, q48, q49, q50, q56, q57, q58, q59, q60, q61, q70, q71, q72, q73, q74, q75, q76, q77, q84, q85, q86, q87, q88, q89, q90, q91, q92, q96, q100, q101, q102, q103, q104, q105, q106, q111, q112, q113, q114, q128, q129, q130, trivial⟩
theorem kok : KOK Tryd.prog opts K := ⟨fun k tf h => allAt_get good k tf h, fun f p h => by simp [K] at h, by kernel_rfl⟩
end Go.Proofs.YtageemgcnoblnaaDoor
