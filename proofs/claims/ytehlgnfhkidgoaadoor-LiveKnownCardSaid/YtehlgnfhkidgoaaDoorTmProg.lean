/- The functions of this seat, compiled for the evaluator TM; each held against the translation by the kernel. By program. Condition: none. -/
import Derived.Test.YtehlgnfhkidgoaaDoorRows
import Derived.Test.YtehlgnfhkidgoaaDoorTmD
set_option maxRecDepth 100000
set_option linter.unusedVariables false
namespace Go.Proofs.YtehlgnfhkidgoaaDoor
open Go Go.TM
def opts : Opts := ⟨fun f => ([22, 23, 25, 26, 30, 31, 32, 33, 36, 37, 42, 43, 45, 47, 49, 56, 57, 58, 59, 60, 61, 63, 64, 67, 69, 76, 78, 79, 80, 87, 101, 102, 103, 104, 105, 106, 107] : List Nat).contains f, fun f => ([] : List Nat).contains f⟩
/-- pennant/pennantlaw21.LiveKnown -/
def a4 : Ann := { slots := [0, 1, 3, 5, 7, 9, 10], lb := [5], mu := [], trunc := [], draws := [] }
def t4 : TFunc := ⟨0, 7, [.loc 0],
 (.seq (.region [⟨.mov (.cst (.bool false)), (some 0), none⟩])
 (.seq (.region [⟨.call true false 18 [], none, none⟩, ⟨.call true false 13 [(.reg 0)], none, none⟩, ⟨.mov (.reg 1), none, none⟩, ⟨.extract 0 (.reg 2), none, none⟩, ⟨.extract 1 (.reg 2), none, none⟩, ⟨.mov (.reg 3), (some 1), none⟩, ⟨.mov (.reg 4), none, none⟩])
 (.seq (.region [⟨.call true false 18 [], none, none⟩, ⟨.call true false 15 [(.reg 0)], none, none⟩, ⟨.mov (.reg 1), none, none⟩, ⟨.extract 0 (.reg 2), none, none⟩, ⟨.extract 1 (.reg 2), none, none⟩, ⟨.mov (.reg 3), (some 2), none⟩, ⟨.mov (.reg 4), none, none⟩])
 (.seq (.region [⟨.call true false 18 [], none, none⟩, ⟨.allocL 3 [(.int .i64 0), (.int .i64 0), (.int .i64 0), (.int .i64 0), (.int .i64 0), (.bool false), (.sl .nil [])], none, none⟩, ⟨.store 7 (.reg 1) (.reg 0), none, none⟩])
 (.seq (.region [⟨.fieldAddr 1 (.loc 3), none, none⟩, ⟨.store 1 (.reg 0) (.cst (.int .i64 5)), none, none⟩])
 (.seq (.region [⟨.loadN 7 (.loc 3), none, none⟩, ⟨.call true false 13 [(.reg 0)], none, none⟩, ⟨.mov (.reg 1), none, none⟩, ⟨.extract 0 (.reg 2), none, none⟩, ⟨.extract 1 (.reg 2), none, none⟩, ⟨.mov (.reg 3), none, none⟩, ⟨.mov (.reg 4), (some 4), none⟩])
 (.seq (.region [⟨.loadN 7 (.loc 3), none, none⟩, ⟨.call true false 15 [(.reg 0)], none, none⟩, ⟨.mov (.reg 1), none, none⟩, ⟨.extract 0 (.reg 2), none, none⟩, ⟨.extract 1 (.reg 2), none, none⟩, ⟨.mov (.reg 3), none, none⟩, ⟨.mov (.reg 4), (some 5), none⟩])
 (.seq (.region [⟨.build [(.int .i64 0), (.int .i64 0), (.int .i64 0), (.int .i64 0), (.int .i64 0), (.int .i64 0), (.sl .nil []), (.sl .nil [])] [(0, 1, (.cst (.int .i64 67))), (1, 1, (.cst (.int .i64 4)))], none, none⟩, ⟨.call true false 11 [(.reg 0)], none, none⟩, ⟨.mov (.reg 1), (some 6), none⟩])
 (.seq (.region [⟨.call true false 7 [], none, none⟩, ⟨.mov (.reg 0), none, none⟩, ⟨.mov (.loc 1), none, (some (1, true))⟩, ⟨.len .sl (.reg 2), none, (some (1, true))⟩, ⟨.bin .eql (.reg 3) (.cst (.int .i64 8)), none, (some (1, true))⟩, ⟨.pick (.reg 1) (.reg 4) (.cst (.bool false)), none, none⟩, ⟨.mov (.reg 5), none, none⟩, ⟨.mov (.loc 1), none, (some (6, true))⟩, ⟨.indexAddrS 1 (.reg 7) (.cst (.int .i64 2)), none, (some (6, true))⟩, ⟨.load1 (.reg 8), none, (some (6, true))⟩, ⟨.lit false [(.int .i64 0)] 4 [(0, (.cst (.int .i64 4))), (1, (.cst (.int .i64 26))), (2, (.cst (.int .i64 32))), (3, (.cst (.int .i64 33)))], none, (some (6, true))⟩, ⟨.call true false 8 [(.reg 9), (.reg 10)], none, (some (6, true))⟩, ⟨.pick (.reg 6) (.reg 11) (.cst (.bool false)), none, none⟩, ⟨.mov (.reg 12), none, none⟩, ⟨.mov (.loc 2), none, (some (13, true))⟩, ⟨.indexAddrS 1 (.reg 14) (.cst (.int .i64 2)), none, (some (13, true))⟩, ⟨.load1 (.reg 15), none, (some (13, true))⟩, ⟨.lit false [(.int .i64 0)] 4 [(0, (.cst (.int .i64 4))), (1, (.cst (.int .i64 26))), (2, (.cst (.int .i64 32))), (3, (.cst (.int .i64 33)))], none, (some (13, true))⟩, ⟨.call true false 8 [(.reg 16), (.reg 17)], none, (some (13, true))⟩, ⟨.pick (.reg 13) (.reg 18) (.cst (.bool false)), none, none⟩, ⟨.mov (.reg 19), none, none⟩, ⟨.mov (.loc 2), none, (some (20, true))⟩, ⟨.indexAddrS 1 (.reg 21) (.cst (.int .i64 3)), none, (some (20, true))⟩, ⟨.load1 (.reg 22), none, (some (20, true))⟩, ⟨.lit false [(.int .i64 0)] 1 [(0, (.cst (.int .i64 26)))], none, (some (20, true))⟩, ⟨.call true false 8 [(.reg 23), (.reg 24)], none, (some (20, true))⟩, ⟨.pick (.reg 20) (.reg 25) (.cst (.bool false)), none, none⟩, ⟨.mov (.reg 26), none, none⟩, ⟨.mov (.loc 1), none, (some (27, true))⟩, ⟨.indexAddrS 1 (.reg 28) (.cst (.int .i64 6)), none, (some (27, true))⟩, ⟨.load1 (.reg 29), none, (some (27, true))⟩, ⟨.lit false [(.int .i64 0)] 2 [(0, (.cst (.int .i64 4))), (1, (.cst (.int .i64 26)))], none, (some (27, true))⟩, ⟨.call true false 8 [(.reg 30), (.reg 31)], none, (some (27, true))⟩, ⟨.pick (.reg 27) (.reg 32) (.cst (.bool false)), none, none⟩, ⟨.mov (.reg 33), none, none⟩, ⟨.mov (.loc 2), none, (some (34, true))⟩, ⟨.indexAddrS 1 (.reg 35) (.cst (.int .i64 6)), none, (some (34, true))⟩, ⟨.load1 (.reg 36), none, (some (34, true))⟩, ⟨.lit false [(.int .i64 0)] 1 [(0, (.cst (.int .i64 26)))], none, (some (34, true))⟩, ⟨.call true false 8 [(.reg 37), (.reg 38)], none, (some (34, true))⟩, ⟨.pick (.reg 34) (.reg 39) (.cst (.bool false)), none, none⟩, ⟨.mov (.reg 40), none, none⟩, ⟨.mov (.loc 1), none, (some (41, true))⟩, ⟨.indexAddrS 1 (.reg 42) (.cst (.int .i64 7)), none, (some (41, true))⟩, ⟨.load1 (.reg 43), none, (some (41, true))⟩, ⟨.lit false [(.int .i64 0)] 1 [(0, (.cst (.int .i64 26)))], none, (some (41, true))⟩, ⟨.call true false 8 [(.reg 44), (.reg 45)], none, (some (41, true))⟩, ⟨.pick (.reg 41) (.reg 46) (.cst (.bool false)), none, none⟩, ⟨.mov (.reg 47), none, none⟩, ⟨.mov (.loc 4), none, (some (48, true))⟩, ⟨.bin .eql (.reg 49) (.cst (.int .i64 2)), none, (some (48, true))⟩, ⟨.pick (.reg 48) (.reg 50) (.cst (.bool false)), none, none⟩, ⟨.mov (.reg 51), none, none⟩, ⟨.mov (.loc 5), none, (some (52, true))⟩, ⟨.bin .eql (.reg 53) (.cst (.int .i64 2)), none, (some (52, true))⟩, ⟨.pick (.reg 52) (.reg 54) (.cst (.bool false)), none, none⟩, ⟨.mov (.reg 55), none, none⟩, ⟨.mov (.loc 6), none, (some (56, true))⟩, ⟨.len .sl (.reg 57), none, (some (56, true))⟩, ⟨.bin .eql (.reg 58) (.cst (.int .i64 27)), none, (some (56, true))⟩, ⟨.pick (.reg 56) (.reg 59) (.cst (.bool false)), none, none⟩, ⟨.mov (.reg 60), none, none⟩, ⟨.mov (.loc 6), none, (some (61, true))⟩, ⟨.indexAddrS 1 (.reg 62) (.cst (.int .i64 26)), none, (some (61, true))⟩, ⟨.load1 (.reg 63), none, (some (61, true))⟩, ⟨.bin .eql (.reg 64) (.cst (.int .i64 31)), none, (some (61, true))⟩, ⟨.pick (.reg 61) (.reg 65) (.cst (.bool false)), none, none⟩, ⟨.mov (.reg 66), none, none⟩, ⟨.build [(.int .i64 0), (.int .i64 0), (.int .i64 0), (.int .i64 0), (.int .i64 0), (.int .i64 0), (.sl .nil []), (.sl .nil [])] [(0, 1, (.cst (.int .i64 1)))], none, (some (67, true))⟩, ⟨.call true false 11 [(.reg 68)], none, (some (67, true))⟩, ⟨.len .sl (.reg 69), none, (some (67, true))⟩, ⟨.bin .eql (.reg 70) (.cst (.int .i64 0)), none, (some (67, true))⟩, ⟨.pick (.reg 67) (.reg 71) (.cst (.bool false)), none, none⟩, ⟨.mov (.reg 72), none, none⟩, ⟨.build [(.int .i64 0), (.int .i64 0), (.int .i64 0), (.int .i64 0), (.int .i64 0), (.int .i64 0), (.sl .nil []), (.sl .nil [])] [(0, 1, (.cst (.int .i64 99)))], none, (some (73, true))⟩, ⟨.call true false 9 [(.reg 74)], none, (some (73, true))⟩, ⟨.len .sl (.reg 75), none, (some (73, true))⟩, ⟨.bin .eql (.reg 76) (.cst (.int .i64 0)), none, (some (73, true))⟩, ⟨.pick (.reg 73) (.reg 77) (.cst (.bool false)), none, none⟩, ⟨.mov (.reg 78), (some 0), none⟩])
 .ret)))))))))⟩
theorem c4 : compFunc Tryd.prog opts a4 Tryd.f4 = some t4 := by kernel_rfl
/-- pennant/pennantlaw21.awake -/
def a7 : Ann := { slots := [0, 1, 2, 3, 4], lb := [], mu := [], trunc := [], draws := [] }
def t7 : TFunc := ⟨0, 5, [.loc 0],
 (.seq (.region [⟨.mov (.cst (.bool false)), (some 0), none⟩])
 (.seq (.region [⟨.call true false 18 [], none, none⟩, ⟨.call true false 13 [(.reg 0)], none, none⟩, ⟨.mov (.reg 1), none, none⟩, ⟨.extract 0 (.reg 2), none, none⟩, ⟨.extract 1 (.reg 2), none, none⟩, ⟨.mov (.reg 3), (some 1), none⟩, ⟨.mov (.reg 4), (some 2), none⟩])
 (.seq (.region [⟨.call true false 18 [], none, none⟩, ⟨.call true false 15 [(.reg 0)], none, none⟩, ⟨.mov (.reg 1), none, none⟩, ⟨.extract 0 (.reg 2), none, none⟩, ⟨.extract 1 (.reg 2), none, none⟩, ⟨.mov (.reg 3), (some 3), none⟩, ⟨.mov (.reg 4), (some 4), none⟩])
 (.seq (.region [⟨.mov (.loc 2), none, none⟩, ⟨.bin .eql (.reg 0) (.cst (.int .i64 0)), none, none⟩, ⟨.mov (.reg 1), none, none⟩, ⟨.mov (.loc 4), none, (some (2, true))⟩, ⟨.bin .eql (.reg 3) (.cst (.int .i64 0)), none, (some (2, true))⟩, ⟨.pick (.reg 2) (.reg 4) (.cst (.bool false)), none, none⟩, ⟨.mov (.reg 5), none, none⟩, ⟨.mov (.loc 1), none, (some (6, true))⟩, ⟨.len .sl (.reg 7), none, (some (6, true))⟩, ⟨.bin .eql (.reg 8) (.cst (.int .i64 8)), none, (some (6, true))⟩, ⟨.pick (.reg 6) (.reg 9) (.cst (.bool false)), none, none⟩, ⟨.mov (.reg 10), none, none⟩, ⟨.mov (.loc 3), none, (some (11, true))⟩, ⟨.len .sl (.reg 12), none, (some (11, true))⟩, ⟨.bin .eql (.reg 13) (.cst (.int .i64 8)), none, (some (11, true))⟩, ⟨.pick (.reg 11) (.reg 14) (.cst (.bool false)), none, none⟩, ⟨.mov (.reg 15), none, none⟩, ⟨.mov (.loc 1), none, (some (16, true))⟩, ⟨.indexAddrS 1 (.reg 17) (.cst (.int .i64 0)), none, (some (16, true))⟩, ⟨.load1 (.reg 18), none, (some (16, true))⟩, ⟨.lit false [(.int .i64 0)] 2 [(0, (.cst (.int .i64 4))), (1, (.cst (.int .i64 26)))], none, (some (16, true))⟩, ⟨.call true false 8 [(.reg 19), (.reg 20)], none, (some (16, true))⟩, ⟨.pick (.reg 16) (.reg 21) (.cst (.bool false)), none, none⟩, ⟨.mov (.reg 22), none, none⟩, ⟨.mov (.loc 3), none, (some (23, true))⟩, ⟨.indexAddrS 1 (.reg 24) (.cst (.int .i64 0)), none, (some (23, true))⟩, ⟨.load1 (.reg 25), none, (some (23, true))⟩, ⟨.lit false [(.int .i64 0)] 3 [(0, (.cst (.int .i64 4))), (1, (.cst (.int .i64 26))), (2, (.cst (.int .i64 32)))], none, (some (23, true))⟩, ⟨.call true false 8 [(.reg 26), (.reg 27)], none, (some (23, true))⟩, ⟨.pick (.reg 23) (.reg 28) (.cst (.bool false)), none, none⟩, ⟨.mov (.reg 29), none, none⟩, ⟨.mov (.loc 1), none, (some (30, true))⟩, ⟨.indexAddrS 1 (.reg 31) (.cst (.int .i64 3)), none, (some (30, true))⟩, ⟨.load1 (.reg 32), none, (some (30, true))⟩, ⟨.lit false [(.int .i64 0)] 3 [(0, (.cst (.int .i64 26))), (1, (.cst (.int .i64 32))), (2, (.cst (.int .i64 33)))], none, (some (30, true))⟩, ⟨.call true false 8 [(.reg 33), (.reg 34)], none, (some (30, true))⟩, ⟨.pick (.reg 30) (.reg 35) (.cst (.bool false)), none, none⟩, ⟨.mov (.reg 36), none, none⟩, ⟨.mov (.loc 3), none, (some (37, true))⟩, ⟨.indexAddrS 1 (.reg 38) (.cst (.int .i64 7)), none, (some (37, true))⟩, ⟨.load1 (.reg 39), none, (some (37, true))⟩, ⟨.len .sl (.reg 40), none, (some (37, true))⟩, ⟨.bin .eql (.reg 41) (.cst (.int .i64 0)), none, (some (37, true))⟩, ⟨.pick (.reg 37) (.reg 42) (.cst (.bool false)), none, none⟩, ⟨.mov (.reg 43), (some 0), none⟩])
 .ret))))⟩
theorem c7 : compFunc Tryd.prog opts a7 Tryd.f7 = some t7 := by kernel_rfl
/-- pennant/pennantlaw21.same -/
def a8 : Ann := { slots := [0, 1, 4, 5, 10, 14, 25], lb := [], mu := [], trunc := [], draws := [(6, ⟨[0, 0, 3, 7, 0, 0, 48, 112, 255], [0, 1, 2, 3, 4, 5, 6, 7, 8], []⟩)] }
def t8 : TFunc := ⟨2, 7, [.loc 2],
 (.seq (.region [⟨.mov (.cst (.bool false)), (some 2), none⟩])
 (.seq (.seq (.region [⟨.mov (.loc 0), none, none⟩, ⟨.len .sl (.reg 0), none, none⟩, ⟨.mov (.loc 1), none, none⟩, ⟨.len .sl (.reg 2), none, none⟩, ⟨.bin .neq (.reg 1) (.reg 3), (some 4), none⟩])
 (.cond (.loc 4)
  (.seq (.region [⟨.mov (.cst (.bool false)), (some 2), none⟩])
  .ret)
  .skip))
 (.seq (.seq (.region [⟨.mov (.cst (.int .i64 0)), (some 3), none⟩])
 (.block 0
  (.loop
   (.seq (.seq (.region [⟨.mov (.loc 3), none, none⟩, ⟨.mov (.loc 0), none, none⟩, ⟨.len .sl (.reg 1), none, none⟩, ⟨.bin .lss (.reg 0) (.reg 2), (some 5), none⟩])
   (.cond (.loc 5)
    .skip
    (.exit 0)))
   (.seq (.block 1
    (.seq (.draw [0, 1, 2, 3, 4, 5, 6, 7, 8] [] [⟨.mov (.loc 0), none, none⟩, ⟨.mov (.loc 3), none, none⟩, ⟨.indexAddrS 1 (.reg 0) (.reg 1), none, none⟩, ⟨.load1 (.reg 2), none, none⟩, ⟨.mov (.loc 1), none, none⟩, ⟨.mov (.loc 3), none, none⟩, ⟨.indexAddrS 1 (.reg 4) (.reg 5), none, none⟩, ⟨.load1 (.reg 6), none, none⟩, ⟨.bin .neq (.reg 3) (.reg 7), (some 6), none⟩])
    (.cond (.loc 6)
     (.seq (.region [⟨.mov (.cst (.bool false)), (some 2), none⟩])
     .ret)
     .skip)))
   (.region [⟨.mov (.loc 3), none, none⟩, ⟨.bin .add (.reg 0) (.cst (.int .i64 1)), none, none⟩, ⟨.mov (.reg 1), (some 3), none⟩]))))))
 (.seq (.region [⟨.mov (.cst (.bool true)), (some 2), none⟩])
 .ret))))⟩
theorem c8 : compFunc Tryd.prog opts a8 Tryd.f8 = some t8 := by kernel_rfl
/-- pennant/live.Uses -/
def a9 : Ann := { slots := [0, 1, 2, 3, 24, 48], lb := [1], mu := [(4, 4), (8, 2), (12, 4)], trunc := [], draws := [] }
def t9 : TFunc := ⟨1, 6, [.loc 2],
 (.seq (.region [⟨.boxL 1 (.loc 0), none, none⟩, ⟨.mov (.cst (.sl .nil [])), (some 2), none⟩])
 (.seq (.block 0
  (.seq (.seq (.region [⟨.fieldAddr 0 (.loc 1), none, none⟩, ⟨.load1 (.reg 0), none, none⟩, ⟨.bin .geq (.reg 1) (.cst (.int .i64 1)), none, none⟩, ⟨.mov (.reg 2), none, none⟩, ⟨.fieldAddr 0 (.loc 1), none, (some (3, true))⟩, ⟨.load1 (.reg 4), none, (some (3, true))⟩, ⟨.bin .leq (.reg 5) (.cst (.int .i64 14)), none, (some (3, true))⟩, ⟨.pick (.reg 3) (.reg 6) (.cst (.bool false)), none, none⟩, ⟨.mov (.reg 7), (some 3), none⟩])
  (.cond (.loc 3)
   .skip
   (.seq (.region [⟨.fieldAddr 0 (.loc 1), none, none⟩, ⟨.load1 (.reg 0), none, none⟩, ⟨.bin .eql (.reg 1) (.cst (.int .i64 25)), none, none⟩, ⟨.mov (.reg 2), (some 3), none⟩])
   (.cond (.loc 3)
    .skip
    (.region [⟨.fieldAddr 0 (.loc 1), none, none⟩, ⟨.load1 (.reg 0), none, none⟩, ⟨.call true false 21 [(.reg 1)], none, none⟩, ⟨.mov (.reg 2), (some 3), none⟩])))))
  (.cond (.loc 3)
   (.seq (.region [⟨.fieldAddr 2 (.loc 1), none, none⟩, ⟨.load1 (.reg 0), none, none⟩, ⟨.fieldAddr 3 (.loc 1), none, none⟩, ⟨.load1 (.reg 2), none, none⟩, ⟨.lit true [(.int .i64 0)] 2 [(0, (.reg 1)), (1, (.reg 3))], none, none⟩, ⟨.call false false 22 [(.reg 4)], none, none⟩, ⟨.mov (.reg 5), (some 2), none⟩])
   .ret)
   (.seq (.seq (.region [⟨.fieldAddr 0 (.loc 1), none, none⟩, ⟨.load1 (.reg 0), none, none⟩, ⟨.bin .geq (.reg 1) (.cst (.int .i64 15)), none, none⟩, ⟨.mov (.reg 2), none, none⟩, ⟨.fieldAddr 0 (.loc 1), none, (some (3, true))⟩, ⟨.load1 (.reg 4), none, (some (3, true))⟩, ⟨.bin .leq (.reg 5) (.cst (.int .i64 24)), none, (some (3, true))⟩, ⟨.pick (.reg 3) (.reg 6) (.cst (.bool false)), none, none⟩, ⟨.mov (.reg 7), none, none⟩, ⟨.fieldAddr 0 (.loc 1), none, (some (8, true))⟩, ⟨.load1 (.reg 9), none, (some (8, true))⟩, ⟨.bin .neq (.reg 10) (.cst (.int .i64 23)), none, (some (8, true))⟩, ⟨.pick (.reg 8) (.reg 11) (.cst (.bool false)), none, none⟩, ⟨.mov (.reg 12), (some 4), none⟩])
   (.cond (.loc 4)
    .skip
    (.seq (.region [⟨.fieldAddr 0 (.loc 1), none, none⟩, ⟨.load1 (.reg 0), none, none⟩, ⟨.bin .eql (.reg 1) (.cst (.int .i64 64)), none, none⟩, ⟨.mov (.reg 2), (some 4), none⟩])
    (.cond (.loc 4)
     .skip
     (.region [⟨.fieldAddr 0 (.loc 1), none, none⟩, ⟨.load1 (.reg 0), none, none⟩, ⟨.bin .eql (.reg 1) (.cst (.int .i64 74)), none, none⟩, ⟨.mov (.reg 2), (some 4), none⟩])))))
   (.cond (.loc 4)
    (.seq (.region [⟨.fieldAddr 2 (.loc 1), none, none⟩, ⟨.load1 (.reg 0), none, none⟩, ⟨.lit true [(.int .i64 0)] 1 [(0, (.reg 1))], none, none⟩, ⟨.call false false 22 [(.reg 2)], none, none⟩, ⟨.mov (.reg 3), (some 2), none⟩])
    .ret)
    (.seq (.seq (.region [⟨.fieldAddr 0 (.loc 1), none, none⟩, ⟨.load1 (.reg 0), none, none⟩, ⟨.bin .eql (.reg 1) (.cst (.int .i64 67)), none, none⟩, ⟨.mov (.reg 2), (some 5), none⟩])
    (.cond (.loc 5)
     .skip
     (.seq (.region [⟨.fieldAddr 0 (.loc 1), none, none⟩, ⟨.load1 (.reg 0), none, none⟩, ⟨.bin .eql (.reg 1) (.cst (.int .i64 68)), none, none⟩, ⟨.mov (.reg 2), (some 5), none⟩])
     (.cond (.loc 5)
      .skip
      (.region [⟨.fieldAddr 0 (.loc 1), none, none⟩, ⟨.load1 (.reg 0), none, none⟩, ⟨.bin .eql (.reg 1) (.cst (.int .i64 72)), none, none⟩, ⟨.mov (.reg 2), (some 5), none⟩])))))
    (.cond (.loc 5)
     (.seq (.region [⟨.fieldAddr 6 (.loc 1), none, none⟩, ⟨.load1 (.reg 0), none, none⟩, ⟨.call false false 23 [(.reg 1)], none, none⟩, ⟨.lit false [(.int .i64 0)] 1 [(0, (.cst (.int .i64 26)))], none, none⟩, ⟨.append true 1 8 3 (.reg 2) (.reg 3), none, none⟩, ⟨.call false false 22 [(.reg 4)], none, none⟩, ⟨.mov (.reg 5), (some 2), none⟩])
     .ret)
     .skip)))))))
 (.seq (.region [⟨.mov (.cst (.sl .nil [])), (some 2), none⟩])
 .ret)))⟩
theorem c9 : compFunc Tryd.prog opts a9 Tryd.f9 = some t9 := by kernel_rfl
/-- pennant/live.Defs -/
def a11 : Ann := { slots := [0, 1, 2, 3, 4, 5, 18, 37, 44, 45], lb := [1], mu := [(2, 2), (6, 2), (8, 2)], trunc := [], draws := [] }
def t11 : TFunc := ⟨1, 10, [.loc 2],
 (.seq (.region [⟨.boxL 1 (.loc 0), none, none⟩, ⟨.mov (.cst (.sl .nil [])), (some 2), none⟩])
 (.seq (.block 0
  (.seq (.region [⟨.fieldAddr 0 (.loc 1), none, none⟩, ⟨.load1 (.reg 0), none, none⟩, ⟨.bin .geq (.reg 1) (.cst (.int .i64 1)), none, none⟩, ⟨.mov (.reg 2), none, none⟩, ⟨.fieldAddr 0 (.loc 1), none, (some (3, true))⟩, ⟨.load1 (.reg 4), none, (some (3, true))⟩, ⟨.bin .leq (.reg 5) (.cst (.int .i64 24)), none, (some (3, true))⟩, ⟨.pick (.reg 3) (.reg 6) (.cst (.bool false)), none, none⟩, ⟨.mov (.reg 7), (some 5), none⟩])
  (.cond (.loc 5)
   (.seq (.region [⟨.fieldAddr 1 (.loc 1), none, none⟩, ⟨.load1 (.reg 0), none, none⟩, ⟨.lit true [(.int .i64 0)] 1 [(0, (.reg 1))], none, none⟩, ⟨.call false false 22 [(.reg 2)], none, none⟩, ⟨.mov (.reg 3), (some 2), none⟩])
   .ret)
   (.seq (.seq (.region [⟨.fieldAddr 0 (.loc 1), none, none⟩, ⟨.load1 (.reg 0), none, none⟩, ⟨.bin .eql (.reg 1) (.cst (.int .i64 64)), none, none⟩, ⟨.mov (.reg 2), (some 6), none⟩])
   (.cond (.loc 6)
    .skip
    (.seq (.region [⟨.fieldAddr 0 (.loc 1), none, none⟩, ⟨.load1 (.reg 0), none, none⟩, ⟨.bin .geq (.reg 1) (.cst (.int .i64 69)), none, none⟩, ⟨.mov (.reg 2), none, none⟩, ⟨.fieldAddr 0 (.loc 1), none, (some (3, true))⟩, ⟨.load1 (.reg 4), none, (some (3, true))⟩, ⟨.bin .leq (.reg 5) (.cst (.int .i64 71)), none, (some (3, true))⟩, ⟨.pick (.reg 3) (.reg 6) (.cst (.bool false)), none, none⟩, ⟨.mov (.reg 7), (some 6), none⟩])
    (.cond (.loc 6)
     .skip
     (.region [⟨.fieldAddr 0 (.loc 1), none, none⟩, ⟨.load1 (.reg 0), none, none⟩, ⟨.bin .eql (.reg 1) (.cst (.int .i64 73)), none, none⟩, ⟨.mov (.reg 2), (some 6), none⟩])))))
   (.cond (.loc 6)
    (.seq (.region [⟨.fieldAddr 1 (.loc 1), none, none⟩, ⟨.load1 (.reg 0), none, none⟩, ⟨.lit true [(.int .i64 0)] 1 [(0, (.reg 1))], none, none⟩, ⟨.call false false 22 [(.reg 2)], none, none⟩, ⟨.mov (.reg 3), (some 2), none⟩])
    .ret)
    (.seq (.region [⟨.fieldAddr 0 (.loc 1), none, none⟩, ⟨.load1 (.reg 0), none, none⟩, ⟨.bin .eql (.reg 1) (.cst (.int .i64 67)), none, none⟩, ⟨.mov (.reg 2), (some 7), none⟩])
    (.cond (.loc 7)
     (.seq (.region [⟨.fieldAddr 1 (.loc 1), none, none⟩, ⟨.load1 (.reg 0), none, none⟩, ⟨.lit true [(.int .i64 0)] 3 [(0, (.reg 1)), (1, (.cst (.int .i64 26))), (2, (.cst (.int .i64 31)))], none, none⟩, ⟨.mov (.reg 2), (some 3), none⟩])
     (.seq (.seq (.region [⟨.mov (.cst (.int .i64 0)), (some 8), none⟩])
     (.block 1
      (.loop
       (.seq (.region [⟨.bin .lss (.loc 8) (.cst (.int .i64 25)), (some 9), none⟩])
       (.seq (.cond (.loc 9)
        .skip
        (.exit 1))
       (.seq (.block 2
        (.seq (.region [⟨.mov (.loc 8), none, none⟩, ⟨.mov (.reg 0), (some 4), none⟩])
        (.region [⟨.mov (.loc 3), none, none⟩, ⟨.mov (.loc 4), none, none⟩, ⟨.bin .add (.reg 1) (.cst (.int .i64 1)), none, none⟩, ⟨.lit false [(.int .i64 0)] 1 [(0, (.reg 2))], none, none⟩, ⟨.append false 1 8 3 (.reg 0) (.reg 3), none, none⟩, ⟨.mov (.reg 4), (some 3), none⟩])))
       (.region [⟨.bin .add (.loc 8) (.cst (.int .i64 1)), none, none⟩, ⟨.mov (.reg 0), (some 8), none⟩])))))))
     (.seq (.region [⟨.mov (.loc 3), none, none⟩, ⟨.call false false 22 [(.reg 0)], none, none⟩, ⟨.mov (.reg 1), (some 2), none⟩])
     .ret)))
     .skip)))))))
 (.seq (.region [⟨.mov (.cst (.sl .nil [])), (some 2), none⟩])
 .ret)))⟩
theorem c11 : compFunc Tryd.prog opts a11 Tryd.f11 = some t11 := by kernel_rfl
/-- pennant/live.In -/
def a13 : Ann := { slots := [0, 1, 2, 3, 4, 5, 12], lb := [1], mu := [], trunc := [], draws := [] }
def t13 : TFunc := ⟨1, 7, [.loc 2, .loc 3],
 (.seq (.region [⟨.boxL 1 (.loc 0), none, none⟩, ⟨.mov (.cst (.sl .nil [])), (some 2), none⟩, ⟨.mov (.cst (.int .i64 0)), (some 3), none⟩])
 (.seq (.region [⟨.loadN 7 (.loc 1), none, none⟩, ⟨.call false false 25 [(.reg 0)], none, none⟩, ⟨.mov (.reg 1), none, none⟩, ⟨.extract 0 (.reg 2), none, none⟩, ⟨.extract 1 (.reg 2), none, none⟩, ⟨.mov (.reg 3), (some 4), none⟩, ⟨.mov (.reg 4), (some 5), none⟩])
 (.seq (.seq (.region [⟨.mov (.loc 5), none, none⟩, ⟨.bin .neq (.reg 0) (.cst (.int .i64 0)), (some 6), none⟩])
 (.cond (.loc 6)
  (.seq (.region [⟨.mov (.loc 5), none, none⟩, ⟨.mov (.cst (.sl .nil [])), (some 2), none⟩, ⟨.mov (.reg 0), (some 3), none⟩])
  .ret)
  .skip))
 (.seq (.region [⟨.mov (.loc 4), none, none⟩, ⟨.nilCheck (.reg 0), none, none⟩, ⟨.fieldAddr 8 (.reg 1), none, none⟩, ⟨.load1 (.reg 2), none, none⟩, ⟨.call false false 26 [(.reg 3)], none, none⟩, ⟨.mov (.reg 4), (some 2), none⟩, ⟨.mov (.cst (.int .i64 0)), (some 3), none⟩])
 .ret))))⟩
theorem c13 : compFunc Tryd.prog opts a13 Tryd.f13 = some t13 := by kernel_rfl
/-- pennant/live.Out -/
def a15 : Ann := { slots := [0, 1, 2, 3, 4, 5, 12], lb := [1], mu := [], trunc := [], draws := [] }
def t15 : TFunc := ⟨1, 7, [.loc 2, .loc 3],
 (.seq (.region [⟨.boxL 1 (.loc 0), none, none⟩, ⟨.mov (.cst (.sl .nil [])), (some 2), none⟩, ⟨.mov (.cst (.int .i64 0)), (some 3), none⟩])
 (.seq (.region [⟨.loadN 7 (.loc 1), none, none⟩, ⟨.call false false 25 [(.reg 0)], none, none⟩, ⟨.mov (.reg 1), none, none⟩, ⟨.extract 0 (.reg 2), none, none⟩, ⟨.extract 1 (.reg 2), none, none⟩, ⟨.mov (.reg 3), (some 4), none⟩, ⟨.mov (.reg 4), (some 5), none⟩])
 (.seq (.seq (.region [⟨.mov (.loc 5), none, none⟩, ⟨.bin .neq (.reg 0) (.cst (.int .i64 0)), (some 6), none⟩])
 (.cond (.loc 6)
  (.seq (.region [⟨.mov (.loc 5), none, none⟩, ⟨.mov (.cst (.sl .nil [])), (some 2), none⟩, ⟨.mov (.reg 0), (some 3), none⟩])
  .ret)
  .skip))
 (.seq (.region [⟨.mov (.loc 4), none, none⟩, ⟨.nilCheck (.reg 0), none, none⟩, ⟨.fieldAddr 9 (.reg 1), none, none⟩, ⟨.load1 (.reg 2), none, none⟩, ⟨.call false false 26 [(.reg 3)], none, none⟩, ⟨.mov (.reg 4), (some 2), none⟩, ⟨.mov (.cst (.int .i64 0)), (some 3), none⟩])
 .ret))))⟩
theorem c15 : compFunc Tryd.prog opts a15 Tryd.f15 = some t15 := by kernel_rfl
/-- pennant/pennantlaw21.given -/
def a18 : Ann := { slots := [0], lb := [0], mu := [], trunc := [], draws := [] }
def t18 : TFunc := ⟨0, 1, [.cell 0 7 true],
 (.seq (.region [⟨.allocL 0 [(.int .i64 0), (.int .i64 0), (.int .i64 0), (.int .i64 0), (.int .i64 0), (.bool false), (.sl .nil [])], none, none⟩])
 (.seq (.region [⟨.build [(.int .i64 0), (.int .i64 0), (.int .i64 0), (.int .i64 0), (.int .i64 0), (.int .i64 0), (.sl .nil []), (.sl .nil [])] [(0, 1, (.cst (.int .i64 64))), (1, 1, (.cst (.int .i64 32))), (2, 1, (.cst (.int .i64 4)))], none, none⟩, ⟨.build [(.int .i64 0), (.int .i64 0), (.int .i64 0), (.int .i64 0), (.int .i64 0), (.int .i64 0), (.sl .nil []), (.sl .nil [])] [(0, 1, (.cst (.int .i64 1))), (1, 1, (.cst (.int .i64 33))), (2, 1, (.cst (.int .i64 32))), (3, 1, (.cst (.int .i64 32)))], none, none⟩, ⟨.build [(.int .i64 0), (.int .i64 0), (.int .i64 0), (.int .i64 0), (.int .i64 0), (.int .i64 0), (.sl .nil []), (.sl .nil [])] [(0, 1, (.cst (.int .i64 26))), (2, 1, (.cst (.int .i64 33))), (5, 1, (.cst (.int .i64 7)))], none, none⟩, ⟨.build [(.int .i64 0), (.int .i64 0), (.int .i64 0), (.int .i64 0), (.int .i64 0), (.int .i64 0), (.sl .nil []), (.sl .nil [])] [(0, 1, (.cst (.int .i64 25))), (2, 1, (.cst (.int .i64 32))), (3, 1, (.cst (.int .i64 33)))], none, none⟩, ⟨.build [(.int .i64 0), (.int .i64 0), (.int .i64 0), (.int .i64 0), (.int .i64 0), (.int .i64 0), (.sl .nil []), (.sl .nil [])] [(0, 1, (.cst (.int .i64 72))), (4, 1, (.cst (.int .i64 106)))], none, none⟩, ⟨.build [(.int .i64 0), (.int .i64 0), (.int .i64 0), (.int .i64 0), (.int .i64 0), (.int .i64 0), (.sl .nil []), (.sl .nil [])] [(0, 1, (.cst (.int .i64 65))), (5, 1, (.cst (.int .i64 7)))], none, none⟩, ⟨.lit false [(.int .i64 0)] 1 [(0, (.cst (.int .i64 4)))], none, none⟩, ⟨.build [(.int .i64 0), (.int .i64 0), (.int .i64 0), (.int .i64 0), (.int .i64 0), (.int .i64 0), (.sl .nil []), (.sl .nil [])] [(0, 1, (.cst (.int .i64 67))), (4, 1, (.cst (.int .i64 8))), (1, 1, (.cst (.int .i64 4))), (6, 1, (.reg 6))], none, none⟩, ⟨.build [(.int .i64 0), (.int .i64 0), (.int .i64 0), (.int .i64 0), (.int .i64 0), (.int .i64 0), (.sl .nil []), (.sl .nil [])] [(0, 1, (.cst (.int .i64 72))), (4, 1, (.cst (.int .i64 103)))], none, none⟩, ⟨.lit false [(.int .i64 0), (.int .i64 0), (.int .i64 0), (.int .i64 0), (.int .i64 0), (.int .i64 0), (.sl .nil []), (.sl .nil [])] 8 [(0, (.reg 0)), (1, (.reg 1)), (2, (.reg 2)), (3, (.reg 3)), (4, (.reg 4)), (5, (.reg 5)), (6, (.reg 7)), (7, (.reg 8))], none, none⟩, ⟨.build [(.int .i64 0), (.int .i64 0), (.int .i64 0), (.int .i64 0), (.int .i64 0), (.bool false), (.sl .nil [])] [(1, 1, (.cst (.int .i64 34))), (6, 1, (.reg 9))], none, none⟩, ⟨.store 7 (.loc 0) (.reg 10), none, none⟩])
 .ret))⟩
theorem c18 : compFunc Tryd.prog opts a18 Tryd.f18 = some t18 := by kernel_rfl
/-- pennant/live.branch -/
def a21 : Ann := { slots := [0, 2], lb := [], mu := [], trunc := [], draws := [] }
def t21 : TFunc := ⟨1, 2, [.loc 1],
 (.seq (.region [⟨.mov (.cst (.bool false)), (some 1), none⟩])
 (.seq (.region [⟨.mov (.loc 0), none, none⟩, ⟨.bin .geq (.reg 0) (.cst (.int .i64 26)), none, none⟩, ⟨.mov (.reg 1), none, none⟩, ⟨.mov (.loc 0), none, (some (2, true))⟩, ⟨.bin .leq (.reg 3) (.cst (.int .i64 31)), none, (some (2, true))⟩, ⟨.pick (.reg 2) (.reg 4) (.cst (.bool false)), none, none⟩, ⟨.mov (.reg 5), (some 1), none⟩])
 .ret))⟩
theorem c21 : compFunc Tryd.prog opts a21 Tryd.f21 = some t21 := by kernel_rfl
/-- pennant/live.tidy -/
def a22 : Ann := { slots := [0, 2], lb := [], mu := [], trunc := [], draws := [] }
def t22 : TFunc := ⟨1, 2, [.loc 1],
 (.seq (.region [⟨.mov (.cst (.sl .nil [])), (some 1), none⟩])
 (.seq (.region [⟨.mov (.loc 0), none, none⟩, ⟨.call false false 30 [(.reg 0), (.fn 31)], none, none⟩, ⟨.mov (.reg 1), (some 0), none⟩])
 (.seq (.region [⟨.mov (.loc 0), none, none⟩, ⟨.call false false 32 [(.reg 0)], none, none⟩])
 (.seq (.region [⟨.mov (.loc 0), none, none⟩, ⟨.call false false 33 [(.reg 0)], none, none⟩, ⟨.mov (.reg 1), (some 1), none⟩])
 .ret))))⟩
theorem c22 : compFunc Tryd.prog opts a22 Tryd.f22 = some t22 := by kernel_rfl
/-- slices.Clone[[]int,int] -/
def a23 : Ann := { slots := [0, 2, 4], lb := [], mu := [(3, 2)], trunc := [], draws := [] }
def t23 : TFunc := ⟨1, 3, [.loc 1],
 (.seq (.region [⟨.mov (.cst (.sl .nil [])), (some 1), none⟩])
 (.seq (.seq (.region [⟨.mov (.loc 0), none, none⟩, ⟨.eqB false .sl (.reg 0) (.cst (.sl .nil [])), (some 2), none⟩])
 (.cond (.loc 2)
  (.seq (.region [⟨.mov (.cst (.sl .nil [])), (some 1), none⟩])
  .ret)
  .skip))
 (.seq (.region [⟨.lit false [(.int .i64 0)] 0 [], none, none⟩, ⟨.mov (.loc 0), none, none⟩, ⟨.append true 1 8 3 (.reg 0) (.reg 1), none, none⟩, ⟨.mov (.reg 2), (some 1), none⟩])
 .ret)))⟩
theorem c23 : compFunc Tryd.prog opts a23 Tryd.f23 = some t23 := by kernel_rfl
/-- pennant/live.flows -/
def a25 : Ann := { slots := [0, 1, 2, 3, 4, 5, 6, 7, 8, 9, 10, 11, 12, 13, 14, 18, 36, 37, 38, 39, 59, 103, 107], lb := [11, 10, 1], mu := [], trunc := [], draws := [(5, ⟨[0, 0, 0, 4, 0, 16, 63, 127, 255], [0, 1, 2, 3, 4, 5, 6, 7, 8], []⟩), (6, ⟨[0, 1, 0, 4, 3, 31], [0, 1, 2, 3, 4, 5], []⟩), (10, ⟨[0, 1, 3, 7, 0, 16, 63, 127, 255, 255, 0, 1535, 4095], [0, 1, 2, 3, 4, 5, 6, 7, 8, 9, 10], [(11, [], [12])]⟩), (12, ⟨[0, 1, 3, 7, 0, 16, 0, 64, 255], [0, 1, 2, 3, 4, 5, 6, 7], [(8, [], [])]⟩), (13, ⟨[0, 0, 0, 0, 0, 16, 0, 64, 240, 0, 512, 0, 2544, 8176, 16371, 32755, 65535, 131071], [0, 1, 2, 3, 4, 5, 6, 9, 10, 11], [(7, [5, 10, 11], []), (8, [10, 11], []), (12, [10], []), (13, [], [14]), (15, [], [16]), (17, [], [])]⟩), (14, ⟨[0, 1, 3, 7, 0, 0, 32, 96, 224, 0, 0, 1024, 3072, 0, 8192, 31744, 65023, 130559, 262143, 524287], [0, 1, 2, 3, 4, 5, 6, 7, 8, 9, 10, 11, 13, 14], [(12, [3, 8, 14], []), (15, [3, 8], [16]), (17, [], [18]), (19, [], [])]⟩), (22, ⟨[0, 0, 0, 0, 12, 28, 0, 0, 192, 448, 1023, 2047, 4095, 8191, 16383], [0, 1, 2, 3, 4, 5, 6, 7, 8, 9], [(10, [], [11, 12, 13, 14])]⟩)] }
def t25 : TFunc := ⟨1, 23, [.loc 2, .loc 3],
 (.seq (.region [⟨.boxL 1 (.loc 0), none, none⟩, ⟨.mov (.cst .nilp), (some 2), none⟩, ⟨.mov (.cst (.int .i64 0)), (some 3), none⟩])
 (.seq (.seq (.region [⟨.loadN 7 (.loc 1), none, none⟩, ⟨.call true false 35 [(.reg 0)], none, none⟩, ⟨.mov (.reg 1), (some 4), none⟩])
 (.seq (.region [⟨.mov (.loc 4), none, none⟩, ⟨.bin .neq (.reg 0) (.cst (.int .i64 0)), (some 15), none⟩])
 (.cond (.loc 15)
  (.seq (.region [⟨.mov (.loc 4), none, none⟩, ⟨.mov (.cst .nilp), (some 2), none⟩, ⟨.mov (.reg 0), (some 3), none⟩])
  .ret)
  .skip)))
 (.seq (.region [⟨.fieldAddr 6 (.loc 1), none, none⟩, ⟨.load1 (.reg 0), none, none⟩, ⟨.len .sl (.reg 1), none, none⟩, ⟨.mov (.reg 2), (some 5), none⟩])
 (.seq (.draw [0, 1, 2, 3, 4, 5, 6, 7, 8] [] [⟨.loadN 7 (.loc 1), none, none⟩, ⟨.mkMap, none, none⟩, ⟨.mov (.loc 5), none, none⟩, ⟨.mkSlice [(.sl .nil [])] 24 (.reg 2) (.reg 2), none, none⟩, ⟨.mov (.loc 5), none, none⟩, ⟨.mkSlice [(.sl .nil [])] 24 (.reg 4) (.reg 4), none, none⟩, ⟨.build [(.int .i64 0), (.int .i64 0), (.int .i64 0), (.int .i64 0), (.int .i64 0), (.bool false), (.sl .nil []), .nilm, (.sl .nil []), (.sl .nil [])] [(0, 7, (.reg 0)), (7, 1, (.reg 1)), (8, 1, (.reg 3)), (9, 1, (.reg 5))], none, none⟩, ⟨.boxH (.reg 6), none, none⟩, ⟨.mov (.reg 7), (some 6), none⟩])
 (.seq (.draw [0, 1, 2, 3, 4, 5] [] [⟨.mov (.loc 5), none, none⟩, ⟨.mkSlice [(.sl .nil [])] 24 (.reg 0) (.reg 0), none, none⟩, ⟨.mov (.loc 5), none, none⟩, ⟨.mkSlice [(.sl .nil [])] 24 (.reg 2) (.reg 2), none, none⟩, ⟨.mov (.reg 1), (some 7), none⟩, ⟨.mov (.reg 3), (some 8), none⟩])
 (.seq (.seq (.region [⟨.fieldAddr 6 (.loc 1), none, none⟩, ⟨.load1 (.reg 0), (some 16), none⟩, ⟨.len .sl (.reg 1), (some 17), none⟩, ⟨.mov (.cst (.int .i64 0)), (some 18), none⟩])
 (.block 0
  (.loop
   (.seq (.region [⟨.bin .lss (.loc 18) (.loc 17), (some 19), none⟩])
   (.seq (.cond (.loc 19)
    .skip
    (.exit 0))
   (.seq (.block 1
    (.seq (.region [⟨.mov (.loc 18), none, none⟩, ⟨.indexAddrS 8 (.loc 16) (.loc 18), none, none⟩, ⟨.loadN 8 (.reg 1), none, none⟩, ⟨.allocL 10 [(.int .i64 0), (.int .i64 0), (.int .i64 0), (.int .i64 0), (.int .i64 0), (.int .i64 0), (.sl .nil []), (.sl .nil [])], none, none⟩, ⟨.mov (.reg 0), (some 9), none⟩, ⟨.store 8 (.reg 3) (.reg 2), none, none⟩])
    (.seq (.seq (.draw [0, 1, 2, 3, 4, 5, 6, 7, 8, 9, 10] [(11, [], [12])] [⟨.mov (.loc 6), none, none⟩, ⟨.nilCheck (.reg 0), none, none⟩, ⟨.fieldAddr 7 (.reg 1), none, none⟩, ⟨.load1 (.reg 2), none, none⟩, ⟨.fieldAddr 5 (.loc 10), none, none⟩, ⟨.load1 (.reg 4), none, none⟩, ⟨.lookup (.leaf .int) (.agg [(.int .i64 0)]) true (.reg 3) (.reg 5), none, none⟩, ⟨.mov (.reg 6), none, none⟩, ⟨.extract 0 (.reg 7), none, none⟩, ⟨.extract 1 (.reg 7), none, none⟩, ⟨.allocH 63 [(.int .i64 0)], (some 11), none⟩, ⟨.store 1 (.reg 10) (.reg 8), none, none⟩, ⟨.mov (.reg 9), (some 12), none⟩])
    (.seq (.region [⟨.fieldAddr 0 (.loc 10), none, none⟩, ⟨.load1 (.reg 0), none, none⟩, ⟨.bin .eql (.reg 1) (.cst (.int .i64 65)), none, none⟩, ⟨.mov (.reg 2), none, none⟩, ⟨.mov (.loc 12), none, (some (3, true))⟩, ⟨.un .not (.reg 4), none, (some (3, true))⟩, ⟨.pick (.reg 3) (.reg 5) (.cst (.bool false)), (some 20), none⟩])
    (.cond (.loc 20)
     (.draw [0, 1, 2, 3, 4, 5, 6, 7] [(8, [], [])] [⟨.mov (.loc 6), none, none⟩, ⟨.nilCheck (.reg 0), none, none⟩, ⟨.fieldAddr 7 (.reg 1), none, none⟩, ⟨.load1 (.reg 2), none, none⟩, ⟨.fieldAddr 5 (.loc 10), none, none⟩, ⟨.load1 (.reg 4), none, none⟩, ⟨.mov (.loc 9), none, none⟩, ⟨.build [(.int .i64 0)] [(0, 1, (.reg 6))], none, none⟩, ⟨.update (.leaf .int) (.reg 3) (.reg 5) (.reg 7), none, none⟩])
     .skip)))
    (.seq (.draw [0, 1, 2, 3, 4, 5, 6, 9, 10, 11] [(7, [5, 10, 11], []), (8, [10, 11], []), (12, [10], []), (13, [], [14]), (15, [], [16]), (17, [], [])] [⟨.mov (.loc 7), none, none⟩, ⟨.mov (.loc 9), none, none⟩, ⟨.mov (.loc 8), none, none⟩, ⟨.mov (.loc 9), none, none⟩, ⟨.fieldAddr 1 (.loc 1), none, none⟩, ⟨.load1 (.reg 4), none, none⟩, ⟨.loadN 8 (.loc 10), none, none⟩, ⟨.call true false 9 [(.reg 6)], none, none⟩, ⟨.call false false 36 [(.reg 5), (.reg 7)], none, none⟩, ⟨.fieldAddr 1 (.loc 1), none, none⟩, ⟨.load1 (.reg 9), none, none⟩, ⟨.loadN 8 (.loc 10), none, none⟩, ⟨.call true false 11 [(.reg 11)], none, none⟩, ⟨.call false false 36 [(.reg 10), (.reg 12)], none, none⟩, ⟨.indexAddrS 1 (.reg 0) (.reg 1), none, none⟩, ⟨.store 1 (.reg 14) (.reg 8), none, none⟩, ⟨.indexAddrS 1 (.reg 2) (.reg 3), none, none⟩, ⟨.store 1 (.reg 16) (.reg 13), none, none⟩])
    (.draw [0, 1, 2, 3, 4, 5, 6, 7, 8, 9, 10, 11, 13, 14] [(12, [3, 8, 14], []), (15, [3, 8], [16]), (17, [], [18]), (19, [], [])] [⟨.mov (.loc 6), none, none⟩, ⟨.nilCheck (.reg 0), none, none⟩, ⟨.fieldAddr 8 (.reg 1), none, none⟩, ⟨.load1 (.reg 2), none, none⟩, ⟨.mov (.loc 9), none, none⟩, ⟨.mov (.loc 6), none, none⟩, ⟨.nilCheck (.reg 5), none, none⟩, ⟨.fieldAddr 9 (.reg 6), none, none⟩, ⟨.load1 (.reg 7), none, none⟩, ⟨.mov (.loc 9), none, none⟩, ⟨.fieldAddr 1 (.loc 1), none, none⟩, ⟨.load1 (.reg 10), none, none⟩, ⟨.call false false 36 [(.reg 11), (.cst (.sl .nil []))], none, none⟩, ⟨.fieldAddr 1 (.loc 1), none, none⟩, ⟨.load1 (.reg 13), none, none⟩, ⟨.call false false 36 [(.reg 14), (.cst (.sl .nil []))], none, none⟩, ⟨.indexAddrS 1 (.reg 3) (.reg 4), none, none⟩, ⟨.store 1 (.reg 16) (.reg 12), none, none⟩, ⟨.indexAddrS 1 (.reg 8) (.reg 9), none, none⟩, ⟨.store 1 (.reg 18) (.reg 15), none, none⟩])))))
   (.region [⟨.bin .add (.loc 18) (.cst (.int .i64 1)), none, none⟩, ⟨.mov (.reg 0), (some 18), none⟩])))))))
 (.seq (.seq (.region [⟨.mov (.cst (.bool true)), (some 13), none⟩])
 (.block 2
  (.loop
   (.seq (.seq (.region [⟨.mov (.loc 13), (some 21), none⟩])
   (.cond (.loc 21)
    .skip
    (.exit 2)))
   (.block 3
    (.seq (.region [⟨.mov (.cst (.bool false)), (some 13), none⟩])
    (.seq (.region [⟨.mov (.loc 5), none, none⟩, ⟨.bin .sub (.reg 0) (.cst (.int .i64 1)), none, none⟩, ⟨.mov (.reg 1), (some 14), none⟩])
    (.block 4
     (.loop
      (.seq (.seq (.region [⟨.mov (.loc 14), none, none⟩, ⟨.bin .geq (.reg 0) (.cst (.int .i64 0)), (some 22), none⟩])
      (.cond (.loc 22)
       .skip
       (.exit 4)))
      (.seq (.block 5
       (.draw [0, 1, 2, 3, 4, 5, 6, 7, 8, 9] [(10, [], [11, 12, 13, 14])] [⟨.mov (.loc 6), none, none⟩, ⟨.mov (.loc 14), none, none⟩, ⟨.mov (.loc 7), none, none⟩, ⟨.mov (.loc 14), none, none⟩, ⟨.indexAddrS 1 (.reg 2) (.reg 3), none, none⟩, ⟨.load1 (.reg 4), none, none⟩, ⟨.mov (.loc 8), none, none⟩, ⟨.mov (.loc 14), none, none⟩, ⟨.indexAddrS 1 (.reg 6) (.reg 7), none, none⟩, ⟨.load1 (.reg 8), none, none⟩, ⟨.call false false 37 [(.reg 0), (.reg 1), (.reg 5), (.reg 9)], none, none⟩, ⟨.mov (.reg 10), none, none⟩, ⟨.mov (.loc 13), none, (some (11, false))⟩, ⟨.pick (.reg 11) (.cst (.bool true)) (.reg 12), none, none⟩, ⟨.mov (.reg 13), (some 13), none⟩]))
      (.region [⟨.mov (.loc 14), none, none⟩, ⟨.bin .sub (.reg 0) (.cst (.int .i64 1)), none, none⟩, ⟨.mov (.reg 1), (some 14), none⟩]))))))))))))
 (.seq (.region [⟨.mov (.loc 6), none, none⟩, ⟨.mov (.reg 0), (some 2), none⟩, ⟨.mov (.cst (.int .i64 0)), (some 3), none⟩])
 .ret))))))))⟩
theorem c25 : compFunc Tryd.prog opts a25 Tryd.f25 = some t25 := by kernel_rfl
/-- pennant/live.lists -/
def a26 : Ann := { slots := [0, 2, 4, 5, 6, 7, 8], lb := [], mu := [], trunc := [], draws := [] }
def t26 : TFunc := ⟨1, 7, [.loc 1],
 (.seq (.region [⟨.mov (.cst (.sl .nil [])), (some 1), none⟩])
 (.seq (.seq (.region [⟨.mov (.loc 0), (some 3), none⟩, ⟨.len .sl (.reg 0), (some 4), none⟩, ⟨.mov (.cst (.int .i64 0)), (some 5), none⟩])
 (.block 0
  (.loop
   (.seq (.region [⟨.bin .lss (.loc 5) (.loc 4), (some 6), none⟩])
   (.seq (.cond (.loc 6)
    .skip
    (.exit 0))
   (.seq (.block 1
    (.seq (.region [⟨.indexAddrS 1 (.loc 3) (.loc 5), none, none⟩, ⟨.load1 (.reg 0), none, none⟩, ⟨.mov (.reg 1), (some 2), none⟩])
    (.region [⟨.mov (.loc 1), none, none⟩, ⟨.mov (.loc 2), none, none⟩, ⟨.call true false 38 [(.reg 1)], none, none⟩, ⟨.lit false [(.sl .nil [])] 1 [(0, (.reg 2))], none, none⟩, ⟨.append false 1 24 28 (.reg 0) (.reg 3), none, none⟩, ⟨.mov (.reg 4), (some 1), none⟩])))
   (.region [⟨.bin .add (.loc 5) (.cst (.int .i64 1)), none, none⟩, ⟨.mov (.reg 0), (some 5), none⟩])))))))
 (.seq (.region [⟨.mov (.loc 1), none, none⟩, ⟨.mov (.reg 0), (some 1), none⟩])
 .ret)))⟩
theorem c26 : compFunc Tryd.prog opts a26 Tryd.f26 = some t26 := by kernel_rfl
/-- slices.DeleteFunc[[]int,int] -/
def a30 : Ann := { slots := [0, 1, 4, 5, 6, 7, 12, 19, 29], lb := [], mu := [], trunc := [], draws := [] }
def t30 : TFunc := ⟨2, 9, [.loc 2],
 (.seq (.region [⟨.mov (.cst (.sl .nil [])), (some 2), none⟩])
 (.seq (.region [⟨.mov (.loc 0), none, none⟩, ⟨.mov (.loc 1), none, none⟩, ⟨.call false false 42 [(.reg 0), (.reg 1)], none, none⟩, ⟨.mov (.reg 2), (some 3), none⟩])
 (.seq (.seq (.region [⟨.mov (.loc 3), none, none⟩, ⟨.bin .eql (.reg 0) (.cst (.int .i64 (-1))), (some 6), none⟩])
 (.cond (.loc 6)
  (.seq (.region [⟨.mov (.loc 0), none, none⟩, ⟨.mov (.reg 0), (some 2), none⟩])
  .ret)
  .skip))
 (.seq (.seq (.region [⟨.mov (.loc 3), none, none⟩, ⟨.bin .add (.reg 0) (.cst (.int .i64 1)), none, none⟩, ⟨.mov (.reg 1), (some 4), none⟩])
 (.block 0
  (.loop
   (.seq (.seq (.region [⟨.mov (.loc 4), none, none⟩, ⟨.mov (.loc 0), none, none⟩, ⟨.len .sl (.reg 1), none, none⟩, ⟨.bin .lss (.reg 0) (.reg 2), (some 7), none⟩])
   (.cond (.loc 7)
    .skip
    (.exit 0)))
   (.seq (.block 1
    (.seq (.region [⟨.mov (.loc 0), none, none⟩, ⟨.mov (.loc 4), none, none⟩, ⟨.indexAddrS 1 (.reg 0) (.reg 1), none, none⟩, ⟨.load1 (.reg 2), none, none⟩, ⟨.mov (.reg 3), (some 5), none⟩])
    (.seq (.region [⟨.mov (.loc 1), none, none⟩, ⟨.mov (.loc 5), none, none⟩, ⟨.callv (.reg 0) [(.reg 1)], none, none⟩, ⟨.un .not (.reg 2), (some 8), none⟩])
    (.cond (.loc 8)
     (.seq (.region [⟨.mov (.loc 0), none, none⟩, ⟨.mov (.loc 3), none, none⟩, ⟨.mov (.loc 5), none, none⟩, ⟨.indexAddrS 1 (.reg 0) (.reg 1), none, none⟩, ⟨.store 1 (.reg 3) (.reg 2), none, none⟩])
     (.region [⟨.mov (.loc 3), none, none⟩, ⟨.bin .add (.reg 0) (.cst (.int .i64 1)), none, none⟩, ⟨.mov (.reg 1), (some 3), none⟩]))
     .skip))))
   (.region [⟨.mov (.loc 4), none, none⟩, ⟨.bin .add (.reg 0) (.cst (.int .i64 1)), none, none⟩, ⟨.mov (.reg 1), (some 4), none⟩]))))))
 (.seq (.region [⟨.mov (.loc 0), none, none⟩, ⟨.mov (.loc 3), none, none⟩, ⟨.slice (.sl 1) (.reg 0) (some (.reg 1)) none none, none, none⟩, ⟨.clear [(.int .i64 0)] (.reg 2), none, none⟩])
 (.seq (.region [⟨.mov (.loc 0), none, none⟩, ⟨.mov (.loc 3), none, none⟩, ⟨.slice (.sl 1) (.reg 0) none (some (.reg 1)) none, none, none⟩, ⟨.mov (.reg 2), (some 2), none⟩])
 .ret))))))⟩
theorem c30 : compFunc Tryd.prog opts a30 Tryd.f30 = some t30 := by kernel_rfl
/-- pennant/live.tidy$1 -/
def a31 : Ann := { slots := [0, 2], lb := [], mu := [], trunc := [], draws := [] }
def t31 : TFunc := ⟨1, 2, [.loc 1],
 (.seq (.region [⟨.mov (.cst (.bool false)), (some 1), none⟩])
 (.seq (.region [⟨.mov (.loc 0), none, none⟩, ⟨.bin .leq (.reg 0) (.cst (.int .i64 0)), none, none⟩, ⟨.mov (.reg 1), (some 1), none⟩])
 .ret))⟩
theorem c31 : compFunc Tryd.prog opts a31 Tryd.f31 = some t31 := by kernel_rfl
/-- slices.Sort[[]int,int] -/
def a32 : Ann := { slots := [0, 2], lb := [], mu := [], trunc := [], draws := [] }
def t32 : TFunc := ⟨1, 2, [],
 (.seq (.region [⟨.mov (.loc 0), none, none⟩, ⟨.len .sl (.reg 0), none, none⟩, ⟨.mov (.reg 1), (some 1), none⟩])
 (.region [⟨.mov (.loc 0), none, none⟩, ⟨.mov (.loc 1), none, none⟩, ⟨.mov (.loc 1), none, none⟩, ⟨.conv (.toInt .u64) (.reg 2), none, none⟩, ⟨.call true false 44 [(.reg 3)], none, none⟩, ⟨.call false false 43 [(.reg 0), (.cst (.int .i64 0)), (.reg 1), (.reg 4)], none, none⟩]))⟩
theorem c32 : compFunc Tryd.prog opts a32 Tryd.f32 = some t32 := by kernel_rfl
/-- slices.Compact[[]int,int] -/
def a33 : Ann := { slots := [0, 2, 3, 4, 5, 8, 13, 25, 32, 44], lb := [], mu := [], trunc := [], draws := [(6, ⟨[0, 0, 3, 7, 0, 0, 32, 112, 240, 511], [0, 1, 2, 3, 4, 5, 6, 7, 8, 9], []⟩), (11, ⟨[0, 0, 3, 7, 0, 0, 32, 112, 240, 511], [0, 1, 2, 3, 4, 5, 6, 7, 8, 9], []⟩)] }
def t33 : TFunc := ⟨1, 10, [.loc 1],
 (.seq (.region [⟨.mov (.cst (.sl .nil [])), (some 1), none⟩])
 (.seq (.seq (.region [⟨.mov (.loc 0), none, none⟩, ⟨.len .sl (.reg 0), none, none⟩, ⟨.bin .lss (.reg 1) (.cst (.int .i64 2)), (some 5), none⟩])
 (.cond (.loc 5)
  (.seq (.region [⟨.mov (.loc 0), none, none⟩, ⟨.mov (.reg 0), (some 1), none⟩])
  .ret)
  .skip))
 (.seq (.seq (.region [⟨.mov (.cst (.int .i64 1)), (some 2), none⟩])
 (.block 0
  (.loop
   (.seq (.seq (.region [⟨.mov (.loc 2), none, none⟩, ⟨.mov (.loc 0), none, none⟩, ⟨.len .sl (.reg 1), none, none⟩, ⟨.bin .lss (.reg 0) (.reg 2), (some 6), none⟩])
   (.cond (.loc 6)
    .skip
    (.exit 0)))
   (.seq (.block 1
    (.seq (.draw [0, 1, 2, 3, 4, 5, 6, 7, 8, 9] [] [⟨.mov (.loc 0), none, none⟩, ⟨.mov (.loc 2), none, none⟩, ⟨.indexAddrS 1 (.reg 0) (.reg 1), none, none⟩, ⟨.load1 (.reg 2), none, none⟩, ⟨.mov (.loc 0), none, none⟩, ⟨.mov (.loc 2), none, none⟩, ⟨.bin .sub (.reg 5) (.cst (.int .i64 1)), none, none⟩, ⟨.indexAddrS 1 (.reg 4) (.reg 6), none, none⟩, ⟨.load1 (.reg 7), none, none⟩, ⟨.bin .eql (.reg 3) (.reg 8), (some 7), none⟩])
    (.cond (.loc 7)
     (.seq (.region [⟨.mov (.loc 0), none, none⟩, ⟨.mov (.loc 2), none, none⟩, ⟨.slice (.sl 1) (.reg 0) (some (.reg 1)) none none, none, none⟩, ⟨.mov (.reg 2), (some 3), none⟩])
     (.seq (.seq (.region [⟨.mov (.cst (.int .i64 1)), (some 4), none⟩])
     (.block 2
      (.loop
       (.seq (.seq (.region [⟨.mov (.loc 4), none, none⟩, ⟨.mov (.loc 3), none, none⟩, ⟨.len .sl (.reg 1), none, none⟩, ⟨.bin .lss (.reg 0) (.reg 2), (some 8), none⟩])
       (.cond (.loc 8)
        .skip
        (.exit 2)))
       (.seq (.block 3
        (.seq (.draw [0, 1, 2, 3, 4, 5, 6, 7, 8, 9] [] [⟨.mov (.loc 3), none, none⟩, ⟨.mov (.loc 4), none, none⟩, ⟨.indexAddrS 1 (.reg 0) (.reg 1), none, none⟩, ⟨.load1 (.reg 2), none, none⟩, ⟨.mov (.loc 3), none, none⟩, ⟨.mov (.loc 4), none, none⟩, ⟨.bin .sub (.reg 5) (.cst (.int .i64 1)), none, none⟩, ⟨.indexAddrS 1 (.reg 4) (.reg 6), none, none⟩, ⟨.load1 (.reg 7), none, none⟩, ⟨.bin .neq (.reg 3) (.reg 8), (some 9), none⟩])
        (.cond (.loc 9)
         (.seq (.region [⟨.mov (.loc 0), none, none⟩, ⟨.mov (.loc 2), none, none⟩, ⟨.mov (.loc 3), none, none⟩, ⟨.mov (.loc 4), none, none⟩, ⟨.indexAddrS 1 (.reg 2) (.reg 3), none, none⟩, ⟨.load1 (.reg 4), none, none⟩, ⟨.indexAddrS 1 (.reg 0) (.reg 1), none, none⟩, ⟨.store 1 (.reg 6) (.reg 5), none, none⟩])
         (.region [⟨.mov (.loc 2), none, none⟩, ⟨.bin .add (.reg 0) (.cst (.int .i64 1)), none, none⟩, ⟨.mov (.reg 1), (some 2), none⟩]))
         .skip)))
       (.region [⟨.mov (.loc 4), none, none⟩, ⟨.bin .add (.reg 0) (.cst (.int .i64 1)), none, none⟩, ⟨.mov (.reg 1), (some 4), none⟩]))))))
     (.seq (.region [⟨.mov (.loc 0), none, none⟩, ⟨.mov (.loc 2), none, none⟩, ⟨.slice (.sl 1) (.reg 0) (some (.reg 1)) none none, none, none⟩, ⟨.clear [(.int .i64 0)] (.reg 2), none, none⟩])
     (.seq (.region [⟨.mov (.loc 0), none, none⟩, ⟨.mov (.loc 2), none, none⟩, ⟨.slice (.sl 1) (.reg 0) none (some (.reg 1)) none, none, none⟩, ⟨.mov (.reg 2), (some 1), none⟩])
     .ret))))
     .skip)))
   (.region [⟨.mov (.loc 2), none, none⟩, ⟨.bin .add (.reg 0) (.cst (.int .i64 1)), none, none⟩, ⟨.mov (.reg 1), (some 2), none⟩]))))))
 (.seq (.region [⟨.mov (.loc 0), none, none⟩, ⟨.mov (.reg 0), (some 1), none⟩])
 .ret))))⟩
theorem c33 : compFunc Tryd.prog opts a33 Tryd.f33 = some t33 := by kernel_rfl
/-- pennant/isel.Check -/
def a35 : Ann := { slots := [0, 1, 2, 3, 5, 7, 8, 9, 33, 36, 37, 38, 39, 44, 52, 53, 54, 55, 74, 115, 125, 126], lb := [7, 5], mu := [], trunc := [], draws := [] }
def t35 : TFunc := ⟨1, 22, [.loc 2],
 (.seq (.region [⟨.boxH (.loc 0), (some 1), none⟩, ⟨.mov (.cst (.int .i64 0)), (some 2), none⟩])
 (.seq (.seq (.region [⟨.fieldAddr 1 (.loc 1), none, none⟩, ⟨.load1 (.reg 0), none, none⟩, ⟨.bin .lss (.reg 1) (.cst (.int .i64 32)), none, none⟩, ⟨.mov (.reg 2), none, none⟩, ⟨.fieldAddr 3 (.loc 1), none, (some (3, false))⟩, ⟨.load1 (.reg 4), none, (some (3, false))⟩, ⟨.bin .lss (.reg 5) (.cst (.int .i64 0)), none, (some (3, false))⟩, ⟨.pick (.reg 3) (.cst (.bool true)) (.reg 6), none, none⟩, ⟨.mov (.reg 7), none, none⟩, ⟨.fieldAddr 2 (.loc 1), none, (some (8, false))⟩, ⟨.load1 (.reg 9), none, (some (8, false))⟩, ⟨.bin .lss (.reg 10) (.cst (.int .i64 0)), none, (some (8, false))⟩, ⟨.pick (.reg 8) (.cst (.bool true)) (.reg 11), none, none⟩, ⟨.mov (.reg 12), none, none⟩, ⟨.fieldAddr 4 (.loc 1), none, (some (13, false))⟩, ⟨.load1 (.reg 14), none, (some (13, false))⟩, ⟨.bin .lss (.reg 15) (.cst (.int .i64 0)), none, (some (13, false))⟩, ⟨.pick (.reg 13) (.cst (.bool true)) (.reg 16), none, none⟩, ⟨.mov (.reg 17), none, none⟩, ⟨.fieldAddr 6 (.loc 1), none, (some (18, false))⟩, ⟨.load1 (.reg 19), none, (some (18, false))⟩, ⟨.len .sl (.reg 20), none, (some (18, false))⟩, ⟨.bin .eql (.reg 21) (.cst (.int .i64 0)), none, (some (18, false))⟩, ⟨.pick (.reg 18) (.cst (.bool true)) (.reg 22), (some 8), none⟩])
 (.cond (.loc 8)
  (.seq (.region [⟨.mov (.cst (.int .i64 2)), (some 2), none⟩])
  .ret)
  .skip))
 (.seq (.region [⟨.mkMap, none, none⟩, ⟨.mov (.reg 0), (some 3), none⟩])
 (.seq (.seq (.region [⟨.fieldAddr 6 (.loc 1), none, none⟩, ⟨.load1 (.reg 0), (some 9), none⟩, ⟨.len .sl (.reg 1), (some 10), none⟩, ⟨.mov (.cst (.int .i64 0)), (some 11), none⟩])
 (.block 0
  (.loop
   (.seq (.region [⟨.bin .lss (.loc 11) (.loc 10), (some 12), none⟩])
   (.seq (.cond (.loc 12)
    .skip
    (.exit 0))
   (.seq (.block 1
    (.seq (.region [⟨.indexAddrS 8 (.loc 9) (.loc 11), none, none⟩, ⟨.loadN 8 (.reg 0), none, none⟩, ⟨.allocL 4 [(.int .i64 0), (.int .i64 0), (.int .i64 0), (.int .i64 0), (.int .i64 0), (.int .i64 0), (.sl .nil []), (.sl .nil [])], none, none⟩, ⟨.store 8 (.reg 2) (.reg 1), none, none⟩])
    (.seq (.region [⟨.fieldAddr 0 (.loc 4), none, none⟩, ⟨.load1 (.reg 0), none, none⟩, ⟨.bin .eql (.reg 1) (.cst (.int .i64 65)), (some 13), none⟩])
    (.cond (.loc 13)
     (.region [⟨.mov (.loc 3), none, none⟩, ⟨.fieldAddr 5 (.loc 4), none, none⟩, ⟨.load1 (.reg 1), none, none⟩, ⟨.lookup (.leaf .int) (.int .i64 0) false (.reg 0) (.reg 2), none, none⟩, ⟨.bin .add (.reg 3) (.cst (.int .i64 1)), none, none⟩, ⟨.update (.leaf .int) (.reg 0) (.reg 2) (.reg 4), none, none⟩])
     .skip))))
   (.region [⟨.bin .add (.loc 11) (.cst (.int .i64 1)), none, none⟩, ⟨.mov (.reg 0), (some 11), none⟩])))))))
 (.seq (.seq (.region [⟨.fieldAddr 6 (.loc 1), none, none⟩, ⟨.load1 (.reg 0), (some 14), none⟩, ⟨.len .sl (.reg 1), (some 15), none⟩, ⟨.mov (.cst (.int .i64 0)), (some 16), none⟩])
 (.block 2
  (.loop
   (.seq (.region [⟨.bin .lss (.loc 16) (.loc 15), (some 17), none⟩])
   (.seq (.cond (.loc 17)
    .skip
    (.exit 2))
   (.seq (.block 3
    (.seq (.region [⟨.indexAddrS 8 (.loc 14) (.loc 16), none, none⟩, ⟨.loadN 8 (.reg 0), none, none⟩, ⟨.allocL 5 [(.int .i64 0), (.int .i64 0), (.int .i64 0), (.int .i64 0), (.int .i64 0), (.int .i64 0), (.sl .nil []), (.sl .nil [])], none, none⟩, ⟨.store 8 (.reg 2) (.reg 1), none, none⟩])
    (.seq (.region [⟨.fieldAddr 2 (.loc 5), none, none⟩, ⟨.load1 (.reg 0), none, none⟩, ⟨.fieldAddr 3 (.loc 5), none, none⟩, ⟨.load1 (.reg 2), none, none⟩, ⟨.lit false [(.int .i64 0)] 2 [(0, (.reg 1)), (1, (.reg 3))], none, none⟩, ⟨.fieldAddr 6 (.loc 5), none, none⟩, ⟨.load1 (.reg 5), none, none⟩, ⟨.lit false [(.sl .nil [])] 2 [(0, (.reg 4)), (1, (.reg 6))], none, none⟩, ⟨.call false false 45 [(.reg 7)], none, none⟩, ⟨.mov (.reg 8), (some 6), none⟩])
    (.seq (.seq (.region [⟨.fieldAddr 0 (.loc 5), none, none⟩, ⟨.load1 (.reg 0), none, none⟩, ⟨.bin .neq (.reg 1) (.cst (.int .i64 67)), none, none⟩, ⟨.mov (.reg 2), none, none⟩, ⟨.fieldAddr 1 (.loc 5), none, (some (3, false))⟩, ⟨.load1 (.reg 4), none, (some (3, false))⟩, ⟨.bin .geq (.reg 5) (.cst (.int .i64 0)), none, (some (3, false))⟩, ⟨.pick (.reg 3) (.cst (.bool true)) (.reg 6), (some 18), none⟩])
    (.cond (.loc 18)
     (.region [⟨.mov (.loc 6), none, none⟩, ⟨.fieldAddr 1 (.loc 5), none, none⟩, ⟨.load1 (.reg 1), none, none⟩, ⟨.lit false [(.int .i64 0)] 1 [(0, (.reg 2))], none, none⟩, ⟨.append false 1 8 3 (.reg 0) (.reg 3), none, none⟩, ⟨.mov (.reg 4), (some 6), none⟩])
     .skip))
    (.seq (.region [⟨.fieldAddr 0 (.loc 5), none, none⟩, ⟨.load1 (.reg 0), none, none⟩, ⟨.bin .geq (.reg 1) (.cst (.int .i64 26)), none, none⟩, ⟨.mov (.reg 2), none, none⟩, ⟨.fieldAddr 0 (.loc 5), none, (some (3, true))⟩, ⟨.load1 (.reg 4), none, (some (3, true))⟩, ⟨.bin .leq (.reg 5) (.cst (.int .i64 31)), none, (some (3, true))⟩, ⟨.pick (.reg 3) (.reg 6) (.cst (.bool false)), none, none⟩, ⟨.mov (.reg 7), none, none⟩, ⟨.fieldAddr 0 (.loc 5), none, (some (8, false))⟩, ⟨.load1 (.reg 9), none, (some (8, false))⟩, ⟨.bin .eql (.reg 10) (.cst (.int .i64 66)), none, (some (8, false))⟩, ⟨.pick (.reg 8) (.cst (.bool true)) (.reg 11), none, none⟩, ⟨.mov (.reg 12), none, none⟩, ⟨.fieldAddr 0 (.loc 5), none, (some (13, false))⟩, ⟨.load1 (.reg 14), none, (some (13, false))⟩, ⟨.bin .eql (.reg 15) (.cst (.int .i64 65)), none, (some (13, false))⟩, ⟨.pick (.reg 13) (.cst (.bool true)) (.reg 16), none, none⟩, ⟨.mov (.reg 17), (some 7), none⟩])
    (.seq (.region [⟨.loadN 8 (.loc 5), none, none⟩, ⟨.call true false 46 [(.reg 0)], none, none⟩, ⟨.un .not (.reg 1), none, none⟩, ⟨.mov (.reg 2), none, none⟩, ⟨.mov (.loc 6), none, (some (3, false))⟩, ⟨.mkFn 48 [] [(.loc 1)], none, (some (3, false))⟩, ⟨.call false false 47 [(.reg 4), (.reg 5)], none, (some (3, false))⟩, ⟨.pick (.reg 3) (.cst (.bool true)) (.reg 6), none, none⟩, ⟨.mov (.reg 7), none, none⟩, ⟨.mov (.loc 7), none, (some (8, false))⟩, ⟨.mov (.reg 9), none, (some (8, false))⟩, ⟨.mov (.loc 3), none, (some (10, true))⟩, ⟨.fieldAddr 5 (.loc 5), none, (some (10, true))⟩, ⟨.load1 (.reg 12), none, (some (10, true))⟩, ⟨.lookup (.leaf .int) (.int .i64 0) false (.reg 11) (.reg 13), none, (some (10, true))⟩, ⟨.bin .neq (.reg 14) (.cst (.int .i64 1)), none, (some (10, true))⟩, ⟨.pick (.reg 10) (.reg 15) (.cst (.bool false)), none, (some (8, false))⟩, ⟨.pick (.reg 8) (.cst (.bool true)) (.reg 16), (some 19), none⟩])
    (.cond (.loc 19)
     (.seq (.region [⟨.mov (.cst (.int .i64 2)), (some 2), none⟩])
     .ret)
     .skip)))))))
   (.region [⟨.bin .add (.loc 16) (.cst (.int .i64 1)), none, none⟩, ⟨.mov (.reg 0), (some 16), none⟩])))))))
 (.seq (.seq (.region [⟨.fieldAddr 6 (.loc 1), none, none⟩, ⟨.load1 (.reg 0), none, none⟩, ⟨.fieldAddr 6 (.loc 1), none, none⟩, ⟨.load1 (.reg 2), none, none⟩, ⟨.len .sl (.reg 3), none, none⟩, ⟨.bin .sub (.reg 4) (.cst (.int .i64 1)), none, none⟩, ⟨.indexAddrS 8 (.reg 1) (.reg 5), none, none⟩, ⟨.fieldAddr 0 (.reg 6), none, none⟩, ⟨.load1 (.reg 7), (some 20), none⟩])
 (.block 4
  (.seq (.seq (.region [⟨.bin .eql (.loc 20) (.cst (.int .i64 66)), none, none⟩, ⟨.mov (.reg 0), (some 21), none⟩])
  (.cond (.loc 21)
   .skip
   (.seq (.region [⟨.bin .eql (.loc 20) (.cst (.int .i64 68)), none, none⟩, ⟨.mov (.reg 0), (some 21), none⟩])
   (.cond (.loc 21)
    .skip
    (.region [⟨.bin .eql (.loc 20) (.cst (.int .i64 72)), none, none⟩, ⟨.mov (.reg 0), (some 21), none⟩])))))
  (.cond (.loc 21)
   (.seq (.region [⟨.mov (.cst (.int .i64 0)), (some 2), none⟩])
   .ret)
   .skip))))
 (.seq (.region [⟨.mov (.cst (.int .i64 2)), (some 2), none⟩])
 .ret)))))))⟩
theorem c35 : compFunc Tryd.prog opts a35 Tryd.f35 = some t35 := by kernel_rfl
/-- pennant/live.of -/
def a36 : Ann := { slots := [0, 1, 4, 5, 7, 13, 14, 15, 16, 21], lb := [], mu := [], trunc := [], draws := [(6, ⟨[0, 0, 2, 7, 15, 0, 32, 96, 255, 511, 1023], [0, 1, 2, 3, 4, 5, 6, 7, 8, 9], [(10, [], [])]⟩)] }
def t36 : TFunc := ⟨2, 10, [.loc 2],
 (.seq (.region [⟨.mov (.cst (.sl .nil [])), (some 2), none⟩])
 (.seq (.region [⟨.mov (.loc 0), none, none⟩, ⟨.bin .add (.reg 0) (.cst (.int .i64 64)), none, none⟩, ⟨.bin .sub (.reg 1) (.cst (.int .i64 1)), none, none⟩, ⟨.bin .quo (.reg 2) (.cst (.int .i64 64)), none, none⟩, ⟨.mkSlice [(.int .u64 0)] 8 (.reg 3) (.reg 3), none, none⟩, ⟨.mov (.reg 4), (some 3), none⟩])
 (.seq (.seq (.region [⟨.mov (.loc 1), (some 5), none⟩, ⟨.len .sl (.reg 0), (some 6), none⟩, ⟨.mov (.cst (.int .i64 0)), (some 7), none⟩])
 (.block 0
  (.loop
   (.seq (.region [⟨.bin .lss (.loc 7) (.loc 6), (some 8), none⟩])
   (.seq (.cond (.loc 8)
    .skip
    (.exit 0))
   (.seq (.block 1
    (.seq (.region [⟨.indexAddrS 1 (.loc 5) (.loc 7), none, none⟩, ⟨.load1 (.reg 0), none, none⟩, ⟨.mov (.reg 1), (some 4), none⟩])
    (.seq (.region [⟨.mov (.loc 4), none, none⟩, ⟨.mov (.loc 0), none, none⟩, ⟨.bin .lss (.reg 0) (.reg 1), (some 9), none⟩])
    (.cond (.loc 9)
     (.draw [0, 1, 2, 3, 4, 5, 6, 7, 8, 9] [(10, [], [])] [⟨.mov (.loc 3), none, none⟩, ⟨.mov (.loc 4), none, none⟩, ⟨.bin .quo (.reg 1) (.cst (.int .i64 64)), none, none⟩, ⟨.indexAddrS 1 (.reg 0) (.reg 2), none, none⟩, ⟨.load1 (.reg 3), none, none⟩, ⟨.mov (.loc 4), none, none⟩, ⟨.bin .rem (.reg 5) (.cst (.int .i64 64)), none, none⟩, ⟨.bin .shl (.cst (.int .u64 1)) (.reg 6), none, none⟩, ⟨.bin .or (.reg 4) (.reg 7), none, none⟩, ⟨.indexAddrS 1 (.reg 0) (.reg 2), none, none⟩, ⟨.store 1 (.reg 9) (.reg 8), none, none⟩])
     .skip))))
   (.region [⟨.bin .add (.loc 7) (.cst (.int .i64 1)), none, none⟩, ⟨.mov (.reg 0), (some 7), none⟩])))))))
 (.seq (.region [⟨.mov (.loc 3), none, none⟩, ⟨.mov (.reg 0), (some 2), none⟩])
 .ret))))⟩
theorem c36 : compFunc Tryd.prog opts a36 Tryd.f36 = some t36 := by kernel_rfl
/-- (*pennant/live.flow).one -/
def a37 : Ann := { slots := [0, 1, 2, 3, 4, 8, 9, 10, 11, 12, 13, 14, 23, 24, 26, 27, 28, 54, 55, 56], lb := [], mu := [], trunc := [], draws := [(7, ⟨[0, 0, 3, 7, 0, 16, 48, 112, 0, 496, 1008, 0, 4080, 8176, 16383, 32767, 65535], [0, 1, 2, 3, 4, 5, 6, 7, 8, 9, 10, 11, 12, 13, 14, 15], [(16, [], [])]⟩), (13, ⟨[0, 0, 0, 0, 12, 28, 0, 0, 192, 448, 0, 0, 3072, 7168, 16320, 32764, 65535, 131071], [0, 1, 2, 3, 4, 5, 6, 7, 8, 9, 10, 11, 12, 13, 14, 15, 16], [(17, [], [])]⟩), (16, ⟨[0, 1, 3, 7, 0, 0, 32, 96, 224, 0, 0, 0, 1535, 5631, 16383, 32767], [0, 1, 2, 3, 4, 5, 6, 7, 8, 9, 10, 11, 12], [(13, [11], [14]), (15, [], [])]⟩)] }
def t37 : TFunc := ⟨4, 20, [.loc 5],
 (.seq (.region [⟨.boxH (.loc 0), (some 4), none⟩, ⟨.mov (.cst (.bool false)), (some 5), none⟩])
 (.seq (.region [⟨.load1 (.loc 4), none, none⟩, ⟨.nilCheck (.reg 0), none, none⟩, ⟨.fieldAddr 0 (.reg 1), none, none⟩, ⟨.fieldAddr 1 (.reg 2), none, none⟩, ⟨.load1 (.reg 3), none, none⟩, ⟨.call false false 36 [(.reg 4), (.cst (.sl .nil []))], none, none⟩, ⟨.allocH 66 [(.sl .nil [])], (some 6), none⟩, ⟨.store 1 (.reg 6) (.reg 5), none, none⟩])
 (.seq (.seq (.region [⟨.load1 (.loc 4), none, none⟩, ⟨.mov (.loc 1), none, none⟩, ⟨.call false false 49 [(.reg 0), (.reg 1)], (some 12), none⟩])
 (.block 0
  (.rangeFunc (.loc 12) [13]
   (.region [⟨.mov (.loc 13), (some 7), none⟩])
   (.block 1
    (.seq (.region [⟨.load1 (.loc 6), none, none⟩, ⟨.len .sl (.reg 0), (some 14), none⟩, ⟨.mov (.cst (.int .i64 0)), (some 15), none⟩])
    (.block 2
     (.loop
      (.seq (.region [⟨.bin .lss (.loc 15) (.loc 14), (some 16), none⟩])
      (.seq (.cond (.loc 16)
       .skip
       (.exit 2))
      (.seq (.block 3
       (.seq (.region [⟨.mov (.loc 15), none, none⟩, ⟨.mov (.reg 0), (some 8), none⟩])
       (.draw [0, 1, 2, 3, 4, 5, 6, 7, 8, 9, 10, 11, 12, 13, 14, 15] [(16, [], [])] [⟨.load1 (.loc 6), none, none⟩, ⟨.mov (.loc 8), none, none⟩, ⟨.indexAddrS 1 (.reg 0) (.reg 1), none, none⟩, ⟨.load1 (.reg 2), none, none⟩, ⟨.load1 (.loc 4), none, none⟩, ⟨.nilCheck (.reg 4), none, none⟩, ⟨.fieldAddr 8 (.reg 5), none, none⟩, ⟨.load1 (.reg 6), none, none⟩, ⟨.mov (.loc 7), none, none⟩, ⟨.indexAddrS 1 (.reg 7) (.reg 8), none, none⟩, ⟨.load1 (.reg 9), none, none⟩, ⟨.mov (.loc 8), none, none⟩, ⟨.indexAddrS 1 (.reg 10) (.reg 11), none, none⟩, ⟨.load1 (.reg 12), none, none⟩, ⟨.bin .or (.reg 3) (.reg 13), none, none⟩, ⟨.indexAddrS 1 (.reg 0) (.reg 1), none, none⟩, ⟨.store 1 (.reg 15) (.reg 14), none, none⟩])))
      (.region [⟨.bin .add (.loc 15) (.cst (.int .i64 1)), none, none⟩, ⟨.mov (.reg 0), (some 15), none⟩])))))))))))
 (.seq (.region [⟨.load1 (.loc 4), none, none⟩, ⟨.nilCheck (.reg 0), none, none⟩, ⟨.fieldAddr 0 (.reg 1), none, none⟩, ⟨.fieldAddr 1 (.reg 2), none, none⟩, ⟨.load1 (.reg 3), none, none⟩, ⟨.call false false 36 [(.reg 4), (.cst (.sl .nil []))], none, none⟩, ⟨.mov (.reg 5), (some 9), none⟩])
 (.seq (.seq (.region [⟨.mov (.loc 9), none, none⟩, ⟨.len .sl (.reg 0), (some 17), none⟩, ⟨.mov (.cst (.int .i64 0)), (some 18), none⟩])
 (.block 4
  (.loop
   (.seq (.region [⟨.bin .lss (.loc 18) (.loc 17), (some 19), none⟩])
   (.seq (.cond (.loc 19)
    .skip
    (.exit 4))
   (.seq (.block 5
    (.seq (.region [⟨.mov (.loc 18), none, none⟩, ⟨.mov (.reg 0), (some 10), none⟩])
    (.draw [0, 1, 2, 3, 4, 5, 6, 7, 8, 9, 10, 11, 12, 13, 14, 15, 16] [(17, [], [])] [⟨.mov (.loc 9), none, none⟩, ⟨.mov (.loc 10), none, none⟩, ⟨.mov (.loc 2), none, none⟩, ⟨.mov (.loc 10), none, none⟩, ⟨.indexAddrS 1 (.reg 2) (.reg 3), none, none⟩, ⟨.load1 (.reg 4), none, none⟩, ⟨.load1 (.loc 6), none, none⟩, ⟨.mov (.loc 10), none, none⟩, ⟨.indexAddrS 1 (.reg 6) (.reg 7), none, none⟩, ⟨.load1 (.reg 8), none, none⟩, ⟨.mov (.loc 3), none, none⟩, ⟨.mov (.loc 10), none, none⟩, ⟨.indexAddrS 1 (.reg 10) (.reg 11), none, none⟩, ⟨.load1 (.reg 12), none, none⟩, ⟨.bin .andNot (.reg 9) (.reg 13), none, none⟩, ⟨.bin .or (.reg 5) (.reg 14), none, none⟩, ⟨.indexAddrS 1 (.reg 0) (.reg 1), none, none⟩, ⟨.store 1 (.reg 16) (.reg 15), none, none⟩])))
   (.region [⟨.bin .add (.loc 18) (.cst (.int .i64 1)), none, none⟩, ⟨.mov (.reg 0), (some 18), none⟩])))))))
 (.seq (.region [⟨.mov (.loc 9), none, none⟩, ⟨.load1 (.loc 4), none, none⟩, ⟨.nilCheck (.reg 1), none, none⟩, ⟨.fieldAddr 8 (.reg 2), none, none⟩, ⟨.load1 (.reg 3), none, none⟩, ⟨.mov (.loc 1), none, none⟩, ⟨.indexAddrS 1 (.reg 4) (.reg 5), none, none⟩, ⟨.load1 (.reg 6), none, none⟩, ⟨.call true false 50 [(.reg 0), (.reg 7)], none, none⟩, ⟨.un .not (.reg 8), none, none⟩, ⟨.mov (.reg 9), (some 11), none⟩])
 (.seq (.draw [0, 1, 2, 3, 4, 5, 6, 7, 8, 9, 10, 11, 12] [(13, [11], [14]), (15, [], [])] [⟨.load1 (.loc 4), none, none⟩, ⟨.nilCheck (.reg 0), none, none⟩, ⟨.fieldAddr 8 (.reg 1), none, none⟩, ⟨.load1 (.reg 2), none, none⟩, ⟨.mov (.loc 1), none, none⟩, ⟨.load1 (.loc 4), none, none⟩, ⟨.nilCheck (.reg 5), none, none⟩, ⟨.fieldAddr 9 (.reg 6), none, none⟩, ⟨.load1 (.reg 7), none, none⟩, ⟨.mov (.loc 1), none, none⟩, ⟨.mov (.loc 9), none, none⟩, ⟨.load1 (.loc 6), none, none⟩, ⟨.indexAddrS 1 (.reg 3) (.reg 4), none, none⟩, ⟨.store 1 (.reg 12) (.reg 10), none, none⟩, ⟨.indexAddrS 1 (.reg 8) (.reg 9), none, none⟩, ⟨.store 1 (.reg 14) (.reg 11), none, none⟩])
 (.seq (.region [⟨.mov (.loc 11), none, none⟩, ⟨.mov (.reg 0), (some 5), none⟩])
 .ret))))))))⟩
theorem c37 : compFunc Tryd.prog opts a37 Tryd.f37 = some t37 := by kernel_rfl
/-- (pennant/live.set).list -/
def a38 : Ann := { slots := [0, 2, 3, 4, 5, 6, 7, 8, 13], lb := [], mu := [], trunc := [], draws := [] }
def t38 : TFunc := ⟨1, 9, [.loc 1],
 (.seq (.region [⟨.mov (.cst (.sl .nil [])), (some 1), none⟩])
 (.seq (.seq (.region [⟨.mov (.loc 0), (some 4), none⟩, ⟨.len .sl (.reg 0), (some 5), none⟩, ⟨.mov (.cst (.int .i64 0)), (some 6), none⟩])
 (.block 0
  (.loop
   (.seq (.region [⟨.bin .lss (.loc 6) (.loc 5), (some 7), none⟩])
   (.seq (.cond (.loc 7)
    .skip
    (.exit 0))
   (.seq (.block 1
    (.seq (.region [⟨.mov (.loc 6), none, none⟩, ⟨.indexAddrS 1 (.loc 4) (.loc 6), none, none⟩, ⟨.load1 (.reg 1), none, none⟩, ⟨.mov (.reg 0), (some 2), none⟩, ⟨.mov (.reg 2), (some 3), none⟩])
    (.block 2
     (.loop
      (.seq (.seq (.region [⟨.mov (.loc 3), none, none⟩, ⟨.bin .neq (.reg 0) (.cst (.int .u64 0)), (some 8), none⟩])
      (.cond (.loc 8)
       .skip
       (.exit 2)))
      (.seq (.block 3
       (.region [⟨.mov (.loc 1), none, none⟩, ⟨.mov (.loc 2), none, none⟩, ⟨.bin .mul (.cst (.int .i64 64)) (.reg 1), none, none⟩, ⟨.mov (.loc 3), none, none⟩, ⟨.call true false 51 [(.reg 3)], none, none⟩, ⟨.bin .add (.reg 2) (.reg 4), none, none⟩, ⟨.lit false [(.int .i64 0)] 1 [(0, (.reg 5))], none, none⟩, ⟨.append false 1 8 3 (.reg 0) (.reg 6), none, none⟩, ⟨.mov (.reg 7), (some 1), none⟩]))
      (.region [⟨.mov (.loc 3), none, none⟩, ⟨.mov (.loc 3), none, none⟩, ⟨.bin .sub (.reg 1) (.cst (.int .u64 1)), none, none⟩, ⟨.bin .and (.reg 0) (.reg 2), none, none⟩, ⟨.mov (.reg 3), (some 3), none⟩])))))))
   (.region [⟨.bin .add (.loc 6) (.cst (.int .i64 1)), none, none⟩, ⟨.mov (.reg 0), (some 6), none⟩])))))))
 (.seq (.region [⟨.mov (.loc 1), none, none⟩, ⟨.mov (.reg 0), (some 1), none⟩])
 .ret)))⟩
theorem c38 : compFunc Tryd.prog opts a38 Tryd.f38 = some t38 := by kernel_rfl
/-- slices.IndexFunc[[]int,int] -/
def a42 : Ann := { slots := [0, 1, 4, 5, 7, 8, 9, 16], lb := [], mu := [], trunc := [], draws := [] }
def t42 : TFunc := ⟨2, 8, [.loc 2],
 (.seq (.region [⟨.mov (.cst (.int .i64 0)), (some 2), none⟩])
 (.seq (.seq (.region [⟨.mov (.loc 0), none, none⟩, ⟨.len .sl (.reg 0), (some 4), none⟩, ⟨.mov (.cst (.int .i64 0)), (some 5), none⟩])
 (.block 0
  (.loop
   (.seq (.region [⟨.bin .lss (.loc 5) (.loc 4), (some 6), none⟩])
   (.seq (.cond (.loc 6)
    .skip
    (.exit 0))
   (.seq (.block 1
    (.seq (.region [⟨.mov (.loc 5), none, none⟩, ⟨.mov (.reg 0), (some 3), none⟩])
    (.seq (.region [⟨.mov (.loc 1), none, none⟩, ⟨.mov (.loc 0), none, none⟩, ⟨.mov (.loc 3), none, none⟩, ⟨.indexAddrS 1 (.reg 1) (.reg 2), none, none⟩, ⟨.load1 (.reg 3), none, none⟩, ⟨.callv (.reg 0) [(.reg 4)], (some 7), none⟩])
    (.cond (.loc 7)
     (.seq (.region [⟨.mov (.loc 3), none, none⟩, ⟨.mov (.reg 0), (some 2), none⟩])
     .ret)
     .skip))))
   (.region [⟨.bin .add (.loc 5) (.cst (.int .i64 1)), none, none⟩, ⟨.mov (.reg 0), (some 5), none⟩])))))))
 (.seq (.region [⟨.mov (.cst (.int .i64 (-1))), (some 2), none⟩])
 .ret)))⟩
theorem c42 : compFunc Tryd.prog opts a42 Tryd.f42 = some t42 := by kernel_rfl
/-- slices.pdqsortOrdered[int] -/
def a43 : Ann := { slots := [0, 1, 2, 3, 8, 9, 10, 11, 12, 13, 14, 15, 16, 17, 18, 23, 29, 35, 50, 68, 72, 87, 113], lb := [], mu := [], trunc := [], draws := [(17, ⟨[0, 1, 3, 7, 7, 23, 63, 127, 7, 7, 775, 1799, 4095, 8191, 16383], [0, 1, 2, 3, 4, 5, 6, 7, 8, 9, 10, 11], [(12, [], [13, 14])]⟩)] }
def t43 : TFunc := ⟨4, 23, [],
 (.seq (.region [⟨.mov (.cst (.bool true)), (some 4), none⟩])
 (.seq (.region [⟨.mov (.cst (.bool true)), (some 5), none⟩])
 (.block 0
  (.loop
   (.block 1
    (.seq (.region [⟨.mov (.loc 2), none, none⟩, ⟨.mov (.loc 1), none, none⟩, ⟨.bin .sub (.reg 0) (.reg 1), none, none⟩, ⟨.mov (.reg 2), (some 6), none⟩])
    (.seq (.seq (.region [⟨.mov (.loc 6), none, none⟩, ⟨.bin .leq (.reg 0) (.cst (.int .i64 12)), (some 15), none⟩])
    (.cond (.loc 15)
     (.seq (.region [⟨.mov (.loc 0), none, none⟩, ⟨.mov (.loc 1), none, none⟩, ⟨.mov (.loc 2), none, none⟩, ⟨.call false false 56 [(.reg 0), (.reg 1), (.reg 2)], none, none⟩])
     .ret)
     .skip))
    (.seq (.seq (.region [⟨.mov (.loc 3), none, none⟩, ⟨.bin .eql (.reg 0) (.cst (.int .i64 0)), (some 16), none⟩])
    (.cond (.loc 16)
     (.seq (.region [⟨.mov (.loc 0), none, none⟩, ⟨.mov (.loc 1), none, none⟩, ⟨.mov (.loc 2), none, none⟩, ⟨.call false false 57 [(.reg 0), (.reg 1), (.reg 2)], none, none⟩])
     .ret)
     .skip))
    (.seq (.seq (.region [⟨.mov (.loc 4), none, none⟩, ⟨.un .not (.reg 0), (some 17), none⟩])
    (.cond (.loc 17)
     (.seq (.region [⟨.mov (.loc 0), none, none⟩, ⟨.mov (.loc 1), none, none⟩, ⟨.mov (.loc 2), none, none⟩, ⟨.call false false 58 [(.reg 0), (.reg 1), (.reg 2)], none, none⟩])
     (.region [⟨.mov (.loc 3), none, none⟩, ⟨.bin .sub (.reg 0) (.cst (.int .i64 1)), none, none⟩, ⟨.mov (.reg 1), (some 3), none⟩]))
     .skip))
    (.seq (.region [⟨.mov (.loc 0), none, none⟩, ⟨.mov (.loc 1), none, none⟩, ⟨.mov (.loc 2), none, none⟩, ⟨.call false false 59 [(.reg 0), (.reg 1), (.reg 2)], none, none⟩, ⟨.mov (.reg 3), none, none⟩, ⟨.extract 0 (.reg 4), none, none⟩, ⟨.extract 1 (.reg 4), none, none⟩, ⟨.mov (.reg 5), (some 7), none⟩, ⟨.mov (.reg 6), (some 8), none⟩])
    (.seq (.seq (.region [⟨.mov (.loc 8), none, none⟩, ⟨.bin .eql (.reg 0) (.cst (.int .i64 2)), (some 18), none⟩])
    (.cond (.loc 18)
     (.seq (.region [⟨.mov (.loc 0), none, none⟩, ⟨.mov (.loc 1), none, none⟩, ⟨.mov (.loc 2), none, none⟩, ⟨.call false false 60 [(.reg 0), (.reg 1), (.reg 2)], none, none⟩])
     (.seq (.region [⟨.mov (.loc 2), none, none⟩, ⟨.bin .sub (.reg 0) (.cst (.int .i64 1)), none, none⟩, ⟨.mov (.loc 7), none, none⟩, ⟨.mov (.loc 1), none, none⟩, ⟨.bin .sub (.reg 2) (.reg 3), none, none⟩, ⟨.bin .sub (.reg 1) (.reg 4), none, none⟩, ⟨.mov (.reg 5), (some 7), none⟩])
     (.region [⟨.mov (.cst (.int .i64 1)), (some 8), none⟩])))
     .skip))
    (.seq (.seq (.region [⟨.mov (.loc 4), none, none⟩, ⟨.mov (.reg 0), none, none⟩, ⟨.mov (.loc 5), none, (some (1, true))⟩, ⟨.pick (.reg 1) (.reg 2) (.cst (.bool false)), none, none⟩, ⟨.mov (.reg 3), none, none⟩, ⟨.mov (.loc 8), none, (some (4, true))⟩, ⟨.bin .eql (.reg 5) (.cst (.int .i64 1)), none, (some (4, true))⟩, ⟨.pick (.reg 4) (.reg 6) (.cst (.bool false)), (some 19), none⟩])
    (.cond (.loc 19)
     (.seq (.region [⟨.mov (.loc 0), none, none⟩, ⟨.mov (.loc 1), none, none⟩, ⟨.mov (.loc 2), none, none⟩, ⟨.call false false 61 [(.reg 0), (.reg 1), (.reg 2)], (some 20), none⟩])
     (.cond (.loc 20)
      .ret
      .skip))
     .skip))
    (.seq (.seq (.draw [0, 1, 2, 3, 4, 5, 6, 7, 8, 9, 10, 11] [(12, [], [13, 14])] [⟨.mov (.loc 1), none, none⟩, ⟨.bin .gtr (.reg 0) (.cst (.int .i64 0)), none, none⟩, ⟨.mov (.reg 1), none, none⟩, ⟨.mov (.loc 0), none, (some (2, true))⟩, ⟨.mov (.loc 1), none, (some (2, true))⟩, ⟨.bin .sub (.reg 4) (.cst (.int .i64 1)), none, (some (2, true))⟩, ⟨.indexAddrS 1 (.reg 3) (.reg 5), none, (some (2, true))⟩, ⟨.load1 (.reg 6), none, (some (2, true))⟩, ⟨.mov (.loc 0), none, (some (2, true))⟩, ⟨.mov (.loc 7), none, (some (2, true))⟩, ⟨.indexAddrS 1 (.reg 8) (.reg 9), none, (some (2, true))⟩, ⟨.load1 (.reg 10), none, (some (2, true))⟩, ⟨.call true false 62 [(.reg 7), (.reg 11)], none, (some (2, true))⟩, ⟨.un .not (.reg 12), none, (some (2, true))⟩, ⟨.pick (.reg 2) (.reg 13) (.cst (.bool false)), (some 21), none⟩])
    (.cond (.loc 21)
     (.seq (.region [⟨.mov (.loc 0), none, none⟩, ⟨.mov (.loc 1), none, none⟩, ⟨.mov (.loc 2), none, none⟩, ⟨.mov (.loc 7), none, none⟩, ⟨.call false false 63 [(.reg 0), (.reg 1), (.reg 2), (.reg 3)], none, none⟩, ⟨.mov (.reg 4), (some 9), none⟩])
     (.seq (.region [⟨.mov (.loc 9), none, none⟩, ⟨.mov (.reg 0), (some 1), none⟩])
     (.exit 1)))
     .skip))
    (.seq (.region [⟨.mov (.loc 0), none, none⟩, ⟨.mov (.loc 1), none, none⟩, ⟨.mov (.loc 2), none, none⟩, ⟨.mov (.loc 7), none, none⟩, ⟨.call false false 64 [(.reg 0), (.reg 1), (.reg 2), (.reg 3)], none, none⟩, ⟨.mov (.reg 4), none, none⟩, ⟨.extract 0 (.reg 5), none, none⟩, ⟨.extract 1 (.reg 5), none, none⟩, ⟨.mov (.reg 6), (some 10), none⟩, ⟨.mov (.reg 7), (some 11), none⟩])
    (.seq (.region [⟨.mov (.loc 11), none, none⟩, ⟨.mov (.reg 0), (some 5), none⟩])
    (.seq (.region [⟨.mov (.loc 10), none, none⟩, ⟨.mov (.loc 1), none, none⟩, ⟨.bin .sub (.reg 0) (.reg 1), none, none⟩, ⟨.mov (.loc 2), none, none⟩, ⟨.mov (.loc 10), none, none⟩, ⟨.bin .sub (.reg 3) (.reg 4), none, none⟩, ⟨.mov (.reg 2), (some 12), none⟩, ⟨.mov (.reg 5), (some 13), none⟩])
    (.seq (.region [⟨.mov (.loc 6), none, none⟩, ⟨.bin .quo (.reg 0) (.cst (.int .i64 8)), none, none⟩, ⟨.mov (.reg 1), (some 14), none⟩])
    (.seq (.region [⟨.mov (.loc 12), none, none⟩, ⟨.mov (.loc 13), none, none⟩, ⟨.bin .lss (.reg 0) (.reg 1), (some 22), none⟩])
    (.cond (.loc 22)
     (.seq (.region [⟨.mov (.loc 12), none, none⟩, ⟨.mov (.loc 14), none, none⟩, ⟨.bin .geq (.reg 0) (.reg 1), none, none⟩, ⟨.mov (.reg 2), (some 4), none⟩])
     (.seq (.region [⟨.mov (.loc 0), none, none⟩, ⟨.mov (.loc 1), none, none⟩, ⟨.mov (.loc 10), none, none⟩, ⟨.mov (.loc 3), none, none⟩, ⟨.call false false 43 [(.reg 0), (.reg 1), (.reg 2), (.reg 3)], none, none⟩])
     (.region [⟨.mov (.loc 10), none, none⟩, ⟨.bin .add (.reg 0) (.cst (.int .i64 1)), none, none⟩, ⟨.mov (.reg 1), (some 1), none⟩])))
     (.seq (.region [⟨.mov (.loc 13), none, none⟩, ⟨.mov (.loc 14), none, none⟩, ⟨.bin .geq (.reg 0) (.reg 1), none, none⟩, ⟨.mov (.reg 2), (some 4), none⟩])
     (.seq (.region [⟨.mov (.loc 0), none, none⟩, ⟨.mov (.loc 10), none, none⟩, ⟨.bin .add (.reg 1) (.cst (.int .i64 1)), none, none⟩, ⟨.mov (.loc 2), none, none⟩, ⟨.mov (.loc 3), none, none⟩, ⟨.call false false 43 [(.reg 0), (.reg 2), (.reg 3), (.reg 4)], none, none⟩])
     (.region [⟨.mov (.loc 10), none, none⟩, ⟨.mov (.reg 0), (some 2), none⟩]))))))))))))))))))))))⟩
theorem c43 : compFunc Tryd.prog opts a43 Tryd.f43 = some t43 := by kernel_rfl
/-- math/bits.Len -/
def a44 : Ann := { slots := [0, 2], lb := [], mu := [], trunc := [], draws := [] }
def t44 : TFunc := ⟨1, 2, [.loc 1],
 (.seq (.region [⟨.mov (.cst (.int .i64 0)), (some 1), none⟩])
 (.seq (.cond (.cst (.bool false))
  (.seq (.region [⟨.mov (.loc 0), none, none⟩, ⟨.conv (.toInt .u32) (.reg 0), none, none⟩, ⟨.call true false 65 [(.reg 1)], none, none⟩, ⟨.mov (.reg 2), (some 1), none⟩])
  .ret)
  .skip)
 (.seq (.region [⟨.mov (.loc 0), none, none⟩, ⟨.call true false 66 [(.reg 0)], none, none⟩, ⟨.mov (.reg 1), (some 1), none⟩])
 .ret)))⟩
theorem c44 : compFunc Tryd.prog opts a44 Tryd.f44 = some t44 := by kernel_rfl
/-- slices.Concat[[]int,int] -/
def a45 : Ann := { slots := [0, 2, 3, 5, 6, 8, 9, 10, 11, 12, 20, 25, 26, 27, 28], lb := [], mu := [], trunc := [], draws := [] }
def t45 : TFunc := ⟨1, 15, [.loc 1],
 (.seq (.region [⟨.mov (.cst (.sl .nil [])), (some 1), none⟩])
 (.seq (.region [⟨.mov (.cst (.int .i64 0)), (some 2), none⟩])
 (.seq (.seq (.region [⟨.mov (.loc 0), (some 6), none⟩, ⟨.len .sl (.reg 0), (some 7), none⟩, ⟨.mov (.cst (.int .i64 0)), (some 8), none⟩])
 (.block 0
  (.loop
   (.seq (.region [⟨.bin .lss (.loc 8) (.loc 7), (some 9), none⟩])
   (.seq (.cond (.loc 9)
    .skip
    (.exit 0))
   (.seq (.block 1
    (.seq (.region [⟨.indexAddrS 1 (.loc 6) (.loc 8), none, none⟩, ⟨.load1 (.reg 0), none, none⟩, ⟨.mov (.reg 1), (some 3), none⟩])
    (.seq (.region [⟨.mov (.loc 2), none, none⟩, ⟨.mov (.loc 3), none, none⟩, ⟨.len .sl (.reg 1), none, none⟩, ⟨.bin .add (.reg 0) (.reg 2), none, none⟩, ⟨.mov (.reg 3), (some 2), none⟩])
    (.seq (.region [⟨.mov (.loc 2), none, none⟩, ⟨.bin .lss (.reg 0) (.cst (.int .i64 0)), (some 10), none⟩])
    (.cond (.loc 10)
     (.region [⟨.bad, none, none⟩, ⟨.bad, none, none⟩])
     .skip)))))
   (.region [⟨.bin .add (.loc 8) (.cst (.int .i64 1)), none, none⟩, ⟨.mov (.reg 0), (some 8), none⟩])))))))
 (.seq (.region [⟨.mov (.loc 2), none, none⟩, ⟨.call false false 67 [(.cst (.sl .nil [])), (.reg 0)], none, none⟩, ⟨.mov (.reg 1), (some 4), none⟩])
 (.seq (.seq (.region [⟨.mov (.loc 0), (some 11), none⟩, ⟨.len .sl (.reg 0), (some 12), none⟩, ⟨.mov (.cst (.int .i64 0)), (some 13), none⟩])
 (.block 2
  (.loop
   (.seq (.region [⟨.bin .lss (.loc 13) (.loc 12), (some 14), none⟩])
   (.seq (.cond (.loc 14)
    .skip
    (.exit 2))
   (.seq (.block 3
    (.seq (.region [⟨.indexAddrS 1 (.loc 11) (.loc 13), none, none⟩, ⟨.load1 (.reg 0), none, none⟩, ⟨.mov (.reg 1), (some 5), none⟩])
    (.region [⟨.mov (.loc 4), none, none⟩, ⟨.mov (.loc 5), none, none⟩, ⟨.append false 1 8 3 (.reg 0) (.reg 1), none, none⟩, ⟨.mov (.reg 2), (some 4), none⟩])))
   (.region [⟨.bin .add (.loc 13) (.cst (.int .i64 1)), none, none⟩, ⟨.mov (.reg 0), (some 13), none⟩])))))))
 (.seq (.region [⟨.mov (.loc 4), none, none⟩, ⟨.mov (.reg 0), (some 1), none⟩])
 .ret))))))⟩
theorem c45 : compFunc Tryd.prog opts a45 Tryd.f45 = some t45 := by kernel_rfl
/-- pennant/isel.formed -/
def a46 : Ann := { slots := [0, 1, 2], lb := [1], mu := [], trunc := [], draws := [] }
def t46 : TFunc := ⟨1, 3, [.loc 2],
 (.seq (.region [⟨.boxL 1 (.loc 0), none, none⟩, ⟨.mov (.cst (.bool false)), (some 2), none⟩])
 (.seq (.region [⟨.loadN 8 (.loc 1), none, none⟩, ⟨.call true false 68 [(.reg 0)], none, none⟩, ⟨.mov (.reg 1), none, none⟩, ⟨.fieldAddr 0 (.loc 1), none, (some (2, false))⟩, ⟨.load1 (.reg 3), none, (some (2, false))⟩, ⟨.bin .geq (.reg 4) (.cst (.int .i64 26)), none, (some (2, false))⟩, ⟨.mov (.reg 5), none, (some (2, false))⟩, ⟨.fieldAddr 0 (.loc 1), none, (some (6, true))⟩, ⟨.load1 (.reg 7), none, (some (6, true))⟩, ⟨.bin .leq (.reg 8) (.cst (.int .i64 31)), none, (some (6, true))⟩, ⟨.pick (.reg 6) (.reg 9) (.cst (.bool false)), none, (some (2, false))⟩, ⟨.pick (.reg 2) (.cst (.bool true)) (.reg 10), none, none⟩, ⟨.mov (.reg 11), none, none⟩, ⟨.fieldAddr 0 (.loc 1), none, (some (12, false))⟩, ⟨.load1 (.reg 13), none, (some (12, false))⟩, ⟨.bin .geq (.reg 14) (.cst (.int .i64 64)), none, (some (12, false))⟩, ⟨.mov (.reg 15), none, (some (12, false))⟩, ⟨.fieldAddr 0 (.loc 1), none, (some (16, true))⟩, ⟨.load1 (.reg 17), none, (some (16, true))⟩, ⟨.bin .leq (.reg 18) (.cst (.int .i64 72)), none, (some (16, true))⟩, ⟨.pick (.reg 16) (.reg 19) (.cst (.bool false)), none, (some (12, false))⟩, ⟨.pick (.reg 12) (.cst (.bool true)) (.reg 20), none, none⟩, ⟨.mov (.reg 21), (some 2), none⟩])
 .ret))⟩
theorem c46 : compFunc Tryd.prog opts a46 Tryd.f46 = some t46 := by kernel_rfl
/-- slices.ContainsFunc[[]int,int] -/
def a47 : Ann := { slots := [0, 1, 4], lb := [], mu := [], trunc := [], draws := [] }
def t47 : TFunc := ⟨2, 3, [.loc 2],
 (.seq (.region [⟨.mov (.cst (.bool false)), (some 2), none⟩])
 (.seq (.region [⟨.mov (.loc 0), none, none⟩, ⟨.mov (.loc 1), none, none⟩, ⟨.call false false 42 [(.reg 0), (.reg 1)], none, none⟩, ⟨.bin .geq (.reg 2) (.cst (.int .i64 0)), none, none⟩, ⟨.mov (.reg 3), (some 2), none⟩])
 .ret))⟩
theorem c47 : compFunc Tryd.prog opts a47 Tryd.f47 = some t47 := by kernel_rfl
/-- pennant/isel.Check$1 -/
def a48 : Ann := { slots := [0, 1, 3], lb := [], mu := [], trunc := [], draws := [] }
def t48 : TFunc := ⟨2, 3, [.loc 2],
 (.seq (.region [⟨.mov (.cst (.bool false)), (some 2), none⟩])
 (.seq (.region [⟨.mov (.loc 0), none, none⟩, ⟨.bin .lss (.reg 0) (.cst (.int .i64 0)), none, none⟩, ⟨.mov (.reg 1), none, none⟩, ⟨.mov (.loc 0), none, (some (2, false))⟩, ⟨.fieldAddr 1 (.loc 1), none, (some (2, false))⟩, ⟨.load1 (.reg 4), none, (some (2, false))⟩, ⟨.bin .geq (.reg 3) (.reg 5), none, (some (2, false))⟩, ⟨.pick (.reg 2) (.cst (.bool true)) (.reg 6), none, none⟩, ⟨.mov (.reg 7), (some 2), none⟩])
 .ret))⟩
theorem c48 : compFunc Tryd.prog opts a48 Tryd.f48 = some t48 := by kernel_rfl
/-- (*pennant/live.flow).behind -/
def a49 : Ann := { slots := [0, 1, 2, 3, 4], lb := [], mu := [], trunc := [], draws := [] }
def t49 : TFunc := ⟨2, 5, [.loc 4],
 (.seq (.region [⟨.boxH (.loc 0), (some 2), none⟩, ⟨.boxH (.loc 1), (some 3), none⟩, ⟨.mov (.cst .nilf), (some 4), none⟩])
 (.seq (.region [⟨.mkFn 69 [] [(.loc 2), (.loc 3)], none, none⟩, ⟨.mov (.reg 0), (some 4), none⟩])
 .ret))⟩
theorem c49 : compFunc Tryd.prog opts a49 Tryd.f49 = some t49 := by kernel_rfl
/-- slices.Equal[pennant/live.set,uint64] -/
def a50 : Ann := { slots := [0, 1, 4, 5, 10, 12, 13, 14, 24], lb := [], mu := [], trunc := [], draws := [(6, ⟨[0, 0, 3, 7, 0, 0, 48, 112, 255], [0, 1, 2, 3, 4, 5, 6, 7, 8], []⟩)] }
def t50 : TFunc := ⟨2, 9, [.loc 2],
 (.seq (.region [⟨.mov (.cst (.bool false)), (some 2), none⟩])
 (.seq (.seq (.region [⟨.mov (.loc 0), none, none⟩, ⟨.len .sl (.reg 0), none, none⟩, ⟨.mov (.loc 1), none, none⟩, ⟨.len .sl (.reg 2), none, none⟩, ⟨.bin .neq (.reg 1) (.reg 3), (some 4), none⟩])
 (.cond (.loc 4)
  (.seq (.region [⟨.mov (.cst (.bool false)), (some 2), none⟩])
  .ret)
  .skip))
 (.seq (.seq (.region [⟨.mov (.loc 0), none, none⟩, ⟨.len .sl (.reg 0), (some 5), none⟩, ⟨.mov (.cst (.int .i64 0)), (some 6), none⟩])
 (.block 0
  (.loop
   (.seq (.region [⟨.bin .lss (.loc 6) (.loc 5), (some 7), none⟩])
   (.seq (.cond (.loc 7)
    .skip
    (.exit 0))
   (.seq (.block 1
    (.seq (.region [⟨.mov (.loc 6), none, none⟩, ⟨.mov (.reg 0), (some 3), none⟩])
    (.seq (.draw [0, 1, 2, 3, 4, 5, 6, 7, 8] [] [⟨.mov (.loc 0), none, none⟩, ⟨.mov (.loc 3), none, none⟩, ⟨.indexAddrS 1 (.reg 0) (.reg 1), none, none⟩, ⟨.load1 (.reg 2), none, none⟩, ⟨.mov (.loc 1), none, none⟩, ⟨.mov (.loc 3), none, none⟩, ⟨.indexAddrS 1 (.reg 4) (.reg 5), none, none⟩, ⟨.load1 (.reg 6), none, none⟩, ⟨.bin .neq (.reg 3) (.reg 7), (some 8), none⟩])
    (.cond (.loc 8)
     (.seq (.region [⟨.mov (.cst (.bool false)), (some 2), none⟩])
     .ret)
     .skip))))
   (.region [⟨.bin .add (.loc 6) (.cst (.int .i64 1)), none, none⟩, ⟨.mov (.reg 0), (some 6), none⟩])))))))
 (.seq (.region [⟨.mov (.cst (.bool true)), (some 2), none⟩])
 .ret))))⟩
theorem c50 : compFunc Tryd.prog opts a50 Tryd.f50 = some t50 := by kernel_rfl
/-- math/bits.TrailingZeros64 -/
def a51 : Ann := { slots := [0, 2, 4], lb := [], mu := [], trunc := [], draws := [] }
def t51 : TFunc := ⟨1, 3, [.loc 1],
 (.seq (.region [⟨.mov (.cst (.int .i64 0)), (some 1), none⟩])
 (.seq (.seq (.region [⟨.mov (.loc 0), none, none⟩, ⟨.bin .eql (.reg 0) (.cst (.int .u64 0)), (some 2), none⟩])
 (.cond (.loc 2)
  (.seq (.region [⟨.mov (.cst (.int .i64 64)), (some 1), none⟩])
  .ret)
  .skip))
 (.seq (.region [⟨.mov (.loc 0), none, none⟩, ⟨.mov (.loc 0), none, none⟩, ⟨.un .neg (.reg 1), none, none⟩, ⟨.bin .and (.reg 0) (.reg 2), none, none⟩, ⟨.bin .mul (.reg 3) (.cst (.int .u64 285870213051353865)), none, none⟩, ⟨.bin .shr (.reg 4) (.cst (.int .u64 58)), none, none⟩, ⟨.indexAddrA 64 1 (.glob 0) (.reg 5), none, none⟩, ⟨.load1 (.reg 6), none, none⟩, ⟨.conv (.toInt .i64) (.reg 7), none, none⟩, ⟨.mov (.reg 8), (some 1), none⟩])
 .ret)))⟩
theorem c51 : compFunc Tryd.prog opts a51 Tryd.f51 = some t51 := by kernel_rfl
/-- slices.insertionSortOrdered[int] -/
def a56 : Ann := { slots := [0, 1, 2, 6, 7, 12, 30], lb := [], mu := [], trunc := [], draws := [(4, ⟨[0, 0, 3, 7, 15, 15, 63, 127, 15, 15, 527, 1807, 3855, 8191, 16383], [0, 1, 2, 3, 4, 5, 6, 7, 8, 9, 10, 11, 12], [(13, [], [14])]⟩), (6, ⟨[0, 0, 0, 0, 8, 0, 0, 64, 224, 480, 0, 0, 3072, 7168, 16355, 32739, 65535, 131071], [0, 1, 2, 3, 4, 5, 6, 7, 8, 9, 10, 11, 12, 13, 14], [(15, [], [16]), (17, [], [])]⟩)] }
def t56 : TFunc := ⟨3, 7, [],
 (.seq (.region [⟨.mov (.loc 1), none, none⟩, ⟨.bin .add (.reg 0) (.cst (.int .i64 1)), none, none⟩, ⟨.mov (.reg 1), (some 3), none⟩])
 (.block 0
  (.loop
   (.seq (.seq (.region [⟨.mov (.loc 3), none, none⟩, ⟨.mov (.loc 2), none, none⟩, ⟨.bin .lss (.reg 0) (.reg 1), (some 5), none⟩])
   (.cond (.loc 5)
    .skip
    (.exit 0)))
   (.seq (.block 1
    (.seq (.region [⟨.mov (.loc 3), none, none⟩, ⟨.mov (.reg 0), (some 4), none⟩])
    (.block 2
     (.loop
      (.seq (.seq (.draw [0, 1, 2, 3, 4, 5, 6, 7, 8, 9, 10, 11, 12] [(13, [], [14])] [⟨.mov (.loc 4), none, none⟩, ⟨.mov (.loc 1), none, none⟩, ⟨.bin .gtr (.reg 0) (.reg 1), none, none⟩, ⟨.mov (.reg 2), none, none⟩, ⟨.mov (.loc 0), none, (some (3, true))⟩, ⟨.mov (.loc 4), none, (some (3, true))⟩, ⟨.indexAddrS 1 (.reg 4) (.reg 5), none, (some (3, true))⟩, ⟨.load1 (.reg 6), none, (some (3, true))⟩, ⟨.mov (.loc 0), none, (some (3, true))⟩, ⟨.mov (.loc 4), none, (some (3, true))⟩, ⟨.bin .sub (.reg 9) (.cst (.int .i64 1)), none, (some (3, true))⟩, ⟨.indexAddrS 1 (.reg 8) (.reg 10), none, (some (3, true))⟩, ⟨.load1 (.reg 11), none, (some (3, true))⟩, ⟨.call true false 62 [(.reg 7), (.reg 12)], none, (some (3, true))⟩, ⟨.pick (.reg 3) (.reg 13) (.cst (.bool false)), (some 6), none⟩])
      (.cond (.loc 6)
       .skip
       (.exit 2)))
      (.seq (.block 3
       (.draw [0, 1, 2, 3, 4, 5, 6, 7, 8, 9, 10, 11, 12, 13, 14] [(15, [], [16]), (17, [], [])] [⟨.mov (.loc 0), none, none⟩, ⟨.mov (.loc 4), none, none⟩, ⟨.mov (.loc 0), none, none⟩, ⟨.mov (.loc 4), none, none⟩, ⟨.bin .sub (.reg 3) (.cst (.int .i64 1)), none, none⟩, ⟨.mov (.loc 0), none, none⟩, ⟨.mov (.loc 4), none, none⟩, ⟨.bin .sub (.reg 6) (.cst (.int .i64 1)), none, none⟩, ⟨.indexAddrS 1 (.reg 5) (.reg 7), none, none⟩, ⟨.load1 (.reg 8), none, none⟩, ⟨.mov (.loc 0), none, none⟩, ⟨.mov (.loc 4), none, none⟩, ⟨.indexAddrS 1 (.reg 10) (.reg 11), none, none⟩, ⟨.load1 (.reg 12), none, none⟩, ⟨.indexAddrS 1 (.reg 0) (.reg 1), none, none⟩, ⟨.store 1 (.reg 14) (.reg 9), none, none⟩, ⟨.indexAddrS 1 (.reg 2) (.reg 4), none, none⟩, ⟨.store 1 (.reg 16) (.reg 13), none, none⟩]))
      (.region [⟨.mov (.loc 4), none, none⟩, ⟨.bin .sub (.reg 0) (.cst (.int .i64 1)), none, none⟩, ⟨.mov (.reg 1), (some 4), none⟩])))))))
   (.region [⟨.mov (.loc 3), none, none⟩, ⟨.bin .add (.reg 0) (.cst (.int .i64 1)), none, none⟩, ⟨.mov (.reg 1), (some 3), none⟩]))))))⟩
theorem c56 : compFunc Tryd.prog opts a56 Tryd.f56 = some t56 := by kernel_rfl
/-- slices.heapSortOrdered[int] -/
def a57 : Ann := { slots := [0, 1, 2, 6, 7, 8, 9, 10, 19, 30], lb := [], mu := [], trunc := [], draws := [(10, ⟨[0, 0, 0, 0, 0, 24, 0, 0, 0, 384, 960, 1984, 0, 0, 12288, 28672, 65475, 131011, 262143, 524287], [0, 1, 2, 3, 4, 5, 6, 7, 8, 9, 10, 11, 12, 13, 14, 15, 16], [(17, [], [18]), (19, [], [])]⟩)] }
def t57 : TFunc := ⟨3, 10, [],
 (.seq (.region [⟨.mov (.loc 1), none, none⟩, ⟨.mov (.reg 0), (some 3), none⟩])
 (.seq (.region [⟨.mov (.cst (.int .i64 0)), (some 4), none⟩])
 (.seq (.region [⟨.mov (.loc 2), none, none⟩, ⟨.mov (.loc 1), none, none⟩, ⟨.bin .sub (.reg 0) (.reg 1), none, none⟩, ⟨.mov (.reg 2), (some 5), none⟩])
 (.seq (.seq (.region [⟨.mov (.loc 5), none, none⟩, ⟨.bin .sub (.reg 0) (.cst (.int .i64 1)), none, none⟩, ⟨.bin .quo (.reg 1) (.cst (.int .i64 2)), none, none⟩, ⟨.mov (.reg 2), (some 6), none⟩])
 (.block 0
  (.loop
   (.seq (.seq (.region [⟨.mov (.loc 6), none, none⟩, ⟨.bin .geq (.reg 0) (.cst (.int .i64 0)), (some 8), none⟩])
   (.cond (.loc 8)
    .skip
    (.exit 0)))
   (.seq (.block 1
    (.region [⟨.mov (.loc 0), none, none⟩, ⟨.mov (.loc 6), none, none⟩, ⟨.mov (.loc 5), none, none⟩, ⟨.mov (.loc 3), none, none⟩, ⟨.call false false 76 [(.reg 0), (.reg 1), (.reg 2), (.reg 3)], none, none⟩]))
   (.region [⟨.mov (.loc 6), none, none⟩, ⟨.bin .sub (.reg 0) (.cst (.int .i64 1)), none, none⟩, ⟨.mov (.reg 1), (some 6), none⟩]))))))
 (.seq (.region [⟨.mov (.loc 5), none, none⟩, ⟨.bin .sub (.reg 0) (.cst (.int .i64 1)), none, none⟩, ⟨.mov (.reg 1), (some 7), none⟩])
 (.block 2
  (.loop
   (.seq (.seq (.region [⟨.mov (.loc 7), none, none⟩, ⟨.bin .geq (.reg 0) (.cst (.int .i64 0)), (some 9), none⟩])
   (.cond (.loc 9)
    .skip
    (.exit 2)))
   (.seq (.block 3
    (.seq (.draw [0, 1, 2, 3, 4, 5, 6, 7, 8, 9, 10, 11, 12, 13, 14, 15, 16] [(17, [], [18]), (19, [], [])] [⟨.mov (.loc 0), none, none⟩, ⟨.mov (.loc 3), none, none⟩, ⟨.mov (.loc 0), none, none⟩, ⟨.mov (.loc 3), none, none⟩, ⟨.mov (.loc 7), none, none⟩, ⟨.bin .add (.reg 3) (.reg 4), none, none⟩, ⟨.mov (.loc 0), none, none⟩, ⟨.mov (.loc 3), none, none⟩, ⟨.mov (.loc 7), none, none⟩, ⟨.bin .add (.reg 7) (.reg 8), none, none⟩, ⟨.indexAddrS 1 (.reg 6) (.reg 9), none, none⟩, ⟨.load1 (.reg 10), none, none⟩, ⟨.mov (.loc 0), none, none⟩, ⟨.mov (.loc 3), none, none⟩, ⟨.indexAddrS 1 (.reg 12) (.reg 13), none, none⟩, ⟨.load1 (.reg 14), none, none⟩, ⟨.indexAddrS 1 (.reg 0) (.reg 1), none, none⟩, ⟨.store 1 (.reg 16) (.reg 11), none, none⟩, ⟨.indexAddrS 1 (.reg 2) (.reg 5), none, none⟩, ⟨.store 1 (.reg 18) (.reg 15), none, none⟩])
    (.region [⟨.mov (.loc 0), none, none⟩, ⟨.mov (.loc 4), none, none⟩, ⟨.mov (.loc 7), none, none⟩, ⟨.mov (.loc 3), none, none⟩, ⟨.call false false 76 [(.reg 0), (.reg 1), (.reg 2), (.reg 3)], none, none⟩])))
   (.region [⟨.mov (.loc 7), none, none⟩, ⟨.bin .sub (.reg 0) (.cst (.int .i64 1)), none, none⟩, ⟨.mov (.reg 1), (some 7), none⟩]))))))))))⟩
theorem c57 : compFunc Tryd.prog opts a57 Tryd.f57 = some t57 := by kernel_rfl
/-- slices.breakPatternsOrdered[int] -/
def a58 : Ann := { slots := [0, 1, 2, 6, 7, 8, 9, 10, 15, 33, 43], lb := [], mu := [], trunc := [], draws := [(10, ⟨[0, 0, 0, 0, 0, 24, 0, 0, 0, 384, 960, 1984, 0, 0, 12288, 28672, 65475, 131011, 262143, 524287], [0, 1, 2, 3, 4, 5, 6, 7, 8, 9, 10, 11, 12, 13, 14, 15, 16], [(17, [], [18]), (19, [], [])]⟩)] }
def t58 : TFunc := ⟨3, 11, [],
 (.seq (.region [⟨.mov (.loc 2), none, none⟩, ⟨.mov (.loc 1), none, none⟩, ⟨.bin .sub (.reg 0) (.reg 1), none, none⟩, ⟨.mov (.reg 2), (some 3), none⟩])
 (.seq (.region [⟨.mov (.loc 3), none, none⟩, ⟨.bin .geq (.reg 0) (.cst (.int .i64 8)), (some 8), none⟩])
 (.cond (.loc 8)
  (.seq (.region [⟨.mov (.loc 3), none, none⟩, ⟨.conv (.toInt .u64) (.reg 0), none, none⟩, ⟨.allocH 106 [(.int .u64 0)], (some 4), none⟩, ⟨.store 1 (.reg 2) (.reg 1), none, none⟩])
  (.seq (.region [⟨.mov (.loc 3), none, none⟩, ⟨.call true false 77 [(.reg 0)], none, none⟩, ⟨.mov (.reg 1), (some 5), none⟩])
  (.seq (.region [⟨.mov (.loc 1), none, none⟩, ⟨.mov (.loc 3), none, none⟩, ⟨.bin .quo (.reg 1) (.cst (.int .i64 4)), none, none⟩, ⟨.bin .mul (.reg 2) (.cst (.int .i64 2)), none, none⟩, ⟨.bin .add (.reg 0) (.reg 3), none, none⟩, ⟨.bin .sub (.reg 4) (.cst (.int .i64 1)), none, none⟩, ⟨.mov (.reg 5), (some 6), none⟩])
  (.block 0
   (.loop
    (.seq (.seq (.region [⟨.mov (.loc 6), none, none⟩, ⟨.mov (.loc 1), none, none⟩, ⟨.mov (.loc 3), none, none⟩, ⟨.bin .quo (.reg 2) (.cst (.int .i64 4)), none, none⟩, ⟨.bin .mul (.reg 3) (.cst (.int .i64 2)), none, none⟩, ⟨.bin .add (.reg 1) (.reg 4), none, none⟩, ⟨.bin .add (.reg 5) (.cst (.int .i64 1)), none, none⟩, ⟨.bin .leq (.reg 0) (.reg 6), (some 9), none⟩])
    (.cond (.loc 9)
     .skip
     (.exit 0)))
    (.seq (.block 1
     (.seq (.region [⟨.call false false 78 [(.loc 4)], none, none⟩, ⟨.mov (.loc 5), none, none⟩, ⟨.bin .sub (.reg 1) (.cst (.int .u64 1)), none, none⟩, ⟨.bin .and (.reg 0) (.reg 2), none, none⟩, ⟨.conv (.toInt .i64) (.reg 3), none, none⟩, ⟨.mov (.reg 4), (some 7), none⟩])
     (.seq (.seq (.region [⟨.mov (.loc 7), none, none⟩, ⟨.mov (.loc 3), none, none⟩, ⟨.bin .geq (.reg 0) (.reg 1), (some 10), none⟩])
     (.cond (.loc 10)
      (.region [⟨.mov (.loc 7), none, none⟩, ⟨.mov (.loc 3), none, none⟩, ⟨.bin .sub (.reg 0) (.reg 1), none, none⟩, ⟨.mov (.reg 2), (some 7), none⟩])
      .skip))
     (.draw [0, 1, 2, 3, 4, 5, 6, 7, 8, 9, 10, 11, 12, 13, 14, 15, 16] [(17, [], [18]), (19, [], [])] [⟨.mov (.loc 0), none, none⟩, ⟨.mov (.loc 6), none, none⟩, ⟨.mov (.loc 0), none, none⟩, ⟨.mov (.loc 1), none, none⟩, ⟨.mov (.loc 7), none, none⟩, ⟨.bin .add (.reg 3) (.reg 4), none, none⟩, ⟨.mov (.loc 0), none, none⟩, ⟨.mov (.loc 1), none, none⟩, ⟨.mov (.loc 7), none, none⟩, ⟨.bin .add (.reg 7) (.reg 8), none, none⟩, ⟨.indexAddrS 1 (.reg 6) (.reg 9), none, none⟩, ⟨.load1 (.reg 10), none, none⟩, ⟨.mov (.loc 0), none, none⟩, ⟨.mov (.loc 6), none, none⟩, ⟨.indexAddrS 1 (.reg 12) (.reg 13), none, none⟩, ⟨.load1 (.reg 14), none, none⟩, ⟨.indexAddrS 1 (.reg 0) (.reg 1), none, none⟩, ⟨.store 1 (.reg 16) (.reg 11), none, none⟩, ⟨.indexAddrS 1 (.reg 2) (.reg 5), none, none⟩, ⟨.store 1 (.reg 18) (.reg 15), none, none⟩]))))
    (.region [⟨.mov (.loc 6), none, none⟩, ⟨.bin .add (.reg 0) (.cst (.int .i64 1)), none, none⟩, ⟨.mov (.reg 1), (some 6), none⟩]))))))))
  .skip)))⟩
theorem c58 : compFunc Tryd.prog opts a58 Tryd.f58 = some t58 := by kernel_rfl
/-- slices.choosePivotOrdered[int] -/
def a59 : Ann := { slots := [0, 1, 2, 6, 7, 8, 9, 10, 11, 12, 32, 34, 49, 51, 54], lb := [], mu := [], trunc := [], draws := [] }
def t59 : TFunc := ⟨3, 15, [.loc 3, .loc 4],
 (.seq (.region [⟨.mov (.cst (.int .i64 0)), (some 3), none⟩, ⟨.mov (.cst (.int .i64 0)), (some 4), none⟩])
 (.seq (.region [⟨.mov (.loc 2), none, none⟩, ⟨.mov (.loc 1), none, none⟩, ⟨.bin .sub (.reg 0) (.reg 1), none, none⟩, ⟨.mov (.reg 2), (some 5), none⟩])
 (.seq (.region [⟨.allocH 4 [(.int .i64 0)], (some 6), none⟩])
 (.seq (.region [⟨.mov (.loc 1), none, none⟩, ⟨.mov (.loc 5), none, none⟩, ⟨.bin .quo (.reg 1) (.cst (.int .i64 4)), none, none⟩, ⟨.bin .mul (.reg 2) (.cst (.int .i64 1)), none, none⟩, ⟨.bin .add (.reg 0) (.reg 3), none, none⟩, ⟨.mov (.reg 4), (some 7), none⟩])
 (.seq (.region [⟨.mov (.loc 1), none, none⟩, ⟨.mov (.loc 5), none, none⟩, ⟨.bin .quo (.reg 1) (.cst (.int .i64 4)), none, none⟩, ⟨.bin .mul (.reg 2) (.cst (.int .i64 2)), none, none⟩, ⟨.bin .add (.reg 0) (.reg 3), none, none⟩, ⟨.mov (.reg 4), (some 8), none⟩])
 (.seq (.region [⟨.mov (.loc 1), none, none⟩, ⟨.mov (.loc 5), none, none⟩, ⟨.bin .quo (.reg 1) (.cst (.int .i64 4)), none, none⟩, ⟨.bin .mul (.reg 2) (.cst (.int .i64 3)), none, none⟩, ⟨.bin .add (.reg 0) (.reg 3), none, none⟩, ⟨.mov (.reg 4), (some 9), none⟩])
 (.seq (.seq (.region [⟨.mov (.loc 5), none, none⟩, ⟨.bin .geq (.reg 0) (.cst (.int .i64 8)), (some 10), none⟩])
 (.cond (.loc 10)
  (.seq (.seq (.region [⟨.mov (.loc 5), none, none⟩, ⟨.bin .geq (.reg 0) (.cst (.int .i64 50)), (some 11), none⟩])
  (.cond (.loc 11)
   (.seq (.region [⟨.mov (.loc 0), none, none⟩, ⟨.mov (.loc 7), none, none⟩, ⟨.call false false 79 [(.reg 0), (.reg 1), (.loc 6)], none, none⟩, ⟨.mov (.reg 2), (some 7), none⟩])
   (.seq (.region [⟨.mov (.loc 0), none, none⟩, ⟨.mov (.loc 8), none, none⟩, ⟨.call false false 79 [(.reg 0), (.reg 1), (.loc 6)], none, none⟩, ⟨.mov (.reg 2), (some 8), none⟩])
   (.region [⟨.mov (.loc 0), none, none⟩, ⟨.mov (.loc 9), none, none⟩, ⟨.call false false 79 [(.reg 0), (.reg 1), (.loc 6)], none, none⟩, ⟨.mov (.reg 2), (some 9), none⟩])))
   .skip))
  (.region [⟨.mov (.loc 0), none, none⟩, ⟨.mov (.loc 7), none, none⟩, ⟨.mov (.loc 8), none, none⟩, ⟨.mov (.loc 9), none, none⟩, ⟨.call false false 80 [(.reg 0), (.reg 1), (.reg 2), (.reg 3), (.loc 6)], none, none⟩, ⟨.mov (.reg 4), (some 8), none⟩]))
  .skip))
 (.seq (.region [⟨.load1 (.loc 6), (some 12), none⟩])
 (.block 0
  (.seq (.region [⟨.bin .eql (.loc 12) (.cst (.int .i64 0)), none, none⟩, ⟨.mov (.reg 0), (some 13), none⟩])
  (.cond (.loc 13)
   (.seq (.region [⟨.mov (.loc 8), none, none⟩, ⟨.mov (.reg 0), (some 3), none⟩, ⟨.mov (.cst (.int .i64 1)), (some 4), none⟩])
   .ret)
   (.seq (.region [⟨.bin .eql (.loc 12) (.cst (.int .i64 12)), none, none⟩, ⟨.mov (.reg 0), (some 14), none⟩])
   (.cond (.loc 14)
    (.seq (.region [⟨.mov (.loc 8), none, none⟩, ⟨.mov (.reg 0), (some 3), none⟩, ⟨.mov (.cst (.int .i64 2)), (some 4), none⟩])
    .ret)
    (.seq (.region [⟨.mov (.loc 8), none, none⟩, ⟨.mov (.reg 0), (some 3), none⟩, ⟨.mov (.cst (.int .i64 0)), (some 4), none⟩])
    .ret))))))))))))))⟩
theorem c59 : compFunc Tryd.prog opts a59 Tryd.f59 = some t59 := by kernel_rfl
/-- slices.reverseRangeOrdered[int] -/
def a60 : Ann := { slots := [0, 1, 2, 6, 7, 13], lb := [], mu := [], trunc := [], draws := [(3, ⟨[0, 0, 0, 0, 0, 0, 48, 112, 0, 0, 768, 1792, 4083, 8179, 16383, 32767], [0, 1, 2, 3, 4, 5, 6, 7, 8, 9, 10, 11, 12], [(13, [], [14]), (15, [], [])]⟩)] }
def t60 : TFunc := ⟨3, 6, [],
 (.seq (.region [⟨.mov (.loc 1), none, none⟩, ⟨.mov (.reg 0), (some 3), none⟩])
 (.seq (.region [⟨.mov (.loc 2), none, none⟩, ⟨.bin .sub (.reg 0) (.cst (.int .i64 1)), none, none⟩, ⟨.mov (.reg 1), (some 4), none⟩])
 (.block 0
  (.loop
   (.seq (.seq (.region [⟨.mov (.loc 3), none, none⟩, ⟨.mov (.loc 4), none, none⟩, ⟨.bin .lss (.reg 0) (.reg 1), (some 5), none⟩])
   (.cond (.loc 5)
    .skip
    (.exit 0)))
   (.block 1
    (.seq (.draw [0, 1, 2, 3, 4, 5, 6, 7, 8, 9, 10, 11, 12] [(13, [], [14]), (15, [], [])] [⟨.mov (.loc 0), none, none⟩, ⟨.mov (.loc 3), none, none⟩, ⟨.mov (.loc 0), none, none⟩, ⟨.mov (.loc 4), none, none⟩, ⟨.mov (.loc 0), none, none⟩, ⟨.mov (.loc 4), none, none⟩, ⟨.indexAddrS 1 (.reg 4) (.reg 5), none, none⟩, ⟨.load1 (.reg 6), none, none⟩, ⟨.mov (.loc 0), none, none⟩, ⟨.mov (.loc 3), none, none⟩, ⟨.indexAddrS 1 (.reg 8) (.reg 9), none, none⟩, ⟨.load1 (.reg 10), none, none⟩, ⟨.indexAddrS 1 (.reg 0) (.reg 1), none, none⟩, ⟨.store 1 (.reg 12) (.reg 7), none, none⟩, ⟨.indexAddrS 1 (.reg 2) (.reg 3), none, none⟩, ⟨.store 1 (.reg 14) (.reg 11), none, none⟩])
    (.seq (.region [⟨.mov (.loc 3), none, none⟩, ⟨.bin .add (.reg 0) (.cst (.int .i64 1)), none, none⟩, ⟨.mov (.reg 1), (some 3), none⟩])
    (.region [⟨.mov (.loc 4), none, none⟩, ⟨.bin .sub (.reg 0) (.cst (.int .i64 1)), none, none⟩, ⟨.mov (.reg 1), (some 4), none⟩])))))))))⟩
theorem c60 : compFunc Tryd.prog opts a60 Tryd.f60 = some t60 := by kernel_rfl
/-- slices.partialInsertionSortOrdered[int] -/
def a61 : Ann := { slots := [0, 1, 2, 6, 7, 8, 9, 10, 14, 32, 37, 41, 61, 65, 78, 98, 103, 116], lb := [], mu := [], trunc := [], draws := [(5, ⟨[0, 0, 3, 7, 15, 15, 63, 127, 15, 15, 527, 1807, 3855, 8191, 16383, 32767], [0, 1, 2, 3, 4, 5, 6, 7, 8, 9, 10, 11, 12], [(13, [], [14, 15])]⟩), (11, ⟨[0, 0, 0, 0, 8, 0, 0, 64, 224, 480, 0, 0, 3072, 7168, 16355, 32739, 65535, 131071], [0, 1, 2, 3, 4, 5, 6, 7, 8, 9, 10, 11, 12, 13, 14], [(15, [], [16]), (17, [], [])]⟩), (16, ⟨[0, 0, 3, 7, 0, 0, 32, 112, 240, 511, 1023], [0, 1, 2, 3, 4, 5, 6, 7, 8], [(9, [], [10])]⟩), (17, ⟨[0, 0, 0, 0, 8, 0, 0, 64, 224, 480, 0, 0, 3072, 7168, 16355, 32739, 65535, 131071], [0, 1, 2, 3, 4, 5, 6, 7, 8, 9, 10, 11, 12, 13, 14], [(15, [], [16]), (17, [], [])]⟩), (22, ⟨[0, 0, 3, 7, 0, 0, 32, 112, 240, 511, 1023], [0, 1, 2, 3, 4, 5, 6, 7, 8], [(9, [], [10])]⟩), (23, ⟨[0, 0, 0, 0, 8, 0, 0, 64, 224, 480, 0, 0, 3072, 7168, 16355, 32739, 65535, 131071], [0, 1, 2, 3, 4, 5, 6, 7, 8, 9, 10, 11, 12, 13, 14], [(15, [], [16]), (17, [], [])]⟩)] }
def t61 : TFunc := ⟨3, 18, [.loc 3],
 (.seq (.region [⟨.mov (.cst (.bool false)), (some 3), none⟩])
 (.seq (.region [⟨.mov (.loc 1), none, none⟩, ⟨.bin .add (.reg 0) (.cst (.int .i64 1)), none, none⟩, ⟨.mov (.reg 1), (some 4), none⟩])
 (.seq (.seq (.region [⟨.mov (.cst (.int .i64 0)), (some 5), none⟩])
 (.block 0
  (.loop
   (.seq (.seq (.region [⟨.mov (.loc 5), none, none⟩, ⟨.bin .lss (.reg 0) (.cst (.int .i64 5)), (some 8), none⟩])
   (.cond (.loc 8)
    .skip
    (.exit 0)))
   (.seq (.block 1
    (.seq (.block 2
     (.loop
      (.seq (.seq (.draw [0, 1, 2, 3, 4, 5, 6, 7, 8, 9, 10, 11, 12] [(13, [], [14, 15])] [⟨.mov (.loc 4), none, none⟩, ⟨.mov (.loc 2), none, none⟩, ⟨.bin .lss (.reg 0) (.reg 1), none, none⟩, ⟨.mov (.reg 2), none, none⟩, ⟨.mov (.loc 0), none, (some (3, true))⟩, ⟨.mov (.loc 4), none, (some (3, true))⟩, ⟨.indexAddrS 1 (.reg 4) (.reg 5), none, (some (3, true))⟩, ⟨.load1 (.reg 6), none, (some (3, true))⟩, ⟨.mov (.loc 0), none, (some (3, true))⟩, ⟨.mov (.loc 4), none, (some (3, true))⟩, ⟨.bin .sub (.reg 9) (.cst (.int .i64 1)), none, (some (3, true))⟩, ⟨.indexAddrS 1 (.reg 8) (.reg 10), none, (some (3, true))⟩, ⟨.load1 (.reg 11), none, (some (3, true))⟩, ⟨.call true false 62 [(.reg 7), (.reg 12)], none, (some (3, true))⟩, ⟨.un .not (.reg 13), none, (some (3, true))⟩, ⟨.pick (.reg 3) (.reg 14) (.cst (.bool false)), (some 9), none⟩])
      (.cond (.loc 9)
       .skip
       (.exit 2)))
      (.block 3
       (.region [⟨.mov (.loc 4), none, none⟩, ⟨.bin .add (.reg 0) (.cst (.int .i64 1)), none, none⟩, ⟨.mov (.reg 1), (some 4), none⟩])))))
    (.seq (.seq (.region [⟨.mov (.loc 4), none, none⟩, ⟨.mov (.loc 2), none, none⟩, ⟨.bin .eql (.reg 0) (.reg 1), (some 10), none⟩])
    (.cond (.loc 10)
     (.seq (.region [⟨.mov (.cst (.bool true)), (some 3), none⟩])
     .ret)
     .skip))
    (.seq (.seq (.region [⟨.mov (.loc 2), none, none⟩, ⟨.mov (.loc 1), none, none⟩, ⟨.bin .sub (.reg 0) (.reg 1), none, none⟩, ⟨.bin .lss (.reg 2) (.cst (.int .i64 50)), (some 11), none⟩])
    (.cond (.loc 11)
     (.seq (.region [⟨.mov (.cst (.bool false)), (some 3), none⟩])
     .ret)
     .skip))
    (.seq (.draw [0, 1, 2, 3, 4, 5, 6, 7, 8, 9, 10, 11, 12, 13, 14] [(15, [], [16]), (17, [], [])] [⟨.mov (.loc 0), none, none⟩, ⟨.mov (.loc 4), none, none⟩, ⟨.mov (.loc 0), none, none⟩, ⟨.mov (.loc 4), none, none⟩, ⟨.bin .sub (.reg 3) (.cst (.int .i64 1)), none, none⟩, ⟨.mov (.loc 0), none, none⟩, ⟨.mov (.loc 4), none, none⟩, ⟨.bin .sub (.reg 6) (.cst (.int .i64 1)), none, none⟩, ⟨.indexAddrS 1 (.reg 5) (.reg 7), none, none⟩, ⟨.load1 (.reg 8), none, none⟩, ⟨.mov (.loc 0), none, none⟩, ⟨.mov (.loc 4), none, none⟩, ⟨.indexAddrS 1 (.reg 10) (.reg 11), none, none⟩, ⟨.load1 (.reg 12), none, none⟩, ⟨.indexAddrS 1 (.reg 0) (.reg 1), none, none⟩, ⟨.store 1 (.reg 14) (.reg 9), none, none⟩, ⟨.indexAddrS 1 (.reg 2) (.reg 4), none, none⟩, ⟨.store 1 (.reg 16) (.reg 13), none, none⟩])
    (.seq (.seq (.region [⟨.mov (.loc 4), none, none⟩, ⟨.mov (.loc 1), none, none⟩, ⟨.bin .sub (.reg 0) (.reg 1), none, none⟩, ⟨.bin .geq (.reg 2) (.cst (.int .i64 2)), (some 12), none⟩])
    (.cond (.loc 12)
     (.seq (.region [⟨.mov (.loc 4), none, none⟩, ⟨.bin .sub (.reg 0) (.cst (.int .i64 1)), none, none⟩, ⟨.mov (.reg 1), (some 6), none⟩])
     (.block 4
      (.loop
       (.seq (.seq (.region [⟨.mov (.loc 6), none, none⟩, ⟨.bin .geq (.reg 0) (.cst (.int .i64 1)), (some 13), none⟩])
       (.cond (.loc 13)
        .skip
        (.exit 4)))
       (.seq (.block 5
        (.seq (.seq (.draw [0, 1, 2, 3, 4, 5, 6, 7, 8] [(9, [], [10])] [⟨.mov (.loc 0), none, none⟩, ⟨.mov (.loc 6), none, none⟩, ⟨.indexAddrS 1 (.reg 0) (.reg 1), none, none⟩, ⟨.load1 (.reg 2), none, none⟩, ⟨.mov (.loc 0), none, none⟩, ⟨.mov (.loc 6), none, none⟩, ⟨.bin .sub (.reg 5) (.cst (.int .i64 1)), none, none⟩, ⟨.indexAddrS 1 (.reg 4) (.reg 6), none, none⟩, ⟨.load1 (.reg 7), none, none⟩, ⟨.call true false 62 [(.reg 3), (.reg 8)], none, none⟩, ⟨.un .not (.reg 9), (some 14), none⟩])
        (.cond (.loc 14)
         (.exit 4)
         .skip))
        (.draw [0, 1, 2, 3, 4, 5, 6, 7, 8, 9, 10, 11, 12, 13, 14] [(15, [], [16]), (17, [], [])] [⟨.mov (.loc 0), none, none⟩, ⟨.mov (.loc 6), none, none⟩, ⟨.mov (.loc 0), none, none⟩, ⟨.mov (.loc 6), none, none⟩, ⟨.bin .sub (.reg 3) (.cst (.int .i64 1)), none, none⟩, ⟨.mov (.loc 0), none, none⟩, ⟨.mov (.loc 6), none, none⟩, ⟨.bin .sub (.reg 6) (.cst (.int .i64 1)), none, none⟩, ⟨.indexAddrS 1 (.reg 5) (.reg 7), none, none⟩, ⟨.load1 (.reg 8), none, none⟩, ⟨.mov (.loc 0), none, none⟩, ⟨.mov (.loc 6), none, none⟩, ⟨.indexAddrS 1 (.reg 10) (.reg 11), none, none⟩, ⟨.load1 (.reg 12), none, none⟩, ⟨.indexAddrS 1 (.reg 0) (.reg 1), none, none⟩, ⟨.store 1 (.reg 14) (.reg 9), none, none⟩, ⟨.indexAddrS 1 (.reg 2) (.reg 4), none, none⟩, ⟨.store 1 (.reg 16) (.reg 13), none, none⟩])))
       (.region [⟨.mov (.loc 6), none, none⟩, ⟨.bin .sub (.reg 0) (.cst (.int .i64 1)), none, none⟩, ⟨.mov (.reg 1), (some 6), none⟩]))))))
     .skip))
    (.seq (.region [⟨.mov (.loc 2), none, none⟩, ⟨.mov (.loc 4), none, none⟩, ⟨.bin .sub (.reg 0) (.reg 1), none, none⟩, ⟨.bin .geq (.reg 2) (.cst (.int .i64 2)), (some 15), none⟩])
    (.cond (.loc 15)
     (.seq (.region [⟨.mov (.loc 4), none, none⟩, ⟨.bin .add (.reg 0) (.cst (.int .i64 1)), none, none⟩, ⟨.mov (.reg 1), (some 7), none⟩])
     (.block 6
      (.loop
       (.seq (.seq (.region [⟨.mov (.loc 7), none, none⟩, ⟨.mov (.loc 2), none, none⟩, ⟨.bin .lss (.reg 0) (.reg 1), (some 16), none⟩])
       (.cond (.loc 16)
        .skip
        (.exit 6)))
       (.seq (.block 7
        (.seq (.seq (.draw [0, 1, 2, 3, 4, 5, 6, 7, 8] [(9, [], [10])] [⟨.mov (.loc 0), none, none⟩, ⟨.mov (.loc 7), none, none⟩, ⟨.indexAddrS 1 (.reg 0) (.reg 1), none, none⟩, ⟨.load1 (.reg 2), none, none⟩, ⟨.mov (.loc 0), none, none⟩, ⟨.mov (.loc 7), none, none⟩, ⟨.bin .sub (.reg 5) (.cst (.int .i64 1)), none, none⟩, ⟨.indexAddrS 1 (.reg 4) (.reg 6), none, none⟩, ⟨.load1 (.reg 7), none, none⟩, ⟨.call true false 62 [(.reg 3), (.reg 8)], none, none⟩, ⟨.un .not (.reg 9), (some 17), none⟩])
        (.cond (.loc 17)
         (.exit 6)
         .skip))
        (.draw [0, 1, 2, 3, 4, 5, 6, 7, 8, 9, 10, 11, 12, 13, 14] [(15, [], [16]), (17, [], [])] [⟨.mov (.loc 0), none, none⟩, ⟨.mov (.loc 7), none, none⟩, ⟨.mov (.loc 0), none, none⟩, ⟨.mov (.loc 7), none, none⟩, ⟨.bin .sub (.reg 3) (.cst (.int .i64 1)), none, none⟩, ⟨.mov (.loc 0), none, none⟩, ⟨.mov (.loc 7), none, none⟩, ⟨.bin .sub (.reg 6) (.cst (.int .i64 1)), none, none⟩, ⟨.indexAddrS 1 (.reg 5) (.reg 7), none, none⟩, ⟨.load1 (.reg 8), none, none⟩, ⟨.mov (.loc 0), none, none⟩, ⟨.mov (.loc 7), none, none⟩, ⟨.indexAddrS 1 (.reg 10) (.reg 11), none, none⟩, ⟨.load1 (.reg 12), none, none⟩, ⟨.indexAddrS 1 (.reg 0) (.reg 1), none, none⟩, ⟨.store 1 (.reg 14) (.reg 9), none, none⟩, ⟨.indexAddrS 1 (.reg 2) (.reg 4), none, none⟩, ⟨.store 1 (.reg 16) (.reg 13), none, none⟩])))
       (.region [⟨.mov (.loc 7), none, none⟩, ⟨.bin .add (.reg 0) (.cst (.int .i64 1)), none, none⟩, ⟨.mov (.reg 1), (some 7), none⟩]))))))
     .skip))))))))
   (.region [⟨.mov (.loc 5), none, none⟩, ⟨.bin .add (.reg 0) (.cst (.int .i64 1)), none, none⟩, ⟨.mov (.reg 1), (some 5), none⟩]))))))
 (.seq (.region [⟨.mov (.cst (.bool false)), (some 3), none⟩])
 .ret))))⟩
theorem c61 : compFunc Tryd.prog opts a61 Tryd.f61 = some t61 := by kernel_rfl
/-- cmp.Less[int] -/
def a62 : Ann := { slots := [0, 1, 4], lb := [], mu := [], trunc := [], draws := [] }
def t62 : TFunc := ⟨2, 3, [.loc 2],
 (.seq (.region [⟨.mov (.cst (.bool false)), (some 2), none⟩])
 (.seq (.region [⟨.mov (.loc 0), none, none⟩, ⟨.call true false 81 [(.reg 0)], none, none⟩, ⟨.mov (.reg 1), none, none⟩, ⟨.mov (.loc 1), none, (some (2, true))⟩, ⟨.call true false 81 [(.reg 3)], none, (some (2, true))⟩, ⟨.un .not (.reg 4), none, (some (2, true))⟩, ⟨.pick (.reg 2) (.reg 5) (.cst (.bool false)), none, none⟩, ⟨.mov (.reg 6), none, none⟩, ⟨.mov (.loc 0), none, (some (7, false))⟩, ⟨.mov (.loc 1), none, (some (7, false))⟩, ⟨.bin .lss (.reg 8) (.reg 9), none, (some (7, false))⟩, ⟨.pick (.reg 7) (.cst (.bool true)) (.reg 10), none, none⟩, ⟨.mov (.reg 11), (some 2), none⟩])
 .ret))⟩
theorem c62 : compFunc Tryd.prog opts a62 Tryd.f62 = some t62 := by kernel_rfl
/-- slices.partitionEqualOrdered[int] -/
def a63 : Ann := { slots := [0, 1, 2, 3, 8, 9, 10, 43, 59, 64], lb := [], mu := [], trunc := [], draws := [(1, ⟨[0, 0, 0, 0, 0, 0, 48, 112, 0, 0, 768, 1792, 4083, 8179, 16383, 32767], [0, 1, 2, 3, 4, 5, 6, 7, 8, 9, 10, 11, 12], [(13, [], [14]), (15, [], [])]⟩), (3, ⟨[0, 0, 3, 7, 15, 15, 63, 127, 15, 15, 783, 1807, 4095, 8191, 16383], [0, 1, 2, 3, 4, 5, 6, 7, 8, 9, 10, 11], [(12, [], [13, 14])]⟩), (5, ⟨[0, 0, 3, 7, 15, 15, 63, 127, 15, 15, 783, 1807, 4095, 8191], [0, 1, 2, 3, 4, 5, 6, 7, 8, 9, 10, 11], [(12, [], [13])]⟩), (8, ⟨[0, 0, 0, 0, 0, 0, 48, 112, 0, 0, 768, 1792, 4083, 8179, 16383, 32767], [0, 1, 2, 3, 4, 5, 6, 7, 8, 9, 10, 11, 12], [(13, [], [14]), (15, [], [])]⟩)] }
def t63 : TFunc := ⟨4, 10, [.loc 4],
 (.seq (.region [⟨.mov (.cst (.int .i64 0)), (some 4), none⟩])
 (.seq (.draw [0, 1, 2, 3, 4, 5, 6, 7, 8, 9, 10, 11, 12] [(13, [], [14]), (15, [], [])] [⟨.mov (.loc 0), none, none⟩, ⟨.mov (.loc 1), none, none⟩, ⟨.mov (.loc 0), none, none⟩, ⟨.mov (.loc 3), none, none⟩, ⟨.mov (.loc 0), none, none⟩, ⟨.mov (.loc 3), none, none⟩, ⟨.indexAddrS 1 (.reg 4) (.reg 5), none, none⟩, ⟨.load1 (.reg 6), none, none⟩, ⟨.mov (.loc 0), none, none⟩, ⟨.mov (.loc 1), none, none⟩, ⟨.indexAddrS 1 (.reg 8) (.reg 9), none, none⟩, ⟨.load1 (.reg 10), none, none⟩, ⟨.indexAddrS 1 (.reg 0) (.reg 1), none, none⟩, ⟨.store 1 (.reg 12) (.reg 7), none, none⟩, ⟨.indexAddrS 1 (.reg 2) (.reg 3), none, none⟩, ⟨.store 1 (.reg 14) (.reg 11), none, none⟩])
 (.seq (.region [⟨.mov (.loc 1), none, none⟩, ⟨.bin .add (.reg 0) (.cst (.int .i64 1)), none, none⟩, ⟨.mov (.loc 2), none, none⟩, ⟨.bin .sub (.reg 2) (.cst (.int .i64 1)), none, none⟩, ⟨.mov (.reg 1), (some 5), none⟩, ⟨.mov (.reg 3), (some 6), none⟩])
 (.seq (.block 0
  (.loop
   (.block 1
    (.seq (.block 2
     (.loop
      (.seq (.seq (.draw [0, 1, 2, 3, 4, 5, 6, 7, 8, 9, 10, 11] [(12, [], [13, 14])] [⟨.mov (.loc 5), none, none⟩, ⟨.mov (.loc 6), none, none⟩, ⟨.bin .leq (.reg 0) (.reg 1), none, none⟩, ⟨.mov (.reg 2), none, none⟩, ⟨.mov (.loc 0), none, (some (3, true))⟩, ⟨.mov (.loc 1), none, (some (3, true))⟩, ⟨.indexAddrS 1 (.reg 4) (.reg 5), none, (some (3, true))⟩, ⟨.load1 (.reg 6), none, (some (3, true))⟩, ⟨.mov (.loc 0), none, (some (3, true))⟩, ⟨.mov (.loc 5), none, (some (3, true))⟩, ⟨.indexAddrS 1 (.reg 8) (.reg 9), none, (some (3, true))⟩, ⟨.load1 (.reg 10), none, (some (3, true))⟩, ⟨.call true false 62 [(.reg 7), (.reg 11)], none, (some (3, true))⟩, ⟨.un .not (.reg 12), none, (some (3, true))⟩, ⟨.pick (.reg 3) (.reg 13) (.cst (.bool false)), (some 7), none⟩])
      (.cond (.loc 7)
       .skip
       (.exit 2)))
      (.block 3
       (.region [⟨.mov (.loc 5), none, none⟩, ⟨.bin .add (.reg 0) (.cst (.int .i64 1)), none, none⟩, ⟨.mov (.reg 1), (some 5), none⟩])))))
    (.seq (.block 4
     (.loop
      (.seq (.seq (.draw [0, 1, 2, 3, 4, 5, 6, 7, 8, 9, 10, 11] [(12, [], [13])] [⟨.mov (.loc 5), none, none⟩, ⟨.mov (.loc 6), none, none⟩, ⟨.bin .leq (.reg 0) (.reg 1), none, none⟩, ⟨.mov (.reg 2), none, none⟩, ⟨.mov (.loc 0), none, (some (3, true))⟩, ⟨.mov (.loc 1), none, (some (3, true))⟩, ⟨.indexAddrS 1 (.reg 4) (.reg 5), none, (some (3, true))⟩, ⟨.load1 (.reg 6), none, (some (3, true))⟩, ⟨.mov (.loc 0), none, (some (3, true))⟩, ⟨.mov (.loc 6), none, (some (3, true))⟩, ⟨.indexAddrS 1 (.reg 8) (.reg 9), none, (some (3, true))⟩, ⟨.load1 (.reg 10), none, (some (3, true))⟩, ⟨.call true false 62 [(.reg 7), (.reg 11)], none, (some (3, true))⟩, ⟨.pick (.reg 3) (.reg 12) (.cst (.bool false)), (some 8), none⟩])
      (.cond (.loc 8)
       .skip
       (.exit 4)))
      (.block 5
       (.region [⟨.mov (.loc 6), none, none⟩, ⟨.bin .sub (.reg 0) (.cst (.int .i64 1)), none, none⟩, ⟨.mov (.reg 1), (some 6), none⟩])))))
    (.seq (.seq (.region [⟨.mov (.loc 5), none, none⟩, ⟨.mov (.loc 6), none, none⟩, ⟨.bin .gtr (.reg 0) (.reg 1), (some 9), none⟩])
    (.cond (.loc 9)
     (.exit 0)
     .skip))
    (.seq (.draw [0, 1, 2, 3, 4, 5, 6, 7, 8, 9, 10, 11, 12] [(13, [], [14]), (15, [], [])] [⟨.mov (.loc 0), none, none⟩, ⟨.mov (.loc 5), none, none⟩, ⟨.mov (.loc 0), none, none⟩, ⟨.mov (.loc 6), none, none⟩, ⟨.mov (.loc 0), none, none⟩, ⟨.mov (.loc 6), none, none⟩, ⟨.indexAddrS 1 (.reg 4) (.reg 5), none, none⟩, ⟨.load1 (.reg 6), none, none⟩, ⟨.mov (.loc 0), none, none⟩, ⟨.mov (.loc 5), none, none⟩, ⟨.indexAddrS 1 (.reg 8) (.reg 9), none, none⟩, ⟨.load1 (.reg 10), none, none⟩, ⟨.indexAddrS 1 (.reg 0) (.reg 1), none, none⟩, ⟨.store 1 (.reg 12) (.reg 7), none, none⟩, ⟨.indexAddrS 1 (.reg 2) (.reg 3), none, none⟩, ⟨.store 1 (.reg 14) (.reg 11), none, none⟩])
    (.seq (.region [⟨.mov (.loc 5), none, none⟩, ⟨.bin .add (.reg 0) (.cst (.int .i64 1)), none, none⟩, ⟨.mov (.reg 1), (some 5), none⟩])
    (.region [⟨.mov (.loc 6), none, none⟩, ⟨.bin .sub (.reg 0) (.cst (.int .i64 1)), none, none⟩, ⟨.mov (.reg 1), (some 6), none⟩])))))))))
 (.seq (.region [⟨.mov (.loc 5), none, none⟩, ⟨.mov (.reg 0), (some 4), none⟩])
 .ret)))))⟩
theorem c63 : compFunc Tryd.prog opts a63 Tryd.f63 = some t63 := by kernel_rfl
/-- slices.partitionOrdered[int] -/
def a64 : Ann := { slots := [0, 1, 2, 3, 8, 9, 10, 11, 43, 60, 65, 112, 129, 134], lb := [], mu := [], trunc := [], draws := [(1, ⟨[0, 0, 0, 0, 0, 0, 48, 112, 0, 0, 768, 1792, 4083, 8179, 16383, 32767], [0, 1, 2, 3, 4, 5, 6, 7, 8, 9, 10, 11, 12], [(13, [], [14]), (15, [], [])]⟩), (3, ⟨[0, 0, 3, 7, 15, 15, 63, 127, 15, 15, 783, 1807, 4095, 8191], [0, 1, 2, 3, 4, 5, 6, 7, 8, 9, 10, 11], [(12, [], [13])]⟩), (5, ⟨[0, 0, 3, 7, 15, 15, 63, 127, 15, 15, 783, 1807, 4095, 8191, 16383], [0, 1, 2, 3, 4, 5, 6, 7, 8, 9, 10, 11], [(12, [], [13, 14])]⟩), (8, ⟨[0, 0, 0, 0, 0, 0, 48, 112, 0, 0, 768, 1792, 4083, 8179, 16383, 32767], [0, 1, 2, 3, 4, 5, 6, 7, 8, 9, 10, 11, 12], [(13, [], [14]), (15, [], [])]⟩), (10, ⟨[0, 0, 0, 0, 0, 0, 48, 112, 0, 0, 768, 1792, 4083, 8179, 16383, 32767], [0, 1, 2, 3, 4, 5, 6, 7, 8, 9, 10, 11, 12], [(13, [], [14]), (15, [], [])]⟩), (13, ⟨[0, 0, 3, 7, 15, 15, 63, 127, 15, 15, 783, 1807, 4095, 8191], [0, 1, 2, 3, 4, 5, 6, 7, 8, 9, 10, 11], [(12, [], [13])]⟩), (15, ⟨[0, 0, 3, 7, 15, 15, 63, 127, 15, 15, 783, 1807, 4095, 8191, 16383], [0, 1, 2, 3, 4, 5, 6, 7, 8, 9, 10, 11], [(12, [], [13, 14])]⟩), (18, ⟨[0, 0, 0, 0, 0, 0, 48, 112, 0, 0, 768, 1792, 4083, 8179, 16383, 32767], [0, 1, 2, 3, 4, 5, 6, 7, 8, 9, 10, 11, 12], [(13, [], [14]), (15, [], [])]⟩), (21, ⟨[0, 0, 0, 0, 0, 0, 48, 112, 0, 0, 768, 1792, 4083, 8179, 16383, 32767], [0, 1, 2, 3, 4, 5, 6, 7, 8, 9, 10, 11, 12], [(13, [], [14]), (15, [], [])]⟩)] }
def t64 : TFunc := ⟨4, 14, [.loc 4, .loc 5],
 (.seq (.region [⟨.mov (.cst (.int .i64 0)), (some 4), none⟩, ⟨.mov (.cst (.bool false)), (some 5), none⟩])
 (.seq (.draw [0, 1, 2, 3, 4, 5, 6, 7, 8, 9, 10, 11, 12] [(13, [], [14]), (15, [], [])] [⟨.mov (.loc 0), none, none⟩, ⟨.mov (.loc 1), none, none⟩, ⟨.mov (.loc 0), none, none⟩, ⟨.mov (.loc 3), none, none⟩, ⟨.mov (.loc 0), none, none⟩, ⟨.mov (.loc 3), none, none⟩, ⟨.indexAddrS 1 (.reg 4) (.reg 5), none, none⟩, ⟨.load1 (.reg 6), none, none⟩, ⟨.mov (.loc 0), none, none⟩, ⟨.mov (.loc 1), none, none⟩, ⟨.indexAddrS 1 (.reg 8) (.reg 9), none, none⟩, ⟨.load1 (.reg 10), none, none⟩, ⟨.indexAddrS 1 (.reg 0) (.reg 1), none, none⟩, ⟨.store 1 (.reg 12) (.reg 7), none, none⟩, ⟨.indexAddrS 1 (.reg 2) (.reg 3), none, none⟩, ⟨.store 1 (.reg 14) (.reg 11), none, none⟩])
 (.seq (.region [⟨.mov (.loc 1), none, none⟩, ⟨.bin .add (.reg 0) (.cst (.int .i64 1)), none, none⟩, ⟨.mov (.loc 2), none, none⟩, ⟨.bin .sub (.reg 2) (.cst (.int .i64 1)), none, none⟩, ⟨.mov (.reg 1), (some 6), none⟩, ⟨.mov (.reg 3), (some 7), none⟩])
 (.seq (.block 0
  (.loop
   (.seq (.seq (.draw [0, 1, 2, 3, 4, 5, 6, 7, 8, 9, 10, 11] [(12, [], [13])] [⟨.mov (.loc 6), none, none⟩, ⟨.mov (.loc 7), none, none⟩, ⟨.bin .leq (.reg 0) (.reg 1), none, none⟩, ⟨.mov (.reg 2), none, none⟩, ⟨.mov (.loc 0), none, (some (3, true))⟩, ⟨.mov (.loc 6), none, (some (3, true))⟩, ⟨.indexAddrS 1 (.reg 4) (.reg 5), none, (some (3, true))⟩, ⟨.load1 (.reg 6), none, (some (3, true))⟩, ⟨.mov (.loc 0), none, (some (3, true))⟩, ⟨.mov (.loc 1), none, (some (3, true))⟩, ⟨.indexAddrS 1 (.reg 8) (.reg 9), none, (some (3, true))⟩, ⟨.load1 (.reg 10), none, (some (3, true))⟩, ⟨.call true false 62 [(.reg 7), (.reg 11)], none, (some (3, true))⟩, ⟨.pick (.reg 3) (.reg 12) (.cst (.bool false)), (some 8), none⟩])
   (.cond (.loc 8)
    .skip
    (.exit 0)))
   (.block 1
    (.region [⟨.mov (.loc 6), none, none⟩, ⟨.bin .add (.reg 0) (.cst (.int .i64 1)), none, none⟩, ⟨.mov (.reg 1), (some 6), none⟩])))))
 (.seq (.block 2
  (.loop
   (.seq (.seq (.draw [0, 1, 2, 3, 4, 5, 6, 7, 8, 9, 10, 11] [(12, [], [13, 14])] [⟨.mov (.loc 6), none, none⟩, ⟨.mov (.loc 7), none, none⟩, ⟨.bin .leq (.reg 0) (.reg 1), none, none⟩, ⟨.mov (.reg 2), none, none⟩, ⟨.mov (.loc 0), none, (some (3, true))⟩, ⟨.mov (.loc 7), none, (some (3, true))⟩, ⟨.indexAddrS 1 (.reg 4) (.reg 5), none, (some (3, true))⟩, ⟨.load1 (.reg 6), none, (some (3, true))⟩, ⟨.mov (.loc 0), none, (some (3, true))⟩, ⟨.mov (.loc 1), none, (some (3, true))⟩, ⟨.indexAddrS 1 (.reg 8) (.reg 9), none, (some (3, true))⟩, ⟨.load1 (.reg 10), none, (some (3, true))⟩, ⟨.call true false 62 [(.reg 7), (.reg 11)], none, (some (3, true))⟩, ⟨.un .not (.reg 12), none, (some (3, true))⟩, ⟨.pick (.reg 3) (.reg 13) (.cst (.bool false)), (some 9), none⟩])
   (.cond (.loc 9)
    .skip
    (.exit 2)))
   (.block 3
    (.region [⟨.mov (.loc 7), none, none⟩, ⟨.bin .sub (.reg 0) (.cst (.int .i64 1)), none, none⟩, ⟨.mov (.reg 1), (some 7), none⟩])))))
 (.seq (.seq (.region [⟨.mov (.loc 6), none, none⟩, ⟨.mov (.loc 7), none, none⟩, ⟨.bin .gtr (.reg 0) (.reg 1), (some 10), none⟩])
 (.cond (.loc 10)
  (.seq (.draw [0, 1, 2, 3, 4, 5, 6, 7, 8, 9, 10, 11, 12] [(13, [], [14]), (15, [], [])] [⟨.mov (.loc 0), none, none⟩, ⟨.mov (.loc 7), none, none⟩, ⟨.mov (.loc 0), none, none⟩, ⟨.mov (.loc 1), none, none⟩, ⟨.mov (.loc 0), none, none⟩, ⟨.mov (.loc 1), none, none⟩, ⟨.indexAddrS 1 (.reg 4) (.reg 5), none, none⟩, ⟨.load1 (.reg 6), none, none⟩, ⟨.mov (.loc 0), none, none⟩, ⟨.mov (.loc 7), none, none⟩, ⟨.indexAddrS 1 (.reg 8) (.reg 9), none, none⟩, ⟨.load1 (.reg 10), none, none⟩, ⟨.indexAddrS 1 (.reg 0) (.reg 1), none, none⟩, ⟨.store 1 (.reg 12) (.reg 7), none, none⟩, ⟨.indexAddrS 1 (.reg 2) (.reg 3), none, none⟩, ⟨.store 1 (.reg 14) (.reg 11), none, none⟩])
  (.seq (.region [⟨.mov (.loc 7), none, none⟩, ⟨.mov (.reg 0), (some 4), none⟩, ⟨.mov (.cst (.bool true)), (some 5), none⟩])
  .ret))
  .skip))
 (.seq (.draw [0, 1, 2, 3, 4, 5, 6, 7, 8, 9, 10, 11, 12] [(13, [], [14]), (15, [], [])] [⟨.mov (.loc 0), none, none⟩, ⟨.mov (.loc 6), none, none⟩, ⟨.mov (.loc 0), none, none⟩, ⟨.mov (.loc 7), none, none⟩, ⟨.mov (.loc 0), none, none⟩, ⟨.mov (.loc 7), none, none⟩, ⟨.indexAddrS 1 (.reg 4) (.reg 5), none, none⟩, ⟨.load1 (.reg 6), none, none⟩, ⟨.mov (.loc 0), none, none⟩, ⟨.mov (.loc 6), none, none⟩, ⟨.indexAddrS 1 (.reg 8) (.reg 9), none, none⟩, ⟨.load1 (.reg 10), none, none⟩, ⟨.indexAddrS 1 (.reg 0) (.reg 1), none, none⟩, ⟨.store 1 (.reg 12) (.reg 7), none, none⟩, ⟨.indexAddrS 1 (.reg 2) (.reg 3), none, none⟩, ⟨.store 1 (.reg 14) (.reg 11), none, none⟩])
 (.seq (.region [⟨.mov (.loc 6), none, none⟩, ⟨.bin .add (.reg 0) (.cst (.int .i64 1)), none, none⟩, ⟨.mov (.reg 1), (some 6), none⟩])
 (.seq (.region [⟨.mov (.loc 7), none, none⟩, ⟨.bin .sub (.reg 0) (.cst (.int .i64 1)), none, none⟩, ⟨.mov (.reg 1), (some 7), none⟩])
 (.seq (.block 4
  (.loop
   (.block 5
    (.seq (.block 6
     (.loop
      (.seq (.seq (.draw [0, 1, 2, 3, 4, 5, 6, 7, 8, 9, 10, 11] [(12, [], [13])] [⟨.mov (.loc 6), none, none⟩, ⟨.mov (.loc 7), none, none⟩, ⟨.bin .leq (.reg 0) (.reg 1), none, none⟩, ⟨.mov (.reg 2), none, none⟩, ⟨.mov (.loc 0), none, (some (3, true))⟩, ⟨.mov (.loc 6), none, (some (3, true))⟩, ⟨.indexAddrS 1 (.reg 4) (.reg 5), none, (some (3, true))⟩, ⟨.load1 (.reg 6), none, (some (3, true))⟩, ⟨.mov (.loc 0), none, (some (3, true))⟩, ⟨.mov (.loc 1), none, (some (3, true))⟩, ⟨.indexAddrS 1 (.reg 8) (.reg 9), none, (some (3, true))⟩, ⟨.load1 (.reg 10), none, (some (3, true))⟩, ⟨.call true false 62 [(.reg 7), (.reg 11)], none, (some (3, true))⟩, ⟨.pick (.reg 3) (.reg 12) (.cst (.bool false)), (some 11), none⟩])
      (.cond (.loc 11)
       .skip
       (.exit 6)))
      (.block 7
       (.region [⟨.mov (.loc 6), none, none⟩, ⟨.bin .add (.reg 0) (.cst (.int .i64 1)), none, none⟩, ⟨.mov (.reg 1), (some 6), none⟩])))))
    (.seq (.block 8
     (.loop
      (.seq (.seq (.draw [0, 1, 2, 3, 4, 5, 6, 7, 8, 9, 10, 11] [(12, [], [13, 14])] [⟨.mov (.loc 6), none, none⟩, ⟨.mov (.loc 7), none, none⟩, ⟨.bin .leq (.reg 0) (.reg 1), none, none⟩, ⟨.mov (.reg 2), none, none⟩, ⟨.mov (.loc 0), none, (some (3, true))⟩, ⟨.mov (.loc 7), none, (some (3, true))⟩, ⟨.indexAddrS 1 (.reg 4) (.reg 5), none, (some (3, true))⟩, ⟨.load1 (.reg 6), none, (some (3, true))⟩, ⟨.mov (.loc 0), none, (some (3, true))⟩, ⟨.mov (.loc 1), none, (some (3, true))⟩, ⟨.indexAddrS 1 (.reg 8) (.reg 9), none, (some (3, true))⟩, ⟨.load1 (.reg 10), none, (some (3, true))⟩, ⟨.call true false 62 [(.reg 7), (.reg 11)], none, (some (3, true))⟩, ⟨.un .not (.reg 12), none, (some (3, true))⟩, ⟨.pick (.reg 3) (.reg 13) (.cst (.bool false)), (some 12), none⟩])
      (.cond (.loc 12)
       .skip
       (.exit 8)))
      (.block 9
       (.region [⟨.mov (.loc 7), none, none⟩, ⟨.bin .sub (.reg 0) (.cst (.int .i64 1)), none, none⟩, ⟨.mov (.reg 1), (some 7), none⟩])))))
    (.seq (.seq (.region [⟨.mov (.loc 6), none, none⟩, ⟨.mov (.loc 7), none, none⟩, ⟨.bin .gtr (.reg 0) (.reg 1), (some 13), none⟩])
    (.cond (.loc 13)
     (.exit 4)
     .skip))
    (.seq (.draw [0, 1, 2, 3, 4, 5, 6, 7, 8, 9, 10, 11, 12] [(13, [], [14]), (15, [], [])] [⟨.mov (.loc 0), none, none⟩, ⟨.mov (.loc 6), none, none⟩, ⟨.mov (.loc 0), none, none⟩, ⟨.mov (.loc 7), none, none⟩, ⟨.mov (.loc 0), none, none⟩, ⟨.mov (.loc 7), none, none⟩, ⟨.indexAddrS 1 (.reg 4) (.reg 5), none, none⟩, ⟨.load1 (.reg 6), none, none⟩, ⟨.mov (.loc 0), none, none⟩, ⟨.mov (.loc 6), none, none⟩, ⟨.indexAddrS 1 (.reg 8) (.reg 9), none, none⟩, ⟨.load1 (.reg 10), none, none⟩, ⟨.indexAddrS 1 (.reg 0) (.reg 1), none, none⟩, ⟨.store 1 (.reg 12) (.reg 7), none, none⟩, ⟨.indexAddrS 1 (.reg 2) (.reg 3), none, none⟩, ⟨.store 1 (.reg 14) (.reg 11), none, none⟩])
    (.seq (.region [⟨.mov (.loc 6), none, none⟩, ⟨.bin .add (.reg 0) (.cst (.int .i64 1)), none, none⟩, ⟨.mov (.reg 1), (some 6), none⟩])
    (.region [⟨.mov (.loc 7), none, none⟩, ⟨.bin .sub (.reg 0) (.cst (.int .i64 1)), none, none⟩, ⟨.mov (.reg 1), (some 7), none⟩])))))))))
 (.seq (.draw [0, 1, 2, 3, 4, 5, 6, 7, 8, 9, 10, 11, 12] [(13, [], [14]), (15, [], [])] [⟨.mov (.loc 0), none, none⟩, ⟨.mov (.loc 7), none, none⟩, ⟨.mov (.loc 0), none, none⟩, ⟨.mov (.loc 1), none, none⟩, ⟨.mov (.loc 0), none, none⟩, ⟨.mov (.loc 1), none, none⟩, ⟨.indexAddrS 1 (.reg 4) (.reg 5), none, none⟩, ⟨.load1 (.reg 6), none, none⟩, ⟨.mov (.loc 0), none, none⟩, ⟨.mov (.loc 7), none, none⟩, ⟨.indexAddrS 1 (.reg 8) (.reg 9), none, none⟩, ⟨.load1 (.reg 10), none, none⟩, ⟨.indexAddrS 1 (.reg 0) (.reg 1), none, none⟩, ⟨.store 1 (.reg 12) (.reg 7), none, none⟩, ⟨.indexAddrS 1 (.reg 2) (.reg 3), none, none⟩, ⟨.store 1 (.reg 14) (.reg 11), none, none⟩])
 (.seq (.region [⟨.mov (.loc 7), none, none⟩, ⟨.mov (.reg 0), (some 4), none⟩, ⟨.mov (.cst (.bool false)), (some 5), none⟩])
 .ret))))))))))))⟩
theorem c64 : compFunc Tryd.prog opts a64 Tryd.f64 = some t64 := by kernel_rfl
/-- math/bits.Len32 -/
def a65 : Ann := { slots := [0, 2, 4, 8], lb := [], mu := [], trunc := [], draws := [] }
def t65 : TFunc := ⟨1, 4, [.loc 1],
 (.seq (.region [⟨.mov (.cst (.int .i64 0)), (some 1), none⟩])
 (.seq (.seq (.region [⟨.mov (.loc 0), none, none⟩, ⟨.bin .geq (.reg 0) (.cst (.int .u32 65536)), (some 2), none⟩])
 (.cond (.loc 2)
  (.seq (.region [⟨.mov (.loc 0), none, none⟩, ⟨.bin .shr (.reg 0) (.cst (.int .u64 16)), none, none⟩, ⟨.mov (.reg 1), (some 0), none⟩])
  (.region [⟨.mov (.cst (.int .i64 16)), (some 1), none⟩]))
  .skip))
 (.seq (.seq (.region [⟨.mov (.loc 0), none, none⟩, ⟨.bin .geq (.reg 0) (.cst (.int .u32 256)), (some 3), none⟩])
 (.cond (.loc 3)
  (.seq (.region [⟨.mov (.loc 0), none, none⟩, ⟨.bin .shr (.reg 0) (.cst (.int .u64 8)), none, none⟩, ⟨.mov (.reg 1), (some 0), none⟩])
  (.region [⟨.mov (.loc 1), none, none⟩, ⟨.bin .add (.reg 0) (.cst (.int .i64 8)), none, none⟩, ⟨.mov (.reg 1), (some 1), none⟩]))
  .skip))
 (.seq (.region [⟨.mov (.loc 1), none, none⟩, ⟨.mov (.loc 0), none, none⟩, ⟨.conv (.toInt .u8) (.reg 1), none, none⟩, ⟨.indexS (.cst (.str [0, 1, 2, 2, 3, 3, 3, 3, 4, 4, 4, 4, 4, 4, 4, 4, 5, 5, 5, 5, 5, 5, 5, 5, 5, 5, 5, 5, 5, 5, 5, 5, 6, 6, 6, 6, 6, 6, 6, 6, 6, 6, 6, 6, 6, 6, 6, 6, 6, 6, 6, 6, 6, 6, 6, 6, 6, 6, 6, 6, 6, 6, 6, 6, 7, 7, 7, 7, 7, 7, 7, 7, 7, 7, 7, 7, 7, 7, 7, 7, 7, 7, 7, 7, 7, 7, 7, 7, 7, 7, 7, 7, 7, 7, 7, 7, 7, 7, 7, 7, 7, 7, 7, 7, 7, 7, 7, 7, 7, 7, 7, 7, 7, 7, 7, 7, 7, 7, 7, 7, 7, 7, 7, 7, 7, 7, 7, 7, 8, 8, 8, 8, 8, 8, 8, 8, 8, 8, 8, 8, 8, 8, 8, 8, 8, 8, 8, 8, 8, 8, 8, 8, 8, 8, 8, 8, 8, 8, 8, 8, 8, 8, 8, 8, 8, 8, 8, 8, 8, 8, 8, 8, 8, 8, 8, 8, 8, 8, 8, 8, 8, 8, 8, 8, 8, 8, 8, 8, 8, 8, 8, 8, 8, 8, 8, 8, 8, 8, 8, 8, 8, 8, 8, 8, 8, 8, 8, 8, 8, 8, 8, 8, 8, 8, 8, 8, 8, 8, 8, 8, 8, 8, 8, 8, 8, 8, 8, 8, 8, 8, 8, 8, 8, 8, 8, 8, 8, 8, 8, 8, 8, 8, 8, 8, 8, 8, 8, 8, 8, 8, 8, 8, 8, 8, 8, 8])) (.reg 2), none, none⟩, ⟨.conv (.toInt .i64) (.reg 3), none, none⟩, ⟨.bin .add (.reg 0) (.reg 4), none, none⟩, ⟨.mov (.reg 5), (some 1), none⟩])
 .ret))))⟩
theorem c65 : compFunc Tryd.prog opts a65 Tryd.f65 = some t65 := by kernel_rfl
/-- math/bits.Len64 -/
def a66 : Ann := { slots := [0, 2, 4, 8, 14], lb := [], mu := [], trunc := [], draws := [] }
def t66 : TFunc := ⟨1, 5, [.loc 1],
 (.seq (.region [⟨.mov (.cst (.int .i64 0)), (some 1), none⟩])
 (.seq (.seq (.region [⟨.mov (.loc 0), none, none⟩, ⟨.bin .geq (.reg 0) (.cst (.int .u64 4294967296)), (some 2), none⟩])
 (.cond (.loc 2)
  (.seq (.region [⟨.mov (.loc 0), none, none⟩, ⟨.bin .shr (.reg 0) (.cst (.int .u64 32)), none, none⟩, ⟨.mov (.reg 1), (some 0), none⟩])
  (.region [⟨.mov (.cst (.int .i64 32)), (some 1), none⟩]))
  .skip))
 (.seq (.seq (.region [⟨.mov (.loc 0), none, none⟩, ⟨.bin .geq (.reg 0) (.cst (.int .u64 65536)), (some 3), none⟩])
 (.cond (.loc 3)
  (.seq (.region [⟨.mov (.loc 0), none, none⟩, ⟨.bin .shr (.reg 0) (.cst (.int .u64 16)), none, none⟩, ⟨.mov (.reg 1), (some 0), none⟩])
  (.region [⟨.mov (.loc 1), none, none⟩, ⟨.bin .add (.reg 0) (.cst (.int .i64 16)), none, none⟩, ⟨.mov (.reg 1), (some 1), none⟩]))
  .skip))
 (.seq (.seq (.region [⟨.mov (.loc 0), none, none⟩, ⟨.bin .geq (.reg 0) (.cst (.int .u64 256)), (some 4), none⟩])
 (.cond (.loc 4)
  (.seq (.region [⟨.mov (.loc 0), none, none⟩, ⟨.bin .shr (.reg 0) (.cst (.int .u64 8)), none, none⟩, ⟨.mov (.reg 1), (some 0), none⟩])
  (.region [⟨.mov (.loc 1), none, none⟩, ⟨.bin .add (.reg 0) (.cst (.int .i64 8)), none, none⟩, ⟨.mov (.reg 1), (some 1), none⟩]))
  .skip))
 (.seq (.region [⟨.mov (.loc 1), none, none⟩, ⟨.mov (.loc 0), none, none⟩, ⟨.conv (.toInt .u8) (.reg 1), none, none⟩, ⟨.indexS (.cst (.str [0, 1, 2, 2, 3, 3, 3, 3, 4, 4, 4, 4, 4, 4, 4, 4, 5, 5, 5, 5, 5, 5, 5, 5, 5, 5, 5, 5, 5, 5, 5, 5, 6, 6, 6, 6, 6, 6, 6, 6, 6, 6, 6, 6, 6, 6, 6, 6, 6, 6, 6, 6, 6, 6, 6, 6, 6, 6, 6, 6, 6, 6, 6, 6, 7, 7, 7, 7, 7, 7, 7, 7, 7, 7, 7, 7, 7, 7, 7, 7, 7, 7, 7, 7, 7, 7, 7, 7, 7, 7, 7, 7, 7, 7, 7, 7, 7, 7, 7, 7, 7, 7, 7, 7, 7, 7, 7, 7, 7, 7, 7, 7, 7, 7, 7, 7, 7, 7, 7, 7, 7, 7, 7, 7, 7, 7, 7, 7, 8, 8, 8, 8, 8, 8, 8, 8, 8, 8, 8, 8, 8, 8, 8, 8, 8, 8, 8, 8, 8, 8, 8, 8, 8, 8, 8, 8, 8, 8, 8, 8, 8, 8, 8, 8, 8, 8, 8, 8, 8, 8, 8, 8, 8, 8, 8, 8, 8, 8, 8, 8, 8, 8, 8, 8, 8, 8, 8, 8, 8, 8, 8, 8, 8, 8, 8, 8, 8, 8, 8, 8, 8, 8, 8, 8, 8, 8, 8, 8, 8, 8, 8, 8, 8, 8, 8, 8, 8, 8, 8, 8, 8, 8, 8, 8, 8, 8, 8, 8, 8, 8, 8, 8, 8, 8, 8, 8, 8, 8, 8, 8, 8, 8, 8, 8, 8, 8, 8, 8, 8, 8, 8, 8, 8, 8, 8, 8])) (.reg 2), none, none⟩, ⟨.conv (.toInt .i64) (.reg 3), none, none⟩, ⟨.bin .add (.reg 0) (.reg 4), none, none⟩, ⟨.mov (.reg 5), (some 1), none⟩])
 .ret)))))⟩
theorem c66 : compFunc Tryd.prog opts a66 Tryd.f66 = some t66 := by kernel_rfl
/-- slices.Grow[[]int,int] -/
def a67 : Ann := { slots := [0, 1, 4, 6, 16], lb := [], mu := [], trunc := [], draws := [] }
def t67 : TFunc := ⟨2, 5, [.loc 2],
 (.seq (.region [⟨.mov (.cst (.sl .nil [])), (some 2), none⟩])
 (.seq (.seq (.region [⟨.mov (.loc 1), none, none⟩, ⟨.bin .lss (.reg 0) (.cst (.int .i64 0)), (some 3), none⟩])
 (.cond (.loc 3)
  (.region [⟨.bad, none, none⟩, ⟨.bad, none, none⟩])
  .skip))
 (.seq (.seq (.region [⟨.mov (.loc 1), none, none⟩, ⟨.mov (.loc 0), none, none⟩, ⟨.cap (.reg 1), none, none⟩, ⟨.mov (.loc 0), none, none⟩, ⟨.len .sl (.reg 3), none, none⟩, ⟨.bin .sub (.reg 2) (.reg 4), none, none⟩, ⟨.bin .sub (.reg 0) (.reg 5), none, none⟩, ⟨.mov (.reg 6), (some 1), none⟩])
 (.seq (.region [⟨.mov (.loc 1), none, none⟩, ⟨.bin .gtr (.reg 0) (.cst (.int .i64 0)), (some 4), none⟩])
 (.cond (.loc 4)
  (.region [⟨.mov (.loc 0), none, none⟩, ⟨.mov (.loc 0), none, none⟩, ⟨.cap (.reg 1), none, none⟩, ⟨.slice (.sl 1) (.reg 0) none (some (.reg 2)) none, none, none⟩, ⟨.mov (.loc 1), none, none⟩, ⟨.grow 1 8 3 (.reg 3) (.reg 4), none, none⟩, ⟨.mov (.loc 0), none, none⟩, ⟨.len .sl (.reg 6), none, none⟩, ⟨.slice (.sl 1) (.reg 5) none (some (.reg 7)) none, none, none⟩, ⟨.mov (.reg 8), (some 0), none⟩])
  .skip)))
 (.seq (.region [⟨.mov (.loc 0), none, none⟩, ⟨.mov (.reg 0), (some 2), none⟩])
 .ret))))⟩
theorem c67 : compFunc Tryd.prog opts a67 Tryd.f67 = some t67 := by kernel_rfl
/-- pennant/isel.plain -/
def a68 : Ann := { slots := [0, 1, 2, 4, 12], lb := [1], mu := [], trunc := [], draws := [] }
def t68 : TFunc := ⟨1, 5, [.loc 2],
 (.seq (.region [⟨.boxL 1 (.loc 0), none, none⟩, ⟨.mov (.cst (.bool false)), (some 2), none⟩])
 (.seq (.seq (.region [⟨.fieldAddr 0 (.loc 1), none, none⟩, ⟨.load1 (.reg 0), none, none⟩, ⟨.bin .lss (.reg 1) (.cst (.int .i64 1)), none, none⟩, ⟨.mov (.reg 2), none, none⟩, ⟨.fieldAddr 0 (.loc 1), none, (some (3, false))⟩, ⟨.load1 (.reg 4), none, (some (3, false))⟩, ⟨.bin .gtr (.reg 5) (.cst (.int .i64 25)), none, (some (3, false))⟩, ⟨.pick (.reg 3) (.cst (.bool true)) (.reg 6), (some 4), none⟩])
 (.cond (.loc 4)
  (.seq (.region [⟨.mov (.cst (.bool false)), (some 2), none⟩])
  .ret)
  .skip))
 (.seq (.region [⟨.fieldAddr 0 (.loc 1), none, none⟩, ⟨.load1 (.reg 0), none, none⟩, ⟨.fieldAddr 4 (.loc 1), none, none⟩, ⟨.load1 (.reg 2), none, none⟩, ⟨.build [(.int .i64 0), (.int .i64 0), (.int .i64 0), (.int .i64 0), (.int .i64 0)] [(0, 1, (.reg 1)), (4, 1, (.reg 3))], none, none⟩, ⟨.call true false 82 [(.reg 4)], none, none⟩, ⟨.mov (.reg 5), none, none⟩, ⟨.extract 0 (.reg 6), none, none⟩, ⟨.extract 1 (.reg 6), none, none⟩, ⟨.mov (.reg 7), none, none⟩, ⟨.mov (.reg 8), (some 3), none⟩])
 (.seq (.region [⟨.mov (.loc 3), none, none⟩, ⟨.bin .eql (.reg 0) (.cst (.int .i64 0)), none, none⟩, ⟨.mov (.reg 1), (some 2), none⟩])
 .ret))))⟩
theorem c68 : compFunc Tryd.prog opts a68 Tryd.f68 = some t68 := by kernel_rfl
/-- (*pennant/live.flow).behind$1 -/
def a69 : Ann := { slots := [0, 1, 2, 4, 20, 28, 39, 53], lb := [4], mu := [], trunc := [], draws := [(0, ⟨[0, 1, 3, 7, 15, 0, 63, 127, 0, 511], [0, 1, 2, 3, 4, 5, 6, 7, 8], [(9, [], [])]⟩), (3, ⟨[0, 0, 2, 6, 14, 0, 32, 126, 254, 511, 1023], [0, 1, 2, 3, 4, 5, 6, 7, 8], [(9, [], [10])]⟩), (4, ⟨[0, 1, 3, 7, 15, 31, 15, 79, 207, 463, 975, 1999, 4095, 8191], [0, 1, 2, 3, 4, 5, 6, 7, 8, 9, 10, 11, 12, 13], []⟩)] }
def t69 : TFunc := ⟨3, 8, [],
 (.seq (.draw [0, 1, 2, 3, 4, 5, 6, 7, 8] [(9, [], [])] [⟨.load1 (.loc 1), none, none⟩, ⟨.nilCheck (.reg 0), none, none⟩, ⟨.fieldAddr 0 (.reg 1), none, none⟩, ⟨.fieldAddr 6 (.reg 2), none, none⟩, ⟨.load1 (.reg 3), none, none⟩, ⟨.load1 (.loc 2), none, none⟩, ⟨.indexAddrS 8 (.reg 4) (.reg 5), none, none⟩, ⟨.loadN 8 (.reg 6), none, none⟩, ⟨.allocH 32 [(.int .i64 0), (.int .i64 0), (.int .i64 0), (.int .i64 0), (.int .i64 0), (.int .i64 0), (.sl .nil []), (.sl .nil [])], (some 3), none⟩, ⟨.store 8 (.reg 8) (.reg 7), none, none⟩])
 (.seq (.seq (.region [⟨.fieldAddr 0 (.loc 3), none, none⟩, ⟨.load1 (.reg 0), none, none⟩, ⟨.bin .eql (.reg 1) (.cst (.int .i64 68)), none, none⟩, ⟨.mov (.reg 2), none, none⟩, ⟨.fieldAddr 0 (.loc 3), none, (some (3, false))⟩, ⟨.load1 (.reg 4), none, (some (3, false))⟩, ⟨.bin .eql (.reg 5) (.cst (.int .i64 72)), none, (some (3, false))⟩, ⟨.pick (.reg 3) (.cst (.bool true)) (.reg 6), (some 4), none⟩])
 (.cond (.loc 4)
  .ret
  .skip))
 (.seq (.seq (.region [⟨.fieldAddr 0 (.loc 3), none, none⟩, ⟨.load1 (.reg 0), none, none⟩, ⟨.call true false 21 [(.reg 1)], none, none⟩, ⟨.mov (.reg 2), none, none⟩, ⟨.fieldAddr 0 (.loc 3), none, (some (3, false))⟩, ⟨.load1 (.reg 4), none, (some (3, false))⟩, ⟨.bin .eql (.reg 5) (.cst (.int .i64 66)), none, (some (3, false))⟩, ⟨.pick (.reg 3) (.cst (.bool true)) (.reg 6), (some 5), none⟩])
 (.cond (.loc 5)
  (.seq (.draw [0, 1, 2, 3, 4, 5, 6, 7, 8] [(9, [], [10])] [⟨.mov (.loc 0), none, none⟩, ⟨.load1 (.loc 1), none, none⟩, ⟨.nilCheck (.reg 1), none, none⟩, ⟨.fieldAddr 7 (.reg 2), none, none⟩, ⟨.load1 (.reg 3), none, none⟩, ⟨.fieldAddr 5 (.loc 3), none, none⟩, ⟨.load1 (.reg 5), none, none⟩, ⟨.lookup (.leaf .int) (.agg [(.int .i64 0)]) false (.reg 4) (.reg 6), none, none⟩, ⟨.field 0 1 false (.reg 7), none, none⟩, ⟨.callv (.reg 0) [(.reg 8)], none, none⟩, ⟨.un .not (.reg 9), (some 6), none⟩])
  (.cond (.loc 6)
   .ret
   .skip))
  .skip))
 (.seq (.draw [0, 1, 2, 3, 4, 5, 6, 7, 8, 9, 10, 11, 12, 13] [] [⟨.fieldAddr 0 (.loc 3), none, none⟩, ⟨.load1 (.reg 0), none, none⟩, ⟨.bin .neq (.reg 1) (.cst (.int .i64 66)), none, none⟩, ⟨.mov (.reg 2), none, none⟩, ⟨.load1 (.loc 2), none, (some (3, true))⟩, ⟨.bin .add (.reg 4) (.cst (.int .i64 1)), none, (some (3, true))⟩, ⟨.load1 (.loc 1), none, (some (3, true))⟩, ⟨.nilCheck (.reg 6), none, (some (3, true))⟩, ⟨.fieldAddr 0 (.reg 7), none, (some (3, true))⟩, ⟨.fieldAddr 6 (.reg 8), none, (some (3, true))⟩, ⟨.load1 (.reg 9), none, (some (3, true))⟩, ⟨.len .sl (.reg 10), none, (some (3, true))⟩, ⟨.bin .lss (.reg 5) (.reg 11), none, (some (3, true))⟩, ⟨.pick (.reg 3) (.reg 12) (.cst (.bool false)), (some 7), none⟩])
 (.cond (.loc 7)
  (.region [⟨.mov (.loc 0), none, none⟩, ⟨.load1 (.loc 2), none, none⟩, ⟨.bin .add (.reg 1) (.cst (.int .i64 1)), none, none⟩, ⟨.callv (.reg 0) [(.reg 2)], none, none⟩])
  .skip)))))⟩
theorem c69 : compFunc Tryd.prog opts a69 Tryd.f69 = some t69 := by kernel_rfl
/-- slices.siftDownOrdered[int] -/
def a76 : Ann := { slots := [0, 1, 2, 3, 8, 9, 16, 36, 52], lb := [], mu := [], trunc := [], draws := [(3, ⟨[0, 1, 0, 7, 15, 31, 31, 31, 223, 511, 1023, 31, 31, 31, 12319, 28703, 63519, 129055, 262143, 524287], [0, 1, 2, 3, 4, 5, 6, 7, 8, 9, 10, 11, 12, 13, 14, 15, 16, 17], [(18, [], [19])]⟩), (5, ⟨[0, 0, 0, 6, 15, 31, 0, 0, 0, 384, 960, 1984, 4095, 8191], [0, 1, 2, 3, 4, 5, 6, 7, 8, 9, 10, 11], [(12, [], [13])]⟩), (6, ⟨[0, 0, 0, 6, 0, 0, 0, 96, 0, 0, 0, 1536, 3840, 7936, 0, 0, 0, 98304, 245760, 507904, 1048335, 2096911, 4194303, 8388607], [0, 1, 2, 3, 4, 5, 6, 7, 8, 9, 10, 11, 12, 13, 14, 15, 16, 17, 18, 19, 20], [(21, [], [22]), (23, [], [])]⟩)] }
def t76 : TFunc := ⟨4, 9, [],
 (.seq (.region [⟨.mov (.loc 1), none, none⟩, ⟨.mov (.reg 0), (some 4), none⟩])
 (.block 0
  (.loop
   (.block 1
    (.seq (.region [⟨.mov (.loc 4), none, none⟩, ⟨.bin .mul (.cst (.int .i64 2)) (.reg 0), none, none⟩, ⟨.bin .add (.reg 1) (.cst (.int .i64 1)), none, none⟩, ⟨.mov (.reg 2), (some 5), none⟩])
    (.seq (.seq (.region [⟨.mov (.loc 5), none, none⟩, ⟨.mov (.loc 2), none, none⟩, ⟨.bin .geq (.reg 0) (.reg 1), (some 6), none⟩])
    (.cond (.loc 6)
     (.exit 0)
     .skip))
    (.seq (.seq (.draw [0, 1, 2, 3, 4, 5, 6, 7, 8, 9, 10, 11, 12, 13, 14, 15, 16, 17] [(18, [], [19])] [⟨.mov (.loc 5), none, none⟩, ⟨.bin .add (.reg 0) (.cst (.int .i64 1)), none, none⟩, ⟨.mov (.loc 2), none, none⟩, ⟨.bin .lss (.reg 1) (.reg 2), none, none⟩, ⟨.mov (.reg 3), none, none⟩, ⟨.mov (.loc 0), none, (some (4, true))⟩, ⟨.mov (.loc 3), none, (some (4, true))⟩, ⟨.mov (.loc 5), none, (some (4, true))⟩, ⟨.bin .add (.reg 6) (.reg 7), none, (some (4, true))⟩, ⟨.indexAddrS 1 (.reg 5) (.reg 8), none, (some (4, true))⟩, ⟨.load1 (.reg 9), none, (some (4, true))⟩, ⟨.mov (.loc 0), none, (some (4, true))⟩, ⟨.mov (.loc 3), none, (some (4, true))⟩, ⟨.mov (.loc 5), none, (some (4, true))⟩, ⟨.bin .add (.reg 12) (.reg 13), none, (some (4, true))⟩, ⟨.bin .add (.reg 14) (.cst (.int .i64 1)), none, (some (4, true))⟩, ⟨.indexAddrS 1 (.reg 11) (.reg 15), none, (some (4, true))⟩, ⟨.load1 (.reg 16), none, (some (4, true))⟩, ⟨.call true false 62 [(.reg 10), (.reg 17)], none, (some (4, true))⟩, ⟨.pick (.reg 4) (.reg 18) (.cst (.bool false)), (some 7), none⟩])
    (.cond (.loc 7)
     (.region [⟨.mov (.loc 5), none, none⟩, ⟨.bin .add (.reg 0) (.cst (.int .i64 1)), none, none⟩, ⟨.mov (.reg 1), (some 5), none⟩])
     .skip))
    (.seq (.seq (.draw [0, 1, 2, 3, 4, 5, 6, 7, 8, 9, 10, 11] [(12, [], [13])] [⟨.mov (.loc 0), none, none⟩, ⟨.mov (.loc 3), none, none⟩, ⟨.mov (.loc 4), none, none⟩, ⟨.bin .add (.reg 1) (.reg 2), none, none⟩, ⟨.indexAddrS 1 (.reg 0) (.reg 3), none, none⟩, ⟨.load1 (.reg 4), none, none⟩, ⟨.mov (.loc 0), none, none⟩, ⟨.mov (.loc 3), none, none⟩, ⟨.mov (.loc 5), none, none⟩, ⟨.bin .add (.reg 7) (.reg 8), none, none⟩, ⟨.indexAddrS 1 (.reg 6) (.reg 9), none, none⟩, ⟨.load1 (.reg 10), none, none⟩, ⟨.call true false 62 [(.reg 5), (.reg 11)], none, none⟩, ⟨.un .not (.reg 12), (some 8), none⟩])
    (.cond (.loc 8)
     .ret
     .skip))
    (.seq (.draw [0, 1, 2, 3, 4, 5, 6, 7, 8, 9, 10, 11, 12, 13, 14, 15, 16, 17, 18, 19, 20] [(21, [], [22]), (23, [], [])] [⟨.mov (.loc 0), none, none⟩, ⟨.mov (.loc 3), none, none⟩, ⟨.mov (.loc 4), none, none⟩, ⟨.bin .add (.reg 1) (.reg 2), none, none⟩, ⟨.mov (.loc 0), none, none⟩, ⟨.mov (.loc 3), none, none⟩, ⟨.mov (.loc 5), none, none⟩, ⟨.bin .add (.reg 5) (.reg 6), none, none⟩, ⟨.mov (.loc 0), none, none⟩, ⟨.mov (.loc 3), none, none⟩, ⟨.mov (.loc 5), none, none⟩, ⟨.bin .add (.reg 9) (.reg 10), none, none⟩, ⟨.indexAddrS 1 (.reg 8) (.reg 11), none, none⟩, ⟨.load1 (.reg 12), none, none⟩, ⟨.mov (.loc 0), none, none⟩, ⟨.mov (.loc 3), none, none⟩, ⟨.mov (.loc 4), none, none⟩, ⟨.bin .add (.reg 15) (.reg 16), none, none⟩, ⟨.indexAddrS 1 (.reg 14) (.reg 17), none, none⟩, ⟨.load1 (.reg 18), none, none⟩, ⟨.indexAddrS 1 (.reg 0) (.reg 3), none, none⟩, ⟨.store 1 (.reg 20) (.reg 13), none, none⟩, ⟨.indexAddrS 1 (.reg 4) (.reg 7), none, none⟩, ⟨.store 1 (.reg 22) (.reg 19), none, none⟩])
    (.region [⟨.mov (.loc 5), none, none⟩, ⟨.mov (.reg 0), (some 4), none⟩]))))))))))⟩
theorem c76 : compFunc Tryd.prog opts a76 Tryd.f76 = some t76 := by kernel_rfl
/-- slices.nextPowerOfTwo -/
def a77 : Ann := { slots := [0, 2], lb := [], mu := [], trunc := [], draws := [] }
def t77 : TFunc := ⟨1, 2, [.loc 1],
 (.seq (.region [⟨.mov (.cst (.int .u64 0)), (some 1), none⟩])
 (.seq (.region [⟨.mov (.loc 0), none, none⟩, ⟨.conv (.toInt .u64) (.reg 0), none, none⟩, ⟨.call true false 44 [(.reg 1)], none, none⟩, ⟨.bin .shl (.cst (.int .u64 1)) (.reg 2), none, none⟩, ⟨.mov (.reg 3), (some 1), none⟩])
 .ret))⟩
theorem c77 : compFunc Tryd.prog opts a77 Tryd.f77 = some t77 := by kernel_rfl
/-- (*slices.xorshift).Next -/
def a78 : Ann := { slots := [0, 2], lb := [], mu := [], trunc := [], draws := [(1, ⟨[0, 1, 3, 0, 8, 24, 56, 127, 255, 511], [0, 1, 2, 3, 4, 5, 6, 7, 8], [(9, [], [])]⟩), (2, ⟨[0, 1, 3, 0, 8, 24, 56, 127, 255, 511], [0, 1, 2, 3, 4, 5, 6, 7, 8], [(9, [], [])]⟩), (3, ⟨[0, 1, 3, 0, 8, 24, 56, 127, 255, 511], [0, 1, 2, 3, 4, 5, 6, 7, 8], [(9, [], [])]⟩)] }
def t78 : TFunc := ⟨1, 2, [.loc 1],
 (.seq (.region [⟨.mov (.cst (.int .u64 0)), (some 1), none⟩])
 (.seq (.draw [0, 1, 2, 3, 4, 5, 6, 7, 8] [(9, [], [])] [⟨.mov (.loc 0), none, none⟩, ⟨.nilCheck (.reg 0), none, none⟩, ⟨.load1 (.reg 1), none, none⟩, ⟨.mov (.loc 0), none, none⟩, ⟨.nilCheck (.reg 3), none, none⟩, ⟨.load1 (.reg 4), none, none⟩, ⟨.bin .shl (.reg 5) (.cst (.int .u64 13)), none, none⟩, ⟨.bin .xor (.reg 2) (.reg 6), none, none⟩, ⟨.nilCheck (.reg 0), none, none⟩, ⟨.store 1 (.reg 8) (.reg 7), none, none⟩])
 (.seq (.draw [0, 1, 2, 3, 4, 5, 6, 7, 8] [(9, [], [])] [⟨.mov (.loc 0), none, none⟩, ⟨.nilCheck (.reg 0), none, none⟩, ⟨.load1 (.reg 1), none, none⟩, ⟨.mov (.loc 0), none, none⟩, ⟨.nilCheck (.reg 3), none, none⟩, ⟨.load1 (.reg 4), none, none⟩, ⟨.bin .shr (.reg 5) (.cst (.int .u64 7)), none, none⟩, ⟨.bin .xor (.reg 2) (.reg 6), none, none⟩, ⟨.nilCheck (.reg 0), none, none⟩, ⟨.store 1 (.reg 8) (.reg 7), none, none⟩])
 (.seq (.draw [0, 1, 2, 3, 4, 5, 6, 7, 8] [(9, [], [])] [⟨.mov (.loc 0), none, none⟩, ⟨.nilCheck (.reg 0), none, none⟩, ⟨.load1 (.reg 1), none, none⟩, ⟨.mov (.loc 0), none, none⟩, ⟨.nilCheck (.reg 3), none, none⟩, ⟨.load1 (.reg 4), none, none⟩, ⟨.bin .shl (.reg 5) (.cst (.int .u64 17)), none, none⟩, ⟨.bin .xor (.reg 2) (.reg 6), none, none⟩, ⟨.nilCheck (.reg 0), none, none⟩, ⟨.store 1 (.reg 8) (.reg 7), none, none⟩])
 (.seq (.region [⟨.mov (.loc 0), none, none⟩, ⟨.nilCheck (.reg 0), none, none⟩, ⟨.load1 (.reg 1), none, none⟩, ⟨.mov (.reg 2), (some 1), none⟩])
 .ret)))))⟩
theorem c78 : compFunc Tryd.prog opts a78 Tryd.f78 = some t78 := by kernel_rfl
/-- slices.medianAdjacentOrdered[int] -/
def a79 : Ann := { slots := [0, 1, 2, 6], lb := [], mu := [], trunc := [], draws := [] }
def t79 : TFunc := ⟨3, 4, [.loc 3],
 (.seq (.region [⟨.mov (.cst (.int .i64 0)), (some 3), none⟩])
 (.seq (.region [⟨.mov (.loc 0), none, none⟩, ⟨.mov (.loc 1), none, none⟩, ⟨.bin .sub (.reg 1) (.cst (.int .i64 1)), none, none⟩, ⟨.mov (.loc 1), none, none⟩, ⟨.mov (.loc 1), none, none⟩, ⟨.bin .add (.reg 4) (.cst (.int .i64 1)), none, none⟩, ⟨.mov (.loc 2), none, none⟩, ⟨.call false false 80 [(.reg 0), (.reg 2), (.reg 3), (.reg 5), (.reg 6)], none, none⟩, ⟨.mov (.reg 7), (some 3), none⟩])
 .ret))⟩
theorem c79 : compFunc Tryd.prog opts a79 Tryd.f79 = some t79 := by kernel_rfl
/-- slices.medianOrdered[int] -/
def a80 : Ann := { slots := [0, 1, 2, 3, 4, 10], lb := [], mu := [], trunc := [], draws := [] }
def t80 : TFunc := ⟨5, 6, [.loc 5],
 (.seq (.region [⟨.mov (.cst (.int .i64 0)), (some 5), none⟩])
 (.seq (.region [⟨.mov (.loc 0), none, none⟩, ⟨.mov (.loc 1), none, none⟩, ⟨.mov (.loc 2), none, none⟩, ⟨.mov (.loc 4), none, none⟩, ⟨.call false false 87 [(.reg 0), (.reg 1), (.reg 2), (.reg 3)], none, none⟩, ⟨.mov (.reg 4), none, none⟩, ⟨.extract 0 (.reg 5), none, none⟩, ⟨.extract 1 (.reg 5), none, none⟩, ⟨.mov (.reg 6), (some 1), none⟩, ⟨.mov (.reg 7), (some 2), none⟩])
 (.seq (.region [⟨.mov (.loc 0), none, none⟩, ⟨.mov (.loc 2), none, none⟩, ⟨.mov (.loc 3), none, none⟩, ⟨.mov (.loc 4), none, none⟩, ⟨.call false false 87 [(.reg 0), (.reg 1), (.reg 2), (.reg 3)], none, none⟩, ⟨.mov (.reg 4), none, none⟩, ⟨.extract 0 (.reg 5), none, none⟩, ⟨.extract 1 (.reg 5), none, none⟩, ⟨.mov (.reg 6), (some 2), none⟩, ⟨.mov (.reg 7), (some 3), none⟩])
 (.seq (.region [⟨.mov (.loc 0), none, none⟩, ⟨.mov (.loc 1), none, none⟩, ⟨.mov (.loc 2), none, none⟩, ⟨.mov (.loc 4), none, none⟩, ⟨.call false false 87 [(.reg 0), (.reg 1), (.reg 2), (.reg 3)], none, none⟩, ⟨.mov (.reg 4), none, none⟩, ⟨.extract 0 (.reg 5), none, none⟩, ⟨.extract 1 (.reg 5), none, none⟩, ⟨.mov (.reg 6), (some 1), none⟩, ⟨.mov (.reg 7), (some 2), none⟩])
 (.seq (.region [⟨.mov (.loc 2), none, none⟩, ⟨.mov (.reg 0), (some 5), none⟩])
 .ret)))))⟩
theorem c80 : compFunc Tryd.prog opts a80 Tryd.f80 = some t80 := by kernel_rfl
/-- cmp.isNaN[int] -/
def a81 : Ann := { slots := [0, 2], lb := [], mu := [], trunc := [], draws := [] }
def t81 : TFunc := ⟨1, 2, [.loc 1],
 (.seq (.region [⟨.mov (.cst (.bool false)), (some 1), none⟩])
 (.seq (.region [⟨.mov (.loc 0), none, none⟩, ⟨.mov (.loc 0), none, none⟩, ⟨.bin .neq (.reg 0) (.reg 1), none, none⟩, ⟨.mov (.reg 2), (some 1), none⟩])
 .ret))⟩
theorem c81 : compFunc Tryd.prog opts a81 Tryd.f81 = some t81 := by kernel_rfl
/-- pennant/isa.Encode -/
def a82 : Ann := { slots := [0, 1, 2, 3, 4, 5, 6, 7, 8, 9, 10, 12, 16, 43, 44, 45, 46, 50], lb := [12, 1], mu := [], trunc := [], draws := [(13, ⟨[0, 0, 2, 6, 0, 16, 48, 126, 255, 511, 1023], [0, 1, 2, 3, 4, 5, 6, 7, 8, 9, 10], []⟩)] }
def t82 : TFunc := ⟨1, 18, [.loc 2, .loc 3],
 (.seq (.region [⟨.boxL 1 (.loc 0), none, none⟩, ⟨.mov (.cst (.int .u32 0)), (some 2), none⟩, ⟨.mov (.cst (.int .i64 0)), (some 3), none⟩])
 (.seq (.seq (.region [⟨.loadN 5 (.loc 1), none, none⟩, ⟨.call true false 88 [(.reg 0)], none, none⟩, ⟨.mov (.reg 1), (some 4), none⟩])
 (.seq (.region [⟨.mov (.loc 4), none, none⟩, ⟨.bin .neq (.reg 0) (.cst (.int .i64 0)), (some 12), none⟩])
 (.cond (.loc 12)
  (.seq (.region [⟨.mov (.loc 4), none, none⟩, ⟨.mov (.cst (.int .u32 0)), (some 2), none⟩, ⟨.mov (.reg 0), (some 3), none⟩])
  .ret)
  .skip)))
 (.seq (.region [⟨.fieldAddr 0 (.loc 1), none, none⟩, ⟨.load1 (.reg 0), none, none⟩, ⟨.call true false 90 [(.reg 1)], none, none⟩, ⟨.call true false 89 [(.reg 2)], none, none⟩, ⟨.mov (.reg 3), none, none⟩, ⟨.extract 0 (.reg 4), none, none⟩, ⟨.extract 1 (.reg 4), none, none⟩, ⟨.extract 2 (.reg 4), none, none⟩, ⟨.extract 3 (.reg 4), none, none⟩, ⟨.mov (.reg 5), (some 5), none⟩, ⟨.mov (.reg 6), (some 6), none⟩, ⟨.mov (.reg 7), (some 7), none⟩, ⟨.mov (.reg 8), (some 8), none⟩])
 (.seq (.region [⟨.fieldAddr 0 (.loc 1), none, none⟩, ⟨.load1 (.reg 0), none, none⟩, ⟨.conv (.toInt .u32) (.reg 1), none, none⟩, ⟨.bin .shl (.reg 2) (.cst (.int .u64 26)), none, none⟩, ⟨.mov (.reg 3), (some 9), none⟩, ⟨.mov (.cst (.int .i64 21)), (some 10), none⟩])
 (.seq (.seq (.region [⟨.mov (.loc 5), none, none⟩, ⟨.fieldAddr 1 (.loc 1), none, none⟩, ⟨.load1 (.reg 1), none, none⟩, ⟨.build [(.bool false), (.int .i64 0)] [(0, 1, (.reg 0)), (1, 1, (.reg 2))], none, none⟩, ⟨.mov (.loc 6), none, none⟩, ⟨.fieldAddr 2 (.loc 1), none, none⟩, ⟨.load1 (.reg 5), none, none⟩, ⟨.build [(.bool false), (.int .i64 0)] [(0, 1, (.reg 4)), (1, 1, (.reg 6))], none, none⟩, ⟨.mov (.loc 7), none, none⟩, ⟨.fieldAddr 3 (.loc 1), none, none⟩, ⟨.load1 (.reg 9), none, none⟩, ⟨.build [(.bool false), (.int .i64 0)] [(0, 1, (.reg 8)), (1, 1, (.reg 10))], none, none⟩, ⟨.lit false [(.bool false), (.int .i64 0)] 3 [(0, (.reg 3)), (1, (.reg 7)), (2, (.reg 11))], (some 13), none⟩, ⟨.len .sl (.reg 12), (some 14), none⟩, ⟨.mov (.cst (.int .i64 0)), (some 15), none⟩])
 (.block 0
  (.loop
   (.seq (.region [⟨.bin .lss (.loc 15) (.loc 14), (some 16), none⟩])
   (.seq (.cond (.loc 16)
    .skip
    (.exit 0))
   (.seq (.block 1
    (.seq (.region [⟨.indexAddrS 2 (.loc 13) (.loc 15), none, none⟩, ⟨.loadN 2 (.reg 0), none, none⟩, ⟨.allocL 11 [(.bool false), (.int .i64 0)], none, none⟩, ⟨.store 2 (.reg 2) (.reg 1), none, none⟩])
    (.seq (.region [⟨.fieldAddr 0 (.loc 11), none, none⟩, ⟨.load1 (.reg 0), (some 17), none⟩])
    (.cond (.loc 17)
     (.seq (.region [⟨.mov (.loc 9), none, none⟩, ⟨.fieldAddr 1 (.loc 11), none, none⟩, ⟨.load1 (.reg 1), none, none⟩, ⟨.conv (.toInt .u32) (.reg 2), none, none⟩, ⟨.mov (.loc 10), none, none⟩, ⟨.bin .shl (.reg 3) (.reg 4), none, none⟩, ⟨.bin .or (.reg 0) (.reg 5), none, none⟩, ⟨.mov (.reg 6), (some 9), none⟩])
     (.region [⟨.mov (.loc 10), none, none⟩, ⟨.bin .sub (.reg 0) (.cst (.int .i64 5)), none, none⟩, ⟨.mov (.reg 1), (some 10), none⟩]))
     .skip))))
   (.region [⟨.bin .add (.loc 15) (.cst (.int .i64 1)), none, none⟩, ⟨.mov (.reg 0), (some 15), none⟩])))))))
 (.seq (.draw [0, 1, 2, 3, 4, 5, 6, 7, 8, 9, 10] [] [⟨.mov (.loc 9), none, none⟩, ⟨.fieldAddr 4 (.loc 1), none, none⟩, ⟨.load1 (.reg 1), none, none⟩, ⟨.conv (.toInt .u32) (.reg 2), none, none⟩, ⟨.mov (.loc 8), none, none⟩, ⟨.bin .shl (.cst (.int .u32 1)) (.reg 4), none, none⟩, ⟨.bin .sub (.reg 5) (.cst (.int .u32 1)), none, none⟩, ⟨.bin .and (.reg 3) (.reg 6), none, none⟩, ⟨.bin .or (.reg 0) (.reg 7), none, none⟩, ⟨.mov (.reg 8), (some 2), none⟩, ⟨.mov (.cst (.int .i64 0)), (some 3), none⟩])
 .ret))))))⟩
theorem c82 : compFunc Tryd.prog opts a82 Tryd.f82 = some t82 := by kernel_rfl
/-- slices.order2Ordered[int] -/
def a87 : Ann := { slots := [0, 1, 2, 3, 8, 9, 18], lb := [], mu := [], trunc := [], draws := [(1, ⟨[0, 0, 3, 7, 0, 0, 48, 112, 255], [0, 1, 2, 3, 4, 5, 6, 7], [(8, [], [])]⟩)] }
def t87 : TFunc := ⟨4, 7, [.loc 4, .loc 5],
 (.seq (.region [⟨.mov (.cst (.int .i64 0)), (some 4), none⟩, ⟨.mov (.cst (.int .i64 0)), (some 5), none⟩])
 (.seq (.seq (.draw [0, 1, 2, 3, 4, 5, 6, 7] [(8, [], [])] [⟨.mov (.loc 0), none, none⟩, ⟨.mov (.loc 2), none, none⟩, ⟨.indexAddrS 1 (.reg 0) (.reg 1), none, none⟩, ⟨.load1 (.reg 2), none, none⟩, ⟨.mov (.loc 0), none, none⟩, ⟨.mov (.loc 1), none, none⟩, ⟨.indexAddrS 1 (.reg 4) (.reg 5), none, none⟩, ⟨.load1 (.reg 6), none, none⟩, ⟨.call true false 62 [(.reg 3), (.reg 7)], (some 6), none⟩])
 (.cond (.loc 6)
  (.seq (.region [⟨.mov (.loc 3), none, none⟩, ⟨.nilCheck (.reg 0), none, none⟩, ⟨.load1 (.reg 1), none, none⟩, ⟨.bin .add (.reg 2) (.cst (.int .i64 1)), none, none⟩, ⟨.nilCheck (.reg 0), none, none⟩, ⟨.store 1 (.reg 4) (.reg 3), none, none⟩])
  (.seq (.region [⟨.mov (.loc 2), none, none⟩, ⟨.mov (.loc 1), none, none⟩, ⟨.mov (.reg 0), (some 4), none⟩, ⟨.mov (.reg 1), (some 5), none⟩])
  .ret))
  .skip))
 (.seq (.region [⟨.mov (.loc 1), none, none⟩, ⟨.mov (.loc 2), none, none⟩, ⟨.mov (.reg 0), (some 4), none⟩, ⟨.mov (.reg 1), (some 5), none⟩])
 .ret)))⟩
theorem c87 : compFunc Tryd.prog opts a87 Tryd.f87 = some t87 := by kernel_rfl
/-- pennant/isa.Check -/
def a88 : Ann := { slots := [0, 1, 2, 3, 4, 5, 6, 8, 9, 60], lb := [1], mu := [], trunc := [], draws := [] }
def t88 : TFunc := ⟨1, 10, [.loc 2],
 (.seq (.region [⟨.boxL 1 (.loc 0), none, none⟩, ⟨.mov (.cst (.int .i64 0)), (some 2), none⟩])
 (.seq (.region [⟨.fieldAddr 0 (.loc 1), none, none⟩, ⟨.load1 (.reg 0), none, none⟩, ⟨.call true false 90 [(.reg 1)], none, none⟩, ⟨.mov (.reg 2), (some 3), none⟩])
 (.seq (.region [⟨.mov (.loc 3), none, none⟩, ⟨.call true false 89 [(.reg 0)], none, none⟩, ⟨.mov (.reg 1), none, none⟩, ⟨.extract 0 (.reg 2), none, none⟩, ⟨.extract 1 (.reg 2), none, none⟩, ⟨.extract 2 (.reg 2), none, none⟩, ⟨.extract 3 (.reg 2), none, none⟩, ⟨.mov (.reg 3), (some 4), none⟩, ⟨.mov (.reg 4), (some 5), none⟩, ⟨.mov (.reg 5), (some 6), none⟩, ⟨.mov (.reg 6), none, none⟩])
 (.seq (.region [⟨.fieldAddr 0 (.loc 1), none, none⟩, ⟨.load1 (.reg 0), none, none⟩, ⟨.call true false 91 [(.reg 1)], none, none⟩, ⟨.mov (.reg 2), none, none⟩, ⟨.extract 0 (.reg 3), none, none⟩, ⟨.extract 1 (.reg 3), none, none⟩, ⟨.mov (.reg 4), (some 7), none⟩, ⟨.mov (.reg 5), (some 8), none⟩])
 (.seq (.seq (.region [⟨.mov (.loc 3), none, none⟩, ⟨.bin .eql (.reg 0) (.cst (.int .i64 0)), none, none⟩, ⟨.mov (.reg 1), none, none⟩, ⟨.mov (.loc 4), none, (some (2, false))⟩, ⟨.fieldAddr 1 (.loc 1), none, (some (2, false))⟩, ⟨.load1 (.reg 4), none, (some (2, false))⟩, ⟨.call true false 92 [(.reg 3), (.reg 5)], none, (some (2, false))⟩, ⟨.un .not (.reg 6), none, (some (2, false))⟩, ⟨.pick (.reg 2) (.cst (.bool true)) (.reg 7), none, none⟩, ⟨.mov (.reg 8), none, none⟩, ⟨.mov (.loc 5), none, (some (9, false))⟩, ⟨.fieldAddr 2 (.loc 1), none, (some (9, false))⟩, ⟨.load1 (.reg 11), none, (some (9, false))⟩, ⟨.call true false 92 [(.reg 10), (.reg 12)], none, (some (9, false))⟩, ⟨.un .not (.reg 13), none, (some (9, false))⟩, ⟨.pick (.reg 9) (.cst (.bool true)) (.reg 14), none, none⟩, ⟨.mov (.reg 15), none, none⟩, ⟨.mov (.loc 6), none, (some (16, false))⟩, ⟨.fieldAddr 3 (.loc 1), none, (some (16, false))⟩, ⟨.load1 (.reg 18), none, (some (16, false))⟩, ⟨.call true false 92 [(.reg 17), (.reg 19)], none, (some (16, false))⟩, ⟨.un .not (.reg 20), none, (some (16, false))⟩, ⟨.pick (.reg 16) (.cst (.bool true)) (.reg 21), none, none⟩, ⟨.mov (.reg 22), none, none⟩, ⟨.fieldAddr 4 (.loc 1), none, (some (23, false))⟩, ⟨.load1 (.reg 24), none, (some (23, false))⟩, ⟨.mov (.loc 7), none, (some (23, false))⟩, ⟨.bin .lss (.reg 25) (.reg 26), none, (some (23, false))⟩, ⟨.pick (.reg 23) (.cst (.bool true)) (.reg 27), none, none⟩, ⟨.mov (.reg 28), none, none⟩, ⟨.fieldAddr 4 (.loc 1), none, (some (29, false))⟩, ⟨.load1 (.reg 30), none, (some (29, false))⟩, ⟨.mov (.loc 8), none, (some (29, false))⟩, ⟨.bin .gtr (.reg 31) (.reg 32), none, (some (29, false))⟩, ⟨.pick (.reg 29) (.cst (.bool true)) (.reg 33), (some 9), none⟩])
 (.cond (.loc 9)
  (.seq (.region [⟨.mov (.cst (.int .i64 11)), (some 2), none⟩])
  .ret)
  .skip))
 (.seq (.region [⟨.mov (.cst (.int .i64 0)), (some 2), none⟩])
 .ret))))))⟩
theorem c88 : compFunc Tryd.prog opts a88 Tryd.f88 = some t88 := by kernel_rfl
/-- pennant/isa.has -/
def a89 : Ann := { slots := [0, 2, 3, 4, 5, 6, 7, 9, 11, 13, 15, 17, 19], lb := [], mu := [], trunc := [], draws := [] }
def t89 : TFunc := ⟨1, 13, [.loc 1, .loc 2, .loc 3, .loc 4],
 (.seq (.region [⟨.mov (.cst (.bool false)), (some 1), none⟩, ⟨.mov (.cst (.bool false)), (some 2), none⟩, ⟨.mov (.cst (.bool false)), (some 3), none⟩, ⟨.mov (.cst (.int .i64 0)), (some 4), none⟩])
 (.seq (.seq (.region [⟨.mov (.loc 0), (some 5), none⟩])
 (.block 0
  (.seq (.region [⟨.bin .eql (.loc 5) (.cst (.int .i64 1)), none, none⟩, ⟨.mov (.reg 0), (some 6), none⟩])
  (.cond (.loc 6)
   (.seq (.region [⟨.mov (.cst (.bool true)), (some 1), none⟩, ⟨.mov (.cst (.bool true)), (some 2), none⟩, ⟨.mov (.cst (.bool true)), (some 3), none⟩, ⟨.mov (.cst (.int .i64 0)), (some 4), none⟩])
   .ret)
   (.seq (.region [⟨.bin .eql (.loc 5) (.cst (.int .i64 2)), none, none⟩, ⟨.mov (.reg 0), (some 7), none⟩])
   (.cond (.loc 7)
    (.seq (.region [⟨.mov (.cst (.bool true)), (some 1), none⟩, ⟨.mov (.cst (.bool true)), (some 2), none⟩, ⟨.mov (.cst (.bool false)), (some 3), none⟩, ⟨.mov (.cst (.int .i64 16)), (some 4), none⟩])
    .ret)
    (.seq (.region [⟨.bin .eql (.loc 5) (.cst (.int .i64 3)), none, none⟩, ⟨.mov (.reg 0), (some 8), none⟩])
    (.cond (.loc 8)
     (.seq (.region [⟨.mov (.cst (.bool true)), (some 1), none⟩, ⟨.mov (.cst (.bool false)), (some 2), none⟩, ⟨.mov (.cst (.bool false)), (some 3), none⟩, ⟨.mov (.cst (.int .i64 16)), (some 4), none⟩])
     .ret)
     (.seq (.region [⟨.bin .eql (.loc 5) (.cst (.int .i64 4)), none, none⟩, ⟨.mov (.reg 0), (some 9), none⟩])
     (.cond (.loc 9)
      (.seq (.region [⟨.mov (.cst (.bool false)), (some 1), none⟩, ⟨.mov (.cst (.bool true)), (some 2), none⟩, ⟨.mov (.cst (.bool true)), (some 3), none⟩, ⟨.mov (.cst (.int .i64 16)), (some 4), none⟩])
      .ret)
      (.seq (.region [⟨.bin .eql (.loc 5) (.cst (.int .i64 5)), none, none⟩, ⟨.mov (.reg 0), (some 10), none⟩])
      (.cond (.loc 10)
       (.seq (.region [⟨.mov (.cst (.bool true)), (some 1), none⟩, ⟨.mov (.cst (.bool false)), (some 2), none⟩, ⟨.mov (.cst (.bool false)), (some 3), none⟩, ⟨.mov (.cst (.int .i64 21)), (some 4), none⟩])
       .ret)
       (.seq (.region [⟨.bin .eql (.loc 5) (.cst (.int .i64 6)), none, none⟩, ⟨.mov (.reg 0), (some 11), none⟩])
       (.cond (.loc 11)
        (.seq (.region [⟨.mov (.cst (.bool true)), (some 1), none⟩, ⟨.mov (.cst (.bool false)), (some 2), none⟩, ⟨.mov (.cst (.bool false)), (some 3), none⟩, ⟨.mov (.cst (.int .i64 0)), (some 4), none⟩])
        .ret)
        (.seq (.region [⟨.bin .eql (.loc 5) (.cst (.int .i64 7)), none, none⟩, ⟨.mov (.reg 0), (some 12), none⟩])
        (.cond (.loc 12)
         (.seq (.region [⟨.mov (.cst (.bool false)), (some 1), none⟩, ⟨.mov (.cst (.bool true)), (some 2), none⟩, ⟨.mov (.cst (.bool false)), (some 3), none⟩, ⟨.mov (.cst (.int .i64 0)), (some 4), none⟩])
         .ret)
         .skip))))))))))))))))
 (.seq (.region [⟨.mov (.cst (.bool false)), (some 1), none⟩, ⟨.mov (.cst (.bool false)), (some 2), none⟩, ⟨.mov (.cst (.bool false)), (some 3), none⟩, ⟨.mov (.cst (.int .i64 0)), (some 4), none⟩])
 .ret)))⟩
theorem c89 : compFunc Tryd.prog opts a89 Tryd.f89 = some t89 := by kernel_rfl
/-- pennant/isa.Form -/
def a90 : Ann := { slots := [0, 2, 3, 10, 13, 22, 29, 32, 35], lb := [], mu := [], trunc := [], draws := [] }
def t90 : TFunc := ⟨1, 9, [.loc 1],
 (.seq (.region [⟨.mov (.cst (.int .i64 0)), (some 1), none⟩])
 (.seq (.block 0
  (.seq (.region [⟨.mov (.loc 0), none, none⟩, ⟨.bin .geq (.reg 0) (.cst (.int .i64 1)), none, none⟩, ⟨.mov (.reg 1), none, none⟩, ⟨.mov (.loc 0), none, (some (2, true))⟩, ⟨.bin .leq (.reg 3) (.cst (.int .i64 14)), none, (some (2, true))⟩, ⟨.pick (.reg 2) (.reg 4) (.cst (.bool false)), none, none⟩, ⟨.mov (.reg 5), (some 2), none⟩])
  (.cond (.loc 2)
   (.seq (.region [⟨.mov (.cst (.int .i64 1)), (some 1), none⟩])
   .ret)
   (.seq (.region [⟨.mov (.loc 0), none, none⟩, ⟨.bin .eql (.reg 0) (.cst (.int .i64 23)), none, none⟩, ⟨.mov (.reg 1), (some 3), none⟩])
   (.cond (.loc 3)
    (.seq (.region [⟨.mov (.cst (.int .i64 3)), (some 1), none⟩])
    .ret)
    (.seq (.seq (.region [⟨.mov (.loc 0), none, none⟩, ⟨.bin .geq (.reg 0) (.cst (.int .i64 15)), none, none⟩, ⟨.mov (.reg 1), none, none⟩, ⟨.mov (.loc 0), none, (some (2, true))⟩, ⟨.bin .leq (.reg 3) (.cst (.int .i64 24)), none, (some (2, true))⟩, ⟨.pick (.reg 2) (.reg 4) (.cst (.bool false)), none, none⟩, ⟨.mov (.reg 5), (some 4), none⟩])
    (.cond (.loc 4)
     .skip
     (.region [⟨.mov (.loc 0), none, none⟩, ⟨.bin .eql (.reg 0) (.cst (.int .i64 33)), none, none⟩, ⟨.mov (.reg 1), (some 4), none⟩])))
    (.cond (.loc 4)
     (.seq (.region [⟨.mov (.cst (.int .i64 2)), (some 1), none⟩])
     .ret)
     (.seq (.region [⟨.mov (.loc 0), none, none⟩, ⟨.bin .geq (.reg 0) (.cst (.int .i64 25)), none, none⟩, ⟨.mov (.reg 1), none, none⟩, ⟨.mov (.loc 0), none, (some (2, true))⟩, ⟨.bin .leq (.reg 3) (.cst (.int .i64 31)), none, (some (2, true))⟩, ⟨.pick (.reg 2) (.reg 4) (.cst (.bool false)), none, none⟩, ⟨.mov (.reg 5), (some 5), none⟩])
     (.cond (.loc 5)
      (.seq (.region [⟨.mov (.cst (.int .i64 4)), (some 1), none⟩])
      .ret)
      (.seq (.region [⟨.mov (.loc 0), none, none⟩, ⟨.bin .eql (.reg 0) (.cst (.int .i64 32)), none, none⟩, ⟨.mov (.reg 1), (some 6), none⟩])
      (.cond (.loc 6)
       (.seq (.region [⟨.mov (.cst (.int .i64 5)), (some 1), none⟩])
       .ret)
       (.seq (.region [⟨.mov (.loc 0), none, none⟩, ⟨.bin .eql (.reg 0) (.cst (.int .i64 34)), none, none⟩, ⟨.mov (.reg 1), (some 7), none⟩])
       (.cond (.loc 7)
        (.seq (.region [⟨.mov (.cst (.int .i64 6)), (some 1), none⟩])
        .ret)
        (.seq (.seq (.region [⟨.mov (.loc 0), none, none⟩, ⟨.bin .eql (.reg 0) (.cst (.int .i64 35)), none, none⟩, ⟨.mov (.reg 1), (some 8), none⟩])
        (.cond (.loc 8)
         .skip
         (.region [⟨.mov (.loc 0), none, none⟩, ⟨.bin .eql (.reg 0) (.cst (.int .i64 36)), none, none⟩, ⟨.mov (.reg 1), (some 8), none⟩])))
        (.cond (.loc 8)
         (.seq (.region [⟨.mov (.cst (.int .i64 7)), (some 1), none⟩])
         .ret)
         .skip)))))))))))))))
 (.seq (.region [⟨.mov (.cst (.int .i64 0)), (some 1), none⟩])
 .ret)))⟩
theorem c90 : compFunc Tryd.prog opts a90 Tryd.f90 = some t90 := by kernel_rfl
/-- pennant/isa.ranges -/
def a91 : Ann := { slots := [0, 2, 3, 4, 5, 10, 14, 17, 18], lb := [], mu := [], trunc := [], draws := [] }
def t91 : TFunc := ⟨1, 9, [.loc 1, .loc 2],
 (.seq (.region [⟨.mov (.cst (.int .i64 0)), (some 1), none⟩, ⟨.mov (.cst (.int .i64 0)), (some 2), none⟩])
 (.seq (.seq (.region [⟨.mov (.loc 0), (some 3), none⟩])
 (.block 0
  (.seq (.seq (.region [⟨.bin .eql (.loc 3) (.cst (.int .i64 16)), none, none⟩, ⟨.mov (.reg 0), (some 4), none⟩])
  (.cond (.loc 4)
   .skip
   (.seq (.region [⟨.bin .eql (.loc 3) (.cst (.int .i64 17)), none, none⟩, ⟨.mov (.reg 0), (some 4), none⟩])
   (.cond (.loc 4)
    .skip
    (.seq (.region [⟨.bin .eql (.loc 3) (.cst (.int .i64 18)), none, none⟩, ⟨.mov (.reg 0), (some 4), none⟩])
    (.cond (.loc 4)
     .skip
     (.region [⟨.bin .eql (.loc 3) (.cst (.int .i64 23)), none, none⟩, ⟨.mov (.reg 0), (some 4), none⟩])))))))
  (.cond (.loc 4)
   (.seq (.region [⟨.mov (.cst (.int .i64 0)), (some 1), none⟩, ⟨.mov (.cst (.int .i64 65535)), (some 2), none⟩])
   .ret)
   (.seq (.seq (.region [⟨.bin .eql (.loc 3) (.cst (.int .i64 19)), none, none⟩, ⟨.mov (.reg 0), (some 5), none⟩])
   (.cond (.loc 5)
    .skip
    (.seq (.region [⟨.bin .eql (.loc 3) (.cst (.int .i64 20)), none, none⟩, ⟨.mov (.reg 0), (some 5), none⟩])
    (.cond (.loc 5)
     .skip
     (.region [⟨.bin .eql (.loc 3) (.cst (.int .i64 21)), none, none⟩, ⟨.mov (.reg 0), (some 5), none⟩])))))
   (.cond (.loc 5)
    (.seq (.region [⟨.mov (.cst (.int .i64 0)), (some 1), none⟩, ⟨.mov (.cst (.int .i64 31)), (some 2), none⟩])
    .ret)
    (.seq (.region [⟨.bin .eql (.loc 3) (.cst (.int .i64 32)), none, none⟩, ⟨.mov (.reg 0), (some 6), none⟩])
    (.cond (.loc 6)
     (.seq (.region [⟨.mov (.cst (.int .i64 (-1048576))), (some 1), none⟩, ⟨.mov (.cst (.int .i64 1048575)), (some 2), none⟩])
     .ret)
     .skip))))))))
 (.seq (.seq (.region [⟨.mov (.loc 0), none, none⟩, ⟨.call true false 90 [(.reg 0)], (some 7), none⟩])
 (.block 1
  (.seq (.seq (.region [⟨.bin .eql (.loc 7) (.cst (.int .i64 2)), none, none⟩, ⟨.mov (.reg 0), (some 8), none⟩])
  (.cond (.loc 8)
   .skip
   (.region [⟨.bin .eql (.loc 7) (.cst (.int .i64 4)), none, none⟩, ⟨.mov (.reg 0), (some 8), none⟩])))
  (.cond (.loc 8)
   (.seq (.region [⟨.mov (.cst (.int .i64 (-32768))), (some 1), none⟩, ⟨.mov (.cst (.int .i64 32767)), (some 2), none⟩])
   .ret)
   .skip))))
 (.seq (.region [⟨.mov (.cst (.int .i64 0)), (some 1), none⟩, ⟨.mov (.cst (.int .i64 0)), (some 2), none⟩])
 .ret))))⟩
theorem c91 : compFunc Tryd.prog opts a91 Tryd.f91 = some t91 := by kernel_rfl
/-- pennant/isa.register -/
def a92 : Ann := { slots := [0, 1, 4, 6], lb := [], mu := [], trunc := [], draws := [] }
def t92 : TFunc := ⟨2, 4, [.loc 2],
 (.seq (.region [⟨.mov (.cst (.bool false)), (some 2), none⟩])
 (.seq (.seq (.region [⟨.mov (.loc 0), none, none⟩, ⟨.un .not (.reg 0), (some 3), none⟩])
 (.cond (.loc 3)
  (.seq (.region [⟨.mov (.loc 1), none, none⟩, ⟨.bin .eql (.reg 0) (.cst (.int .i64 0)), none, none⟩, ⟨.mov (.reg 1), (some 2), none⟩])
  .ret)
  .skip))
 (.seq (.region [⟨.mov (.loc 1), none, none⟩, ⟨.bin .geq (.reg 0) (.cst (.int .i64 0)), none, none⟩, ⟨.mov (.reg 1), none, none⟩, ⟨.mov (.loc 1), none, (some (2, true))⟩, ⟨.bin .lss (.reg 3) (.cst (.int .i64 32)), none, (some (2, true))⟩, ⟨.pick (.reg 2) (.reg 4) (.cst (.bool false)), none, none⟩, ⟨.mov (.reg 5), (some 2), none⟩])
 .ret)))⟩
theorem c92 : compFunc Tryd.prog opts a92 Tryd.f92 = some t92 := by kernel_rfl
def g0 : List IV := [(.int .u8 0), (.int .u8 1), (.int .u8 56), (.int .u8 2), (.int .u8 57), (.int .u8 49), (.int .u8 28), (.int .u8 3), (.int .u8 61), (.int .u8 58), (.int .u8 42), (.int .u8 50), (.int .u8 38), (.int .u8 29), (.int .u8 17), (.int .u8 4), (.int .u8 62), (.int .u8 47), (.int .u8 59), (.int .u8 36), (.int .u8 45), (.int .u8 43), (.int .u8 51), (.int .u8 22), (.int .u8 53), (.int .u8 39), (.int .u8 33), (.int .u8 30), (.int .u8 24), (.int .u8 18), (.int .u8 12), (.int .u8 5), (.int .u8 63), (.int .u8 55), (.int .u8 48), (.int .u8 27), (.int .u8 60), (.int .u8 41), (.int .u8 37), (.int .u8 16), (.int .u8 46), (.int .u8 35), (.int .u8 44), (.int .u8 21), (.int .u8 52), (.int .u8 32), (.int .u8 23), (.int .u8 11), (.int .u8 54), (.int .u8 26), (.int .u8 40), (.int .u8 15), (.int .u8 34), (.int .u8 20), (.int .u8 31), (.int .u8 10), (.int .u8 25), (.int .u8 14), (.int .u8 19), (.int .u8 9), (.int .u8 13), (.int .u8 8), (.int .u8 7), (.int .u8 6)]
def tbl : List (Option TFunc) := [none, none, none, none, some t4, none, none, some t7, some t8, some t9, none, some t11, none, some t13, none, some t15, none, none, some t18, none, none, some t21, some t22, some t23, none, some t25, some t26, none, none, none, some t30, some t31, some t32, some t33, none, some t35, some t36, some t37, some t38, none, none, none, some t42, some t43, some t44, some t45, some t46, some t47, some t48, some t49, some t50, some t51, none, none, none, none, some t56, some t57, some t58, some t59, some t60, some t61, some t62, some t63, some t64, some t65, some t66, some t67, some t68, some t69, none, none, none, none, none, none, some t76, some t77, some t78, some t79, some t80, some t81, some t82, none, none, none, none, some t87, some t88, some t89, some t90, some t91, some t92]
def gtbl : List (Option (List IV)) := [some g0]
def K : TM.Prog := ⟨fun k => tbl.getD k none, fun g => gtbl.getD g none, fun _ => none⟩
/-- A function that stands in the table. -/
def Good (k : Nat) (tf : TFunc) : Prop := ∃ (A : Ann) (fn : Func), Tryd.prog.funcs[k]? = some fn ∧ fn.name ≠ "runtime.NumGoroutine" ∧ compFunc Tryd.prog opts A fn = some tf
theorem n4 : (Tryd.f4.name == "runtime.NumGoroutine") = false := by kernel_rfl
theorem q4 : Good 4 t4 := ⟨a4, Tryd.f4, Tryd.func4, fun e => by have h := n4; rw [e] at h; simp at h, c4⟩
theorem n7 : (Tryd.f7.name == "runtime.NumGoroutine") = false := by kernel_rfl
theorem q7 : Good 7 t7 := ⟨a7, Tryd.f7, Tryd.func7, fun e => by have h := n7; rw [e] at h; simp at h, c7⟩
theorem n8 : (Tryd.f8.name == "runtime.NumGoroutine") = false := by kernel_rfl
theorem q8 : Good 8 t8 := ⟨a8, Tryd.f8, Tryd.func8, fun e => by have h := n8; rw [e] at h; simp at h, c8⟩
theorem n9 : (Tryd.f9.name == "runtime.NumGoroutine") = false := by kernel_rfl
theorem q9 : Good 9 t9 := ⟨a9, Tryd.f9, Tryd.func9, fun e => by have h := n9; rw [e] at h; simp at h, c9⟩
theorem n11 : (Tryd.f11.name == "runtime.NumGoroutine") = false := by kernel_rfl
theorem q11 : Good 11 t11 := ⟨a11, Tryd.f11, Tryd.func11, fun e => by have h := n11; rw [e] at h; simp at h, c11⟩
theorem n13 : (Tryd.f13.name == "runtime.NumGoroutine") = false := by kernel_rfl
theorem q13 : Good 13 t13 := ⟨a13, Tryd.f13, Tryd.func13, fun e => by have h := n13; rw [e] at h; simp at h, c13⟩
theorem n15 : (Tryd.f15.name == "runtime.NumGoroutine") = false := by kernel_rfl
theorem q15 : Good 15 t15 := ⟨a15, Tryd.f15, Tryd.func15, fun e => by have h := n15; rw [e] at h; simp at h, c15⟩
theorem n18 : (Tryd.f18.name == "runtime.NumGoroutine") = false := by kernel_rfl
theorem q18 : Good 18 t18 := ⟨a18, Tryd.f18, Tryd.func18, fun e => by have h := n18; rw [e] at h; simp at h, c18⟩
theorem n21 : (Tryd.f21.name == "runtime.NumGoroutine") = false := by kernel_rfl
theorem q21 : Good 21 t21 := ⟨a21, Tryd.f21, Tryd.func21, fun e => by have h := n21; rw [e] at h; simp at h, c21⟩
theorem n22 : (Tryd.f22.name == "runtime.NumGoroutine") = false := by kernel_rfl
theorem q22 : Good 22 t22 := ⟨a22, Tryd.f22, Tryd.func22, fun e => by have h := n22; rw [e] at h; simp at h, c22⟩
theorem n23 : (Tryd.f23.name == "runtime.NumGoroutine") = false := by kernel_rfl
theorem q23 : Good 23 t23 := ⟨a23, Tryd.f23, Tryd.func23, fun e => by have h := n23; rw [e] at h; simp at h, c23⟩
theorem n25 : (Tryd.f25.name == "runtime.NumGoroutine") = false := by kernel_rfl
theorem q25 : Good 25 t25 := ⟨a25, Tryd.f25, Tryd.func25, fun e => by have h := n25; rw [e] at h; simp at h, c25⟩
theorem n26 : (Tryd.f26.name == "runtime.NumGoroutine") = false := by kernel_rfl
theorem q26 : Good 26 t26 := ⟨a26, Tryd.f26, Tryd.func26, fun e => by have h := n26; rw [e] at h; simp at h, c26⟩
theorem n30 : (Tryd.f30.name == "runtime.NumGoroutine") = false := by kernel_rfl
theorem q30 : Good 30 t30 := ⟨a30, Tryd.f30, Tryd.func30, fun e => by have h := n30; rw [e] at h; simp at h, c30⟩
theorem n31 : (Tryd.f31.name == "runtime.NumGoroutine") = false := by kernel_rfl
theorem q31 : Good 31 t31 := ⟨a31, Tryd.f31, Tryd.func31, fun e => by have h := n31; rw [e] at h; simp at h, c31⟩
theorem n32 : (Tryd.f32.name == "runtime.NumGoroutine") = false := by kernel_rfl
theorem q32 : Good 32 t32 := ⟨a32, Tryd.f32, Tryd.func32, fun e => by have h := n32; rw [e] at h; simp at h, c32⟩
theorem n33 : (Tryd.f33.name == "runtime.NumGoroutine") = false := by kernel_rfl
theorem q33 : Good 33 t33 := ⟨a33, Tryd.f33, Tryd.func33, fun e => by have h := n33; rw [e] at h; simp at h, c33⟩
theorem n35 : (Tryd.f35.name == "runtime.NumGoroutine") = false := by kernel_rfl
theorem q35 : Good 35 t35 := ⟨a35, Tryd.f35, Tryd.func35, fun e => by have h := n35; rw [e] at h; simp at h, c35⟩
theorem n36 : (Tryd.f36.name == "runtime.NumGoroutine") = false := by kernel_rfl
theorem q36 : Good 36 t36 := ⟨a36, Tryd.f36, Tryd.func36, fun e => by have h := n36; rw [e] at h; simp at h, c36⟩
theorem n37 : (Tryd.f37.name == "runtime.NumGoroutine") = false := by kernel_rfl
theorem q37 : Good 37 t37 := ⟨a37, Tryd.f37, Tryd.func37, fun e => by have h := n37; rw [e] at h; simp at h, c37⟩
theorem n38 : (Tryd.f38.name == "runtime.NumGoroutine") = false := by kernel_rfl
theorem q38 : Good 38 t38 := ⟨a38, Tryd.f38, Tryd.func38, fun e => by have h := n38; rw [e] at h; simp at h, c38⟩
theorem n42 : (Tryd.f42.name == "runtime.NumGoroutine") = false := by kernel_rfl
theorem q42 : Good 42 t42 := ⟨a42, Tryd.f42, Tryd.func42, fun e => by have h := n42; rw [e] at h; simp at h, c42⟩
theorem n43 : (Tryd.f43.name == "runtime.NumGoroutine") = false := by kernel_rfl
theorem q43 : Good 43 t43 := ⟨a43, Tryd.f43, Tryd.func43, fun e => by have h := n43; rw [e] at h; simp at h, c43⟩
theorem n44 : (Tryd.f44.name == "runtime.NumGoroutine") = false := by kernel_rfl
theorem q44 : Good 44 t44 := ⟨a44, Tryd.f44, Tryd.func44, fun e => by have h := n44; rw [e] at h; simp at h, c44⟩
theorem n45 : (Tryd.f45.name == "runtime.NumGoroutine") = false := by kernel_rfl
theorem q45 : Good 45 t45 := ⟨a45, Tryd.f45, Tryd.func45, fun e => by have h := n45; rw [e] at h; simp at h, c45⟩
theorem n46 : (Tryd.f46.name == "runtime.NumGoroutine") = false := by kernel_rfl
theorem q46 : Good 46 t46 := ⟨a46, Tryd.f46, Tryd.func46, fun e => by have h := n46; rw [e] at h; simp at h, c46⟩
theorem n47 : (Tryd.f47.name == "runtime.NumGoroutine") = false := by kernel_rfl
theorem q47 : Good 47 t47 := ⟨a47, Tryd.f47, Tryd.func47, fun e => by have h := n47; rw [e] at h; simp at h, c47⟩
theorem n48 : (Tryd.f48.name == "runtime.NumGoroutine") = false := by kernel_rfl
theorem q48 : Good 48 t48 := ⟨a48, Tryd.f48, Tryd.func48, fun e => by have h := n48; rw [e] at h; simp at h, c48⟩
theorem n49 : (Tryd.f49.name == "runtime.NumGoroutine") = false := by kernel_rfl
theorem q49 : Good 49 t49 := ⟨a49, Tryd.f49, Tryd.func49, fun e => by have h := n49; rw [e] at h; simp at h, c49⟩
theorem n50 : (Tryd.f50.name == "runtime.NumGoroutine") = false := by kernel_rfl
theorem q50 : Good 50 t50 := ⟨a50, Tryd.f50, Tryd.func50, fun e => by have h := n50; rw [e] at h; simp at h, c50⟩
theorem n51 : (Tryd.f51.name == "runtime.NumGoroutine") = false := by kernel_rfl
theorem q51 : Good 51 t51 := ⟨a51, Tryd.f51, Tryd.func51, fun e => by have h := n51; rw [e] at h; simp at h, c51⟩
theorem n56 : (Tryd.f56.name == "runtime.NumGoroutine") = false := by kernel_rfl
theorem q56 : Good 56 t56 := ⟨a56, Tryd.f56, Tryd.func56, fun e => by have h := n56; rw [e] at h; simp at h, c56⟩
theorem n57 : (Tryd.f57.name == "runtime.NumGoroutine") = false := by kernel_rfl
theorem q57 : Good 57 t57 := ⟨a57, Tryd.f57, Tryd.func57, fun e => by have h := n57; rw [e] at h; simp at h, c57⟩
theorem n58 : (Tryd.f58.name == "runtime.NumGoroutine") = false := by kernel_rfl
theorem q58 : Good 58 t58 := ⟨a58, Tryd.f58, Tryd.func58, fun e => by have h := n58; rw [e] at h; simp at h, c58⟩
theorem n59 : (Tryd.f59.name == "runtime.NumGoroutine") = false := by kernel_rfl
theorem q59 : Good 59 t59 := ⟨a59, Tryd.f59, Tryd.func59, fun e => by have h := n59; rw [e] at h; simp at h, c59⟩
theorem n60 : (Tryd.f60.name == "runtime.NumGoroutine") = false := by kernel_rfl
theorem q60 : Good 60 t60 := ⟨a60, Tryd.f60, Tryd.func60, fun e => by have h := n60; rw [e] at h; simp at h, c60⟩
theorem n61 : (Tryd.f61.name == "runtime.NumGoroutine") = false := by kernel_rfl
theorem q61 : Good 61 t61 := ⟨a61, Tryd.f61, Tryd.func61, fun e => by have h := n61; rw [e] at h; simp at h, c61⟩
theorem n62 : (Tryd.f62.name == "runtime.NumGoroutine") = false := by kernel_rfl
theorem q62 : Good 62 t62 := ⟨a62, Tryd.f62, Tryd.func62, fun e => by have h := n62; rw [e] at h; simp at h, c62⟩
theorem n63 : (Tryd.f63.name == "runtime.NumGoroutine") = false := by kernel_rfl
theorem q63 : Good 63 t63 := ⟨a63, Tryd.f63, Tryd.func63, fun e => by have h := n63; rw [e] at h; simp at h, c63⟩
theorem n64 : (Tryd.f64.name == "runtime.NumGoroutine") = false := by kernel_rfl
theorem q64 : Good 64 t64 := ⟨a64, Tryd.f64, Tryd.func64, fun e => by have h := n64; rw [e] at h; simp at h, c64⟩
theorem n65 : (Tryd.f65.name == "runtime.NumGoroutine") = false := by kernel_rfl
theorem q65 : Good 65 t65 := ⟨a65, Tryd.f65, Tryd.func65, fun e => by have h := n65; rw [e] at h; simp at h, c65⟩
theorem n66 : (Tryd.f66.name == "runtime.NumGoroutine") = false := by kernel_rfl
theorem q66 : Good 66 t66 := ⟨a66, Tryd.f66, Tryd.func66, fun e => by have h := n66; rw [e] at h; simp at h, c66⟩
theorem n67 : (Tryd.f67.name == "runtime.NumGoroutine") = false := by kernel_rfl
theorem q67 : Good 67 t67 := ⟨a67, Tryd.f67, Tryd.func67, fun e => by have h := n67; rw [e] at h; simp at h, c67⟩
theorem n68 : (Tryd.f68.name == "runtime.NumGoroutine") = false := by kernel_rfl
theorem q68 : Good 68 t68 := ⟨a68, Tryd.f68, Tryd.func68, fun e => by have h := n68; rw [e] at h; simp at h, c68⟩
theorem n69 : (Tryd.f69.name == "runtime.NumGoroutine") = false := by kernel_rfl
theorem q69 : Good 69 t69 := ⟨a69, Tryd.f69, Tryd.func69, fun e => by have h := n69; rw [e] at h; simp at h, c69⟩
theorem n76 : (Tryd.f76.name == "runtime.NumGoroutine") = false := by kernel_rfl
theorem q76 : Good 76 t76 := ⟨a76, Tryd.f76, Tryd.func76, fun e => by have h := n76; rw [e] at h; simp at h, c76⟩
theorem n77 : (Tryd.f77.name == "runtime.NumGoroutine") = false := by kernel_rfl
theorem q77 : Good 77 t77 := ⟨a77, Tryd.f77, Tryd.func77, fun e => by have h := n77; rw [e] at h; simp at h, c77⟩
theorem n78 : (Tryd.f78.name == "runtime.NumGoroutine") = false := by kernel_rfl
theorem q78 : Good 78 t78 := ⟨a78, Tryd.f78, Tryd.func78, fun e => by have h := n78; rw [e] at h; simp at h, c78⟩
theorem n79 : (Tryd.f79.name == "runtime.NumGoroutine") = false := by kernel_rfl
theorem q79 : Good 79 t79 := ⟨a79, Tryd.f79, Tryd.func79, fun e => by have h := n79; rw [e] at h; simp at h, c79⟩
theorem n80 : (Tryd.f80.name == "runtime.NumGoroutine") = false := by kernel_rfl
theorem q80 : Good 80 t80 := ⟨a80, Tryd.f80, Tryd.func80, fun e => by have h := n80; rw [e] at h; simp at h, c80⟩
theorem n81 : (Tryd.f81.name == "runtime.NumGoroutine") = false := by kernel_rfl
theorem q81 : Good 81 t81 := ⟨a81, Tryd.f81, Tryd.func81, fun e => by have h := n81; rw [e] at h; simp at h, c81⟩
theorem n82 : (Tryd.f82.name == "runtime.NumGoroutine") = false := by kernel_rfl
theorem q82 : Good 82 t82 := ⟨a82, Tryd.f82, Tryd.func82, fun e => by have h := n82; rw [e] at h; simp at h, c82⟩
theorem n87 : (Tryd.f87.name == "runtime.NumGoroutine") = false := by kernel_rfl
theorem q87 : Good 87 t87 := ⟨a87, Tryd.f87, Tryd.func87, fun e => by have h := n87; rw [e] at h; simp at h, c87⟩
theorem n88 : (Tryd.f88.name == "runtime.NumGoroutine") = false := by kernel_rfl
theorem q88 : Good 88 t88 := ⟨a88, Tryd.f88, Tryd.func88, fun e => by have h := n88; rw [e] at h; simp at h, c88⟩
theorem n89 : (Tryd.f89.name == "runtime.NumGoroutine") = false := by kernel_rfl
theorem q89 : Good 89 t89 := ⟨a89, Tryd.f89, Tryd.func89, fun e => by have h := n89; rw [e] at h; simp at h, c89⟩
theorem n90 : (Tryd.f90.name == "runtime.NumGoroutine") = false := by kernel_rfl
theorem q90 : Good 90 t90 := ⟨a90, Tryd.f90, Tryd.func90, fun e => by have h := n90; rw [e] at h; simp at h, c90⟩
theorem n91 : (Tryd.f91.name == "runtime.NumGoroutine") = false := by kernel_rfl
theorem q91 : Good 91 t91 := ⟨a91, Tryd.f91, Tryd.func91, fun e => by have h := n91; rw [e] at h; simp at h, c91⟩
theorem n92 : (Tryd.f92.name == "runtime.NumGoroutine") = false := by kernel_rfl
theorem q92 : Good 92 t92 := ⟨a92, Tryd.f92, Tryd.func92, fun e => by have h := n92; rw [e] at h; simp at h, c92⟩
theorem good : AllAt Good 0 tbl := ⟨q4, q7, q8, q9, q11, q13, q15, q18, q21, q22, q23, q25, q26, q30, q31, q32, q33, q35, q36, q37, q38, q42, q43, q44, q45, q46, q47, q48, q49, q50, q51, q56, q57, q58, q59, q60, q61, q62, q63, q64, q65, q66, q67, q68, q69, q76, q77, q78, q79, q80, q81, q82, q87, q88, q89, q90, q91, q92, trivial⟩
theorem kok : KOK Tryd.prog opts K := ⟨fun k tf h => allAt_get good k tf h, fun f p h => by simp [K] at h, by kernel_rfl⟩
end Go.Proofs.YtehlgnfhkidgoaaDoor
