/- The functions of this seat, compiled for the evaluator TM; each held against the translation by the kernel. By program. Condition: none. -/
import Derived.Test.YtdbffhgfjmhaiaaDoorPrim
set_option maxRecDepth 100000
set_option linter.unusedVariables false
namespace Go.Proofs.YtdbffhgfjmhaiaaDoor
open Go Go.TM
def opts : Opts := ⟨fun f => ([48, 50, 52, 65, 71, 72, 73, 74, 75, 80, 87, 88, 95, 120, 121, 122, 123, 124, 125, 126, 127] : List Nat).contains f, fun f => ([74, 87, 98, 111] : List Nat).contains f⟩
/-- pennant/pennantlaw05.BigKnown -/
def a10 : Ann := { slots := [0, 1, 2, 3, 4, 5, 6, 7, 8, 9, 10, 11, 12, 13, 14, 15, 16, 17, 18, 20, 21, 22, 130], lb := [15, 14, 12, 11, 9, 8, 7, 5, 3, 1], mu := [], trunc := [], draws := [] }
def t10 : TFunc := ⟨0, 23, [.loc 0],
 (.seq (.region [⟨.mov (.cst (.bool false)), (some 0), none⟩])
 (.seq (.region [⟨.call true false 12 [(.cst (.str []))], none, none⟩, ⟨.mov (.reg 0), none, none⟩, ⟨.extract 0 (.reg 1), none, none⟩, ⟨.extract 1 (.reg 1), none, none⟩, ⟨.allocL 1 [(.bool false), (.sl .nil [])], none, none⟩, ⟨.store 2 (.reg 4) (.reg 2), none, none⟩, ⟨.mov (.reg 3), (some 2), none⟩])
 (.seq (.region [⟨.call true false 12 [(.cst (.str [45]))], none, none⟩, ⟨.mov (.reg 0), none, none⟩, ⟨.extract 0 (.reg 1), none, none⟩, ⟨.extract 1 (.reg 1), none, none⟩, ⟨.allocL 3 [(.bool false), (.sl .nil [])], none, none⟩, ⟨.store 2 (.reg 4) (.reg 2), none, none⟩, ⟨.mov (.reg 3), (some 4), none⟩])
 (.seq (.region [⟨.call true false 12 [(.cst (.str [49, 97]))], none, none⟩, ⟨.mov (.reg 0), none, none⟩, ⟨.extract 0 (.reg 1), none, none⟩, ⟨.extract 1 (.reg 1), none, none⟩, ⟨.allocL 5 [(.bool false), (.sl .nil [])], none, none⟩, ⟨.store 2 (.reg 4) (.reg 2), none, none⟩, ⟨.mov (.reg 3), (some 6), none⟩])
 (.seq (.region [⟨.call true false 37 [(.cst (.str [45, 53]))], none, none⟩, ⟨.call true false 37 [(.cst (.str [53]))], none, none⟩, ⟨.call true false 26 [(.reg 0), (.reg 1)], none, none⟩, ⟨.allocL 7 [(.bool false), (.sl .nil [])], none, none⟩, ⟨.store 2 (.reg 3) (.reg 2), none, none⟩])
 (.seq (.region [⟨.call true false 37 [(.cst (.str [45, 55]))], none, none⟩, ⟨.call true false 37 [(.cst (.str [50]))], none, none⟩, ⟨.call true false 34 [(.reg 0), (.reg 1)], none, none⟩, ⟨.mov (.reg 2), none, none⟩, ⟨.extract 0 (.reg 3), none, none⟩, ⟨.extract 1 (.reg 3), none, none⟩, ⟨.extract 2 (.reg 3), none, none⟩, ⟨.allocL 8 [(.bool false), (.sl .nil [])], none, none⟩, ⟨.allocL 9 [(.bool false), (.sl .nil [])], none, none⟩, ⟨.store 2 (.reg 7) (.reg 4), none, none⟩, ⟨.store 2 (.reg 8) (.reg 5), none, none⟩, ⟨.mov (.reg 6), (some 10), none⟩])
 (.seq (.region [⟨.call true false 37 [(.cst (.str [55]))], none, none⟩, ⟨.call true false 37 [(.cst (.str [45, 50]))], none, none⟩, ⟨.call true false 34 [(.reg 0), (.reg 1)], none, none⟩, ⟨.mov (.reg 2), none, none⟩, ⟨.extract 0 (.reg 3), none, none⟩, ⟨.extract 1 (.reg 3), none, none⟩, ⟨.extract 2 (.reg 3), none, none⟩, ⟨.allocL 11 [(.bool false), (.sl .nil [])], none, none⟩, ⟨.allocL 12 [(.bool false), (.sl .nil [])], none, none⟩, ⟨.store 2 (.reg 7) (.reg 4), none, none⟩, ⟨.store 2 (.reg 8) (.reg 5), none, none⟩, ⟨.mov (.reg 6), (some 13), none⟩])
 (.seq (.region [⟨.call true false 37 [(.cst (.str [49]))], none, none⟩, ⟨.call true false 37 [(.cst (.str [48]))], none, none⟩, ⟨.call true false 34 [(.reg 0), (.reg 1)], none, none⟩, ⟨.mov (.reg 2), none, none⟩, ⟨.extract 0 (.reg 3), none, none⟩, ⟨.extract 1 (.reg 3), none, none⟩, ⟨.extract 2 (.reg 3), none, none⟩, ⟨.allocL 14 [(.bool false), (.sl .nil [])], none, none⟩, ⟨.allocL 15 [(.bool false), (.sl .nil [])], none, none⟩, ⟨.store 2 (.reg 7) (.reg 4), none, none⟩, ⟨.store 2 (.reg 8) (.reg 5), none, none⟩, ⟨.mov (.reg 6), (some 16), none⟩])
 (.seq (.seq (.region [⟨.call true false 11 [], none, none⟩, ⟨.un .not (.reg 0), none, none⟩, ⟨.mov (.reg 1), none, none⟩, ⟨.mov (.loc 2), none, (some (2, false))⟩, ⟨.bin .neq (.reg 3) (.cst (.int .i64 4)), none, (some (2, false))⟩, ⟨.pick (.reg 2) (.cst (.bool true)) (.reg 4), none, none⟩, ⟨.mov (.reg 5), none, none⟩, ⟨.mov (.loc 4), none, (some (6, false))⟩, ⟨.bin .neq (.reg 7) (.cst (.int .i64 4)), none, (some (6, false))⟩, ⟨.pick (.reg 6) (.cst (.bool true)) (.reg 8), none, none⟩, ⟨.mov (.reg 9), none, none⟩, ⟨.mov (.loc 6), none, (some (10, false))⟩, ⟨.bin .neq (.reg 11) (.cst (.int .i64 4)), none, (some (10, false))⟩, ⟨.pick (.reg 10) (.cst (.bool true)) (.reg 12), none, none⟩, ⟨.mov (.reg 13), none, none⟩, ⟨.call true false 37 [(.cst (.str [45, 48]))], none, (some (14, false))⟩, ⟨.call true false 38 [(.reg 15), (.cst (.str [48]))], none, (some (14, false))⟩, ⟨.un .not (.reg 16), none, (some (14, false))⟩, ⟨.pick (.reg 14) (.cst (.bool true)) (.reg 17), none, none⟩, ⟨.mov (.reg 18), none, none⟩, ⟨.call true false 37 [(.cst (.str [45, 48]))], none, (some (19, false))⟩, ⟨.field 0 1 false (.reg 20), none, (some (19, false))⟩, ⟨.pick (.reg 19) (.cst (.bool true)) (.reg 21), none, none⟩, ⟨.mov (.reg 22), none, none⟩, ⟨.call true false 37 [(.cst (.str [49]))], none, (some (23, false))⟩, ⟨.call true false 37 [(.cst (.str [50]))], none, (some (23, false))⟩, ⟨.call true false 27 [(.reg 24), (.reg 25)], none, (some (23, false))⟩, ⟨.call true false 38 [(.reg 26), (.cst (.str [45, 49]))], none, (some (23, false))⟩, ⟨.un .not (.reg 27), none, (some (23, false))⟩, ⟨.pick (.reg 23) (.cst (.bool true)) (.reg 28), none, none⟩, ⟨.mov (.reg 29), none, none⟩, ⟨.fieldAddr 0 (.loc 7), none, (some (30, false))⟩, ⟨.load1 (.reg 31), none, (some (30, false))⟩, ⟨.pick (.reg 30) (.cst (.bool true)) (.reg 32), none, none⟩, ⟨.mov (.reg 33), none, none⟩, ⟨.fieldAddr 1 (.loc 7), none, (some (34, false))⟩, ⟨.load1 (.reg 35), none, (some (34, false))⟩, ⟨.len .sl (.reg 36), none, (some (34, false))⟩, ⟨.bin .neq (.reg 37) (.cst (.int .i64 0)), none, (some (34, false))⟩, ⟨.pick (.reg 34) (.cst (.bool true)) (.reg 38), none, none⟩, ⟨.mov (.reg 39), none, none⟩, ⟨.mov (.loc 10), none, (some (40, false))⟩, ⟨.bin .neq (.reg 41) (.cst (.int .i64 0)), none, (some (40, false))⟩, ⟨.pick (.reg 40) (.cst (.bool true)) (.reg 42), none, none⟩, ⟨.mov (.reg 43), none, none⟩, ⟨.loadN 2 (.loc 8), none, (some (44, false))⟩, ⟨.call true false 38 [(.reg 45), (.cst (.str [45, 51]))], none, (some (44, false))⟩, ⟨.un .not (.reg 46), none, (some (44, false))⟩, ⟨.pick (.reg 44) (.cst (.bool true)) (.reg 47), none, none⟩, ⟨.mov (.reg 48), none, none⟩, ⟨.loadN 2 (.loc 9), none, (some (49, false))⟩, ⟨.call true false 38 [(.reg 50), (.cst (.str [45, 49]))], none, (some (49, false))⟩, ⟨.un .not (.reg 51), none, (some (49, false))⟩, ⟨.pick (.reg 49) (.cst (.bool true)) (.reg 52), none, none⟩, ⟨.mov (.reg 53), none, none⟩, ⟨.mov (.loc 13), none, (some (54, false))⟩, ⟨.bin .neq (.reg 55) (.cst (.int .i64 0)), none, (some (54, false))⟩, ⟨.pick (.reg 54) (.cst (.bool true)) (.reg 56), none, none⟩, ⟨.mov (.reg 57), none, none⟩, ⟨.loadN 2 (.loc 11), none, (some (58, false))⟩, ⟨.call true false 38 [(.reg 59), (.cst (.str [45, 51]))], none, (some (58, false))⟩, ⟨.un .not (.reg 60), none, (some (58, false))⟩, ⟨.pick (.reg 58) (.cst (.bool true)) (.reg 61), none, none⟩, ⟨.mov (.reg 62), none, none⟩, ⟨.loadN 2 (.loc 12), none, (some (63, false))⟩, ⟨.call true false 38 [(.reg 64), (.cst (.str [49]))], none, (some (63, false))⟩, ⟨.un .not (.reg 65), none, (some (63, false))⟩, ⟨.pick (.reg 63) (.cst (.bool true)) (.reg 66), none, none⟩, ⟨.mov (.reg 67), none, none⟩, ⟨.mov (.loc 16), none, (some (68, false))⟩, ⟨.bin .neq (.reg 69) (.cst (.int .i64 15)), none, (some (68, false))⟩, ⟨.pick (.reg 68) (.cst (.bool true)) (.reg 70), (some 22), none⟩])
 (.cond (.loc 22)
  (.seq (.region [⟨.mov (.cst (.bool false)), (some 0), none⟩])
  .ret)
  .skip))
 (.seq (.region [⟨.call true false 37 [(.cst (.str [53, 51, 54, 56, 55, 48, 57, 49, 49]))], none, none⟩, ⟨.call true false 23 [(.reg 0)], none, none⟩, ⟨.mov (.reg 1), none, none⟩, ⟨.extract 0 (.reg 2), none, none⟩, ⟨.extract 1 (.reg 2), none, none⟩, ⟨.mov (.reg 3), (some 17), none⟩, ⟨.mov (.reg 4), (some 18), none⟩])
 (.seq (.region [⟨.call true false 37 [(.cst (.str [53, 51, 54, 56, 55, 48, 57, 49, 50]))], none, none⟩, ⟨.call true false 23 [(.reg 0)], none, none⟩, ⟨.mov (.reg 1), none, none⟩, ⟨.extract 0 (.reg 2), none, none⟩, ⟨.extract 1 (.reg 2), none, none⟩, ⟨.mov (.reg 3), none, none⟩, ⟨.mov (.reg 4), (some 19), none⟩])
 (.seq (.region [⟨.call true false 37 [(.cst (.str [45, 53, 51, 54, 56, 55, 48, 57, 49, 50]))], none, none⟩, ⟨.call true false 23 [(.reg 0)], none, none⟩, ⟨.mov (.reg 1), none, none⟩, ⟨.extract 0 (.reg 2), none, none⟩, ⟨.extract 1 (.reg 2), none, none⟩, ⟨.mov (.reg 3), (some 20), none⟩, ⟨.mov (.reg 4), (some 21), none⟩])
 (.seq (.region [⟨.mov (.loc 17), none, none⟩, ⟨.bin .eql (.reg 0) (.cst (.int .i64 536870911)), none, none⟩, ⟨.mov (.reg 1), none, none⟩, ⟨.mov (.loc 18), none, (some (2, true))⟩, ⟨.pick (.reg 2) (.reg 3) (.cst (.bool false)), none, none⟩, ⟨.mov (.reg 4), none, none⟩, ⟨.mov (.loc 19), none, (some (5, true))⟩, ⟨.un .not (.reg 6), none, (some (5, true))⟩, ⟨.pick (.reg 5) (.reg 7) (.cst (.bool false)), none, none⟩, ⟨.mov (.reg 8), none, none⟩, ⟨.mov (.loc 20), none, (some (9, true))⟩, ⟨.bin .eql (.reg 10) (.cst (.int .i64 (-536870912))), none, (some (9, true))⟩, ⟨.pick (.reg 9) (.reg 11) (.cst (.bool false)), none, none⟩, ⟨.mov (.reg 12), none, none⟩, ⟨.mov (.loc 21), none, (some (13, true))⟩, ⟨.pick (.reg 13) (.reg 14) (.cst (.bool false)), none, none⟩, ⟨.mov (.reg 15), none, none⟩, ⟨.call true false 25 [(.cst (.int .i64 (-9223372036854775808)))], none, (some (16, true))⟩, ⟨.call true false 38 [(.reg 17), (.cst (.str [45, 57, 50, 50, 51, 51, 55, 50, 48, 51, 54, 56, 53, 52, 55, 55, 53, 56, 48, 56]))], none, (some (16, true))⟩, ⟨.pick (.reg 16) (.reg 18) (.cst (.bool false)), none, none⟩, ⟨.mov (.reg 19), none, none⟩, ⟨.call true false 37 [(.cst (.str [49, 50, 51, 52, 53, 54, 55, 56, 57, 48, 49, 50, 51, 52, 53, 54, 55, 56, 57, 48, 49, 50, 51, 52, 53, 54, 55, 56, 57, 48]))], none, (some (20, true))⟩, ⟨.call true false 37 [(.cst (.str [49, 48]))], none, (some (20, true))⟩, ⟨.call true false 28 [(.reg 21), (.reg 22)], none, (some (20, true))⟩, ⟨.call true false 38 [(.reg 23), (.cst (.str [49, 50, 51, 52, 53, 54, 55, 56, 57, 48, 49, 50, 51, 52, 53, 54, 55, 56, 57, 48, 49, 50, 51, 52, 53, 54, 55, 56, 57, 48, 48]))], none, (some (20, true))⟩, ⟨.pick (.reg 20) (.reg 24) (.cst (.bool false)), none, none⟩, ⟨.mov (.reg 25), (some 0), none⟩])
 .ret)))))))))))))⟩
theorem c10 : compFunc Tryd.prog opts a10 Tryd.f10 = some t10 := by kernel_rfl
/-- pennant/pennantlaw05.awake -/
def a11 : Ann := { slots := [0, 1, 2], lb := [1], mu := [], trunc := [], draws := [] }
def t11 : TFunc := ⟨0, 3, [.loc 0],
 (.seq (.region [⟨.mov (.cst (.bool false)), (some 0), none⟩])
 (.seq (.region [⟨.call true false 12 [(.cst (.str [45, 48, 48, 48, 54, 53, 53, 51, 55]))], none, none⟩, ⟨.mov (.reg 0), none, none⟩, ⟨.extract 0 (.reg 1), none, none⟩, ⟨.extract 1 (.reg 1), none, none⟩, ⟨.allocL 1 [(.bool false), (.sl .nil [])], none, none⟩, ⟨.store 2 (.reg 4) (.reg 2), none, none⟩, ⟨.mov (.reg 3), (some 2), none⟩])
 (.seq (.region [⟨.mov (.loc 2), none, none⟩, ⟨.bin .eql (.reg 0) (.cst (.int .i64 0)), none, none⟩, ⟨.mov (.reg 1), none, none⟩, ⟨.fieldAddr 0 (.loc 1), none, (some (2, true))⟩, ⟨.load1 (.reg 3), none, (some (2, true))⟩, ⟨.pick (.reg 2) (.reg 4) (.cst (.bool false)), none, none⟩, ⟨.mov (.reg 5), none, none⟩, ⟨.fieldAddr 1 (.loc 1), none, (some (6, true))⟩, ⟨.load1 (.reg 7), none, (some (6, true))⟩, ⟨.len .sl (.reg 8), none, (some (6, true))⟩, ⟨.bin .eql (.reg 9) (.cst (.int .i64 2)), none, (some (6, true))⟩, ⟨.pick (.reg 6) (.reg 10) (.cst (.bool false)), none, none⟩, ⟨.mov (.reg 11), none, none⟩, ⟨.fieldAddr 1 (.loc 1), none, (some (12, true))⟩, ⟨.load1 (.reg 13), none, (some (12, true))⟩, ⟨.indexAddrS 1 (.reg 14) (.cst (.int .i64 0)), none, (some (12, true))⟩, ⟨.load1 (.reg 15), none, (some (12, true))⟩, ⟨.bin .eql (.reg 16) (.cst (.int .u16 1)), none, (some (12, true))⟩, ⟨.pick (.reg 12) (.reg 17) (.cst (.bool false)), none, none⟩, ⟨.mov (.reg 18), none, none⟩, ⟨.fieldAddr 1 (.loc 1), none, (some (19, true))⟩, ⟨.load1 (.reg 20), none, (some (19, true))⟩, ⟨.indexAddrS 1 (.reg 21) (.cst (.int .i64 1)), none, (some (19, true))⟩, ⟨.load1 (.reg 22), none, (some (19, true))⟩, ⟨.bin .eql (.reg 23) (.cst (.int .u16 1)), none, (some (19, true))⟩, ⟨.pick (.reg 19) (.reg 24) (.cst (.bool false)), none, none⟩, ⟨.mov (.reg 25), none, none⟩, ⟨.loadN 2 (.loc 1), none, (some (26, true))⟩, ⟨.call true false 38 [(.reg 27), (.cst (.str [45, 54, 53, 53, 51, 55]))], none, (some (26, true))⟩, ⟨.pick (.reg 26) (.reg 28) (.cst (.bool false)), none, none⟩, ⟨.mov (.reg 29), none, none⟩, ⟨.call true false 37 [(.cst (.str [54, 53, 53, 51, 53]))], none, (some (30, true))⟩, ⟨.call true false 37 [(.cst (.str [54, 53, 53, 51, 55]))], none, (some (30, true))⟩, ⟨.call true false 28 [(.reg 31), (.reg 32)], none, (some (30, true))⟩, ⟨.call true false 38 [(.reg 33), (.cst (.str [52, 50, 57, 52, 57, 54, 55, 50, 57, 53]))], none, (some (30, true))⟩, ⟨.pick (.reg 30) (.reg 34) (.cst (.bool false)), none, none⟩, ⟨.mov (.reg 35), (some 0), none⟩])
 .ret)))⟩
theorem c11 : compFunc Tryd.prog opts a11 Tryd.f11 = some t11 := by kernel_rfl
/-- pennant/big.Parse -/
def a12 : Ann := { slots := [0, 2, 3, 4, 5, 7, 19, 22, 23, 24, 25, 33], lb := [2], mu := [], trunc := [], draws := [] }
def t12 : TFunc := ⟨1, 12, [.cell 1 2 true, .loc 2],
 (.seq (.region [⟨.allocL 1 [(.bool false), (.sl .nil [])], none, none⟩, ⟨.mov (.cst (.int .i64 0)), (some 2), none⟩])
 (.seq (.region [⟨.mov (.loc 0), none, none⟩, ⟨.call true false 39 [(.reg 0), (.cst (.str [43, 45]))], none, none⟩, ⟨.mov (.reg 1), (some 3), none⟩])
 (.seq (.seq (.region [⟨.mov (.loc 0), none, none⟩, ⟨.len .str (.reg 0), none, none⟩, ⟨.mov (.loc 3), none, none⟩, ⟨.len .str (.reg 2), none, none⟩, ⟨.bin .sub (.reg 1) (.reg 3), none, none⟩, ⟨.bin .gtr (.reg 4) (.cst (.int .i64 1)), none, none⟩, ⟨.mov (.reg 5), none, none⟩, ⟨.mov (.loc 3), none, (some (6, false))⟩, ⟨.bin .eql (.reg 7) (.cst (.str [])), none, (some (6, false))⟩, ⟨.pick (.reg 6) (.cst (.bool true)) (.reg 8), (some 6), none⟩])
 (.cond (.loc 6)
  (.seq (.region [⟨.build [(.bool false), (.sl .nil [])] [], none, none⟩, ⟨.store 2 (.loc 1) (.reg 0), none, none⟩, ⟨.mov (.cst (.int .i64 4)), (some 2), none⟩])
  .ret)
  .skip))
 (.seq (.region [⟨.mov (.cst (.sl .nil [])), (some 4), none⟩])
 (.seq (.seq (.region [⟨.mov (.loc 3), none, none⟩, ⟨.conv .strBytes (.reg 0), (some 7), none⟩, ⟨.len .sl (.reg 1), (some 8), none⟩, ⟨.mov (.cst (.int .i64 0)), (some 9), none⟩])
 (.block 0
  (.loop
   (.seq (.region [⟨.bin .lss (.loc 9) (.loc 8), (some 10), none⟩])
   (.seq (.cond (.loc 10)
    .skip
    (.exit 0))
   (.seq (.block 1
    (.seq (.region [⟨.indexAddrS 1 (.loc 7) (.loc 9), none, none⟩, ⟨.load1 (.reg 0), none, none⟩, ⟨.mov (.reg 1), (some 5), none⟩])
    (.seq (.seq (.region [⟨.mov (.loc 5), none, none⟩, ⟨.bin .lss (.reg 0) (.cst (.int .u8 48)), none, none⟩, ⟨.mov (.reg 1), none, none⟩, ⟨.mov (.loc 5), none, (some (2, false))⟩, ⟨.bin .gtr (.reg 3) (.cst (.int .u8 57)), none, (some (2, false))⟩, ⟨.pick (.reg 2) (.cst (.bool true)) (.reg 4), (some 11), none⟩])
    (.cond (.loc 11)
     (.seq (.region [⟨.build [(.bool false), (.sl .nil [])] [], none, none⟩, ⟨.store 2 (.loc 1) (.reg 0), none, none⟩, ⟨.mov (.cst (.int .i64 4)), (some 2), none⟩])
     .ret)
     .skip))
    (.region [⟨.mov (.loc 4), none, none⟩, ⟨.mov (.loc 5), none, none⟩, ⟨.bin .sub (.reg 1) (.cst (.int .u8 48)), none, none⟩, ⟨.conv (.toInt .u32) (.reg 2), none, none⟩, ⟨.call true false 41 [(.reg 0), (.cst (.int .u32 10)), (.reg 3)], none, none⟩, ⟨.call true false 40 [(.reg 4)], none, none⟩, ⟨.mov (.reg 5), (some 4), none⟩]))))
   (.region [⟨.bin .add (.loc 9) (.cst (.int .i64 1)), none, none⟩, ⟨.mov (.reg 0), (some 9), none⟩])))))))
 (.seq (.region [⟨.mov (.loc 0), none, none⟩, ⟨.indexS (.reg 0) (.cst (.int .i64 0)), none, none⟩, ⟨.bin .eql (.reg 1) (.cst (.int .u8 45)), none, none⟩, ⟨.mov (.loc 4), none, none⟩, ⟨.call true false 42 [(.reg 2), (.reg 3)], none, none⟩, ⟨.store 2 (.loc 1) (.reg 4), none, none⟩, ⟨.mov (.cst (.int .i64 0)), (some 2), none⟩])
 .ret))))))⟩
theorem c12 : compFunc Tryd.prog opts a12 Tryd.f12 = some t12 := by kernel_rfl
/-- pennant/big.Text -/
def a16 : Ann := { slots := [0, 1, 2, 3, 4, 5, 6, 12, 15, 26, 38], lb := [1], mu := [(11, 3)], trunc := [], draws := [] }
def t16 : TFunc := ⟨1, 11, [.loc 2],
 (.seq (.region [⟨.boxL 1 (.loc 0), none, none⟩, ⟨.mov (.cst (.str [])), (some 2), none⟩])
 (.seq (.region [⟨.fieldAddr 1 (.loc 1), none, none⟩, ⟨.load1 (.reg 0), none, none⟩, ⟨.call true false 40 [(.reg 1)], none, none⟩, ⟨.mov (.reg 2), (some 3), none⟩])
 (.seq (.seq (.region [⟨.mov (.loc 3), none, none⟩, ⟨.len .sl (.reg 0), none, none⟩, ⟨.bin .eql (.reg 1) (.cst (.int .i64 0)), (some 7), none⟩])
 (.cond (.loc 7)
  (.seq (.region [⟨.mov (.cst (.str [48])), (some 2), none⟩])
  .ret)
  .skip))
 (.seq (.region [⟨.mov (.cst (.sl .nil [])), (some 4), none⟩])
 (.seq (.block 0
  (.loop
   (.seq (.seq (.region [⟨.mov (.loc 3), none, none⟩, ⟨.len .sl (.reg 0), none, none⟩, ⟨.bin .gtr (.reg 1) (.cst (.int .i64 0)), (some 8), none⟩])
   (.cond (.loc 8)
    .skip
    (.exit 0)))
   (.block 1
    (.seq (.region [⟨.mov (.cst (.int .u32 0)), (some 5), none⟩])
    (.seq (.region [⟨.mov (.loc 3), none, none⟩, ⟨.call true false 45 [(.reg 0), (.cst (.int .u32 10000))], none, none⟩, ⟨.mov (.reg 1), none, none⟩, ⟨.extract 0 (.reg 2), none, none⟩, ⟨.extract 1 (.reg 2), none, none⟩, ⟨.mov (.reg 3), (some 3), none⟩, ⟨.mov (.reg 4), (some 5), none⟩])
    (.seq (.region [⟨.mov (.loc 5), none, none⟩, ⟨.conv (.toInt .i64) (.reg 0), none, none⟩, ⟨.call true false 46 [(.reg 1)], none, none⟩, ⟨.mov (.reg 2), (some 6), none⟩])
    (.seq (.seq (.region [⟨.mov (.loc 3), none, none⟩, ⟨.len .sl (.reg 0), none, none⟩, ⟨.bin .gtr (.reg 1) (.cst (.int .i64 0)), (some 9), none⟩])
    (.cond (.loc 9)
     (.region [⟨.mov (.loc 6), none, none⟩, ⟨.len .str (.reg 0), none, none⟩, ⟨.bin .sub (.cst (.int .i64 4)) (.reg 1), none, none⟩, ⟨.call true false 47 [(.cst (.str [48])), (.reg 2)], none, none⟩, ⟨.mov (.loc 6), none, none⟩, ⟨.bin .add (.reg 3) (.reg 4), none, none⟩, ⟨.mov (.reg 5), (some 6), none⟩])
     .skip))
    (.region [⟨.mov (.loc 4), none, none⟩, ⟨.mov (.loc 6), none, none⟩, ⟨.lit false [(.str [])] 1 [(0, (.reg 1))], none, none⟩, ⟨.append true 1 16 9 (.reg 0) (.reg 2), none, none⟩, ⟨.mov (.reg 3), (some 4), none⟩])))))))))
 (.seq (.seq (.region [⟨.fieldAddr 0 (.loc 1), none, none⟩, ⟨.load1 (.reg 0), (some 10), none⟩])
 (.cond (.loc 10)
  (.region [⟨.mov (.loc 4), none, none⟩, ⟨.lit false [(.str [])] 1 [(0, (.cst (.str [45])))], none, none⟩, ⟨.append false 1 16 9 (.reg 0) (.reg 1), none, none⟩, ⟨.mov (.reg 2), (some 4), none⟩])
  .skip))
 (.seq (.region [⟨.mov (.loc 4), none, none⟩, ⟨.call false false 48 [(.reg 0)], none, none⟩])
 (.seq (.region [⟨.mov (.loc 4), none, none⟩, ⟨.call true false 49 [(.reg 0), (.cst (.str []))], none, none⟩, ⟨.mov (.reg 1), (some 2), none⟩])
 .ret))))))))⟩
theorem c16 : compFunc Tryd.prog opts a16 Tryd.f16 = some t16 := by kernel_rfl
/-- pennant/big.Small -/
def a21 : Ann := { slots := [0, 1, 2, 3, 4, 5, 7, 13, 15, 16, 17, 23, 33], lb := [1], mu := [], trunc := [], draws := [] }
def t21 : TFunc := ⟨1, 13, [.loc 2, .loc 3],
 (.seq (.region [⟨.boxL 1 (.loc 0), none, none⟩, ⟨.mov (.cst (.int .i64 0)), (some 2), none⟩, ⟨.mov (.cst (.bool false)), (some 3), none⟩])
 (.seq (.region [⟨.fieldAddr 1 (.loc 1), none, none⟩, ⟨.load1 (.reg 0), none, none⟩, ⟨.call true false 40 [(.reg 1)], none, none⟩, ⟨.mov (.reg 2), (some 4), none⟩])
 (.seq (.seq (.region [⟨.mov (.loc 4), none, none⟩, ⟨.len .sl (.reg 0), none, none⟩, ⟨.bin .gtr (.reg 1) (.cst (.int .i64 4)), (some 7), none⟩])
 (.cond (.loc 7)
  (.seq (.region [⟨.mov (.cst (.int .i64 0)), (some 2), none⟩, ⟨.mov (.cst (.bool false)), (some 3), none⟩])
  .ret)
  .skip))
 (.seq (.region [⟨.allocH 80 [(.int .u64 0)], (some 5), none⟩, ⟨.store 1 (.reg 0) (.cst (.int .u64 0)), none, none⟩])
 (.seq (.seq (.region [⟨.mov (.loc 4), none, none⟩, ⟨.call false false 52 [(.reg 0)], (some 8), none⟩])
 (.block 0
  (.rangeFunc (.loc 8) [9, 10]
   (.region [⟨.mov (.loc 10), (some 6), none⟩])
   (.block 1
    (.region [⟨.load1 (.loc 5), none, none⟩, ⟨.bin .shl (.reg 0) (.cst (.int .u64 16)), none, none⟩, ⟨.mov (.loc 6), none, none⟩, ⟨.conv (.toInt .u64) (.reg 2), none, none⟩, ⟨.bin .or (.reg 1) (.reg 3), none, none⟩, ⟨.store 1 (.loc 5) (.reg 4), none, none⟩])))))
 (.seq (.block 2
  (.seq (.region [⟨.fieldAddr 0 (.loc 1), none, none⟩, ⟨.load1 (.reg 0), none, none⟩, ⟨.mov (.reg 1), none, none⟩, ⟨.load1 (.loc 5), none, (some (2, true))⟩, ⟨.bin .leq (.reg 3) (.cst (.int .u64 9223372036854775808)), none, (some (2, true))⟩, ⟨.pick (.reg 2) (.reg 4) (.cst (.bool false)), none, none⟩, ⟨.mov (.reg 5), (some 11), none⟩])
  (.cond (.loc 11)
   (.seq (.region [⟨.load1 (.loc 5), none, none⟩, ⟨.un .neg (.reg 0), none, none⟩, ⟨.conv (.toInt .i64) (.reg 1), none, none⟩, ⟨.mov (.reg 2), (some 2), none⟩, ⟨.mov (.cst (.bool true)), (some 3), none⟩])
   .ret)
   (.seq (.region [⟨.fieldAddr 0 (.loc 1), none, none⟩, ⟨.load1 (.reg 0), none, none⟩, ⟨.un .not (.reg 1), none, none⟩, ⟨.mov (.reg 2), none, none⟩, ⟨.load1 (.loc 5), none, (some (3, true))⟩, ⟨.bin .leq (.reg 4) (.cst (.int .u64 9223372036854775807)), none, (some (3, true))⟩, ⟨.pick (.reg 3) (.reg 5) (.cst (.bool false)), none, none⟩, ⟨.mov (.reg 6), (some 12), none⟩])
   (.cond (.loc 12)
    (.seq (.region [⟨.load1 (.loc 5), none, none⟩, ⟨.conv (.toInt .i64) (.reg 0), none, none⟩, ⟨.mov (.reg 1), (some 2), none⟩, ⟨.mov (.cst (.bool true)), (some 3), none⟩])
    .ret)
    .skip)))))
 (.seq (.region [⟨.mov (.cst (.int .i64 0)), (some 2), none⟩, ⟨.mov (.cst (.bool false)), (some 3), none⟩])
 .ret)))))))⟩
theorem c21 : compFunc Tryd.prog opts a21 Tryd.f21 = some t21 := by kernel_rfl
/-- pennant/big.Fix -/
def a23 : Ann := { slots := [0, 1, 2, 3, 4, 5, 20], lb := [1], mu := [], trunc := [], draws := [] }
def t23 : TFunc := ⟨1, 7, [.loc 2, .loc 3],
 (.seq (.region [⟨.boxL 1 (.loc 0), none, none⟩, ⟨.mov (.cst (.int .i64 0)), (some 2), none⟩, ⟨.mov (.cst (.bool false)), (some 3), none⟩])
 (.seq (.region [⟨.loadN 2 (.loc 1), none, none⟩, ⟨.call true false 21 [(.reg 0)], none, none⟩, ⟨.mov (.reg 1), none, none⟩, ⟨.extract 0 (.reg 2), none, none⟩, ⟨.extract 1 (.reg 2), none, none⟩, ⟨.mov (.reg 3), (some 4), none⟩, ⟨.mov (.reg 4), (some 5), none⟩])
 (.seq (.seq (.region [⟨.mov (.loc 5), none, none⟩, ⟨.un .not (.reg 0), none, none⟩, ⟨.mov (.reg 1), none, none⟩, ⟨.mov (.loc 4), none, (some (2, false))⟩, ⟨.bin .lss (.reg 3) (.cst (.int .i64 (-536870912))), none, (some (2, false))⟩, ⟨.pick (.reg 2) (.cst (.bool true)) (.reg 4), none, none⟩, ⟨.mov (.reg 5), none, none⟩, ⟨.mov (.loc 4), none, (some (6, false))⟩, ⟨.bin .gtr (.reg 7) (.cst (.int .i64 536870911)), none, (some (6, false))⟩, ⟨.pick (.reg 6) (.cst (.bool true)) (.reg 8), (some 6), none⟩])
 (.cond (.loc 6)
  (.seq (.region [⟨.mov (.cst (.int .i64 0)), (some 2), none⟩, ⟨.mov (.cst (.bool false)), (some 3), none⟩])
  .ret)
  .skip))
 (.seq (.region [⟨.mov (.loc 4), none, none⟩, ⟨.mov (.reg 0), (some 2), none⟩, ⟨.mov (.cst (.bool true)), (some 3), none⟩])
 .ret))))⟩
theorem c23 : compFunc Tryd.prog opts a23 Tryd.f23 = some t23 := by kernel_rfl
/-- pennant/big.Of -/
def a25 : Ann := { slots := [0, 2, 3, 4, 8, 12], lb := [2], mu := [], trunc := [], draws := [] }
def t25 : TFunc := ⟨1, 6, [.cell 1 2 true],
 (.seq (.region [⟨.allocL 1 [(.bool false), (.sl .nil [])], none, none⟩])
 (.seq (.region [⟨.mov (.loc 0), none, none⟩, ⟨.conv (.toInt .u64) (.reg 0), none, none⟩, ⟨.mov (.reg 1), (some 2), none⟩])
 (.seq (.seq (.region [⟨.mov (.loc 0), none, none⟩, ⟨.bin .lss (.reg 0) (.cst (.int .i64 0)), (some 4), none⟩])
 (.cond (.loc 4)
  (.region [⟨.mov (.loc 2), none, none⟩, ⟨.un .neg (.reg 0), none, none⟩, ⟨.mov (.reg 1), (some 2), none⟩])
  .skip))
 (.seq (.region [⟨.mov (.cst (.sl .nil [])), (some 3), none⟩])
 (.seq (.block 0
  (.loop
   (.seq (.seq (.region [⟨.mov (.loc 2), none, none⟩, ⟨.bin .neq (.reg 0) (.cst (.int .u64 0)), (some 5), none⟩])
   (.cond (.loc 5)
    .skip
    (.exit 0)))
   (.seq (.block 1
    (.region [⟨.mov (.loc 3), none, none⟩, ⟨.mov (.loc 2), none, none⟩, ⟨.conv (.toInt .u16) (.reg 1), none, none⟩, ⟨.lit false [(.int .u16 0)] 1 [(0, (.reg 2))], none, none⟩, ⟨.append false 1 2 55 (.reg 0) (.reg 3), none, none⟩, ⟨.mov (.reg 4), (some 3), none⟩]))
   (.region [⟨.mov (.loc 2), none, none⟩, ⟨.bin .shr (.reg 0) (.cst (.int .u64 16)), none, none⟩, ⟨.mov (.reg 1), (some 2), none⟩])))))
 (.seq (.region [⟨.mov (.loc 0), none, none⟩, ⟨.bin .lss (.reg 0) (.cst (.int .i64 0)), none, none⟩, ⟨.mov (.loc 3), none, none⟩, ⟨.call true false 42 [(.reg 1), (.reg 2)], none, none⟩, ⟨.store 2 (.loc 1) (.reg 3), none, none⟩])
 .ret))))))⟩
theorem c25 : compFunc Tryd.prog opts a25 Tryd.f25 = some t25 := by kernel_rfl
/-- pennant/big.Add -/
def a26 : Ann := { slots := [0, 1, 2, 3, 4, 5, 19], lb := [4, 3, 2], mu := [], trunc := [], draws := [(2, ⟨[0, 1, 0, 4, 0, 16, 60, 127, 255], [0, 1, 2, 3, 4, 5], [(6, [1], []), (7, [], []), (8, [], [])]⟩), (4, ⟨[0, 1, 0, 4, 12, 0, 32, 124, 252, 511, 1023], [0, 1, 2, 3, 5, 6], [(4, [1, 6], []), (7, [1], []), (8, [1], []), (9, [], []), (10, [], [])]⟩), (5, ⟨[0, 1, 0, 4, 12, 0, 32, 124, 252, 511, 1023], [0, 1, 2, 3, 5, 6], [(4, [1, 6], []), (7, [1], []), (8, [1], []), (9, [], []), (10, [], [])]⟩)] }
def t26 : TFunc := ⟨2, 7, [.cell 4 2 true],
 (.seq (.region [⟨.boxL 2 (.loc 0), none, none⟩, ⟨.boxL 3 (.loc 1), none, none⟩, ⟨.allocL 4 [(.bool false), (.sl .nil [])], none, none⟩])
 (.seq (.block 0
  (.seq (.region [⟨.fieldAddr 0 (.loc 2), none, none⟩, ⟨.load1 (.reg 0), none, none⟩, ⟨.fieldAddr 0 (.loc 3), none, none⟩, ⟨.load1 (.reg 2), none, none⟩, ⟨.eqB false .bool (.reg 1) (.reg 3), none, none⟩, ⟨.mov (.reg 4), (some 5), none⟩])
  (.cond (.loc 5)
   (.seq (.draw [0, 1, 2, 3, 4, 5] [(6, [1], []), (7, [], []), (8, [], [])] [⟨.fieldAddr 0 (.loc 2), none, none⟩, ⟨.load1 (.reg 0), none, none⟩, ⟨.fieldAddr 1 (.loc 2), none, none⟩, ⟨.load1 (.reg 2), none, none⟩, ⟨.fieldAddr 1 (.loc 3), none, none⟩, ⟨.load1 (.reg 4), none, none⟩, ⟨.call true false 53 [(.reg 3), (.reg 5)], none, none⟩, ⟨.call true false 42 [(.reg 1), (.reg 6)], none, none⟩, ⟨.store 2 (.loc 4) (.reg 7), none, none⟩])
   .ret)
   (.seq (.region [⟨.fieldAddr 1 (.loc 2), none, none⟩, ⟨.load1 (.reg 0), none, none⟩, ⟨.fieldAddr 1 (.loc 3), none, none⟩, ⟨.load1 (.reg 2), none, none⟩, ⟨.call true false 54 [(.reg 1), (.reg 3)], none, none⟩, ⟨.bin .geq (.reg 4) (.cst (.int .i64 0)), none, none⟩, ⟨.mov (.reg 5), (some 6), none⟩])
   (.cond (.loc 6)
    (.seq (.draw [0, 1, 2, 3, 5, 6] [(4, [1, 6], []), (7, [1], []), (8, [1], []), (9, [], []), (10, [], [])] [⟨.fieldAddr 0 (.loc 2), none, none⟩, ⟨.load1 (.reg 0), none, none⟩, ⟨.fieldAddr 1 (.loc 2), none, none⟩, ⟨.load1 (.reg 2), none, none⟩, ⟨.call true false 40 [(.reg 3)], none, none⟩, ⟨.fieldAddr 1 (.loc 3), none, none⟩, ⟨.load1 (.reg 5), none, none⟩, ⟨.call true false 40 [(.reg 6)], none, none⟩, ⟨.call true false 55 [(.reg 4), (.reg 7)], none, none⟩, ⟨.call true false 42 [(.reg 1), (.reg 8)], none, none⟩, ⟨.store 2 (.loc 4) (.reg 9), none, none⟩])
    .ret)
    .skip)))))
 (.seq (.draw [0, 1, 2, 3, 5, 6] [(4, [1, 6], []), (7, [1], []), (8, [1], []), (9, [], []), (10, [], [])] [⟨.fieldAddr 0 (.loc 3), none, none⟩, ⟨.load1 (.reg 0), none, none⟩, ⟨.fieldAddr 1 (.loc 3), none, none⟩, ⟨.load1 (.reg 2), none, none⟩, ⟨.call true false 40 [(.reg 3)], none, none⟩, ⟨.fieldAddr 1 (.loc 2), none, none⟩, ⟨.load1 (.reg 5), none, none⟩, ⟨.call true false 40 [(.reg 6)], none, none⟩, ⟨.call true false 55 [(.reg 4), (.reg 7)], none, none⟩, ⟨.call true false 42 [(.reg 1), (.reg 8)], none, none⟩, ⟨.store 2 (.loc 4) (.reg 9), none, none⟩])
 .ret)))⟩
theorem c26 : compFunc Tryd.prog opts a26 Tryd.f26 = some t26 := by kernel_rfl
/-- pennant/big.Sub -/
def a27 : Ann := { slots := [0, 1, 2, 3, 4], lb := [4, 3, 2], mu := [], trunc := [], draws := [] }
def t27 : TFunc := ⟨2, 5, [.cell 4 2 true],
 (.seq (.region [⟨.boxL 2 (.loc 0), none, none⟩, ⟨.boxL 3 (.loc 1), none, none⟩, ⟨.allocL 4 [(.bool false), (.sl .nil [])], none, none⟩])
 (.seq (.region [⟨.loadN 2 (.loc 2), none, none⟩, ⟨.fieldAddr 0 (.loc 3), none, none⟩, ⟨.load1 (.reg 1), none, none⟩, ⟨.un .not (.reg 2), none, none⟩, ⟨.fieldAddr 1 (.loc 3), none, none⟩, ⟨.load1 (.reg 4), none, none⟩, ⟨.build [(.bool false), (.sl .nil [])] [(0, 1, (.reg 3)), (1, 1, (.reg 5))], none, none⟩, ⟨.call true false 26 [(.reg 0), (.reg 6)], none, none⟩, ⟨.store 2 (.loc 4) (.reg 7), none, none⟩])
 .ret))⟩
theorem c27 : compFunc Tryd.prog opts a27 Tryd.f27 = some t27 := by kernel_rfl
/-- pennant/big.Mul -/
def a28 : Ann := { slots := [0, 1, 2, 3, 4, 5, 6, 7, 8, 9, 10, 20, 21, 22, 23, 28, 29, 30, 31], lb := [4, 3, 2], mu := [], trunc := [], draws := [] }
def t28 : TFunc := ⟨2, 19, [.cell 4 2 true],
 (.seq (.region [⟨.boxL 2 (.loc 0), none, none⟩, ⟨.boxL 3 (.loc 1), none, none⟩, ⟨.allocL 4 [(.bool false), (.sl .nil [])], none, none⟩])
 (.seq (.region [⟨.fieldAddr 1 (.loc 2), none, none⟩, ⟨.load1 (.reg 0), none, none⟩, ⟨.len .sl (.reg 1), none, none⟩, ⟨.fieldAddr 1 (.loc 3), none, none⟩, ⟨.load1 (.reg 3), none, none⟩, ⟨.len .sl (.reg 4), none, none⟩, ⟨.bin .add (.reg 2) (.reg 5), none, none⟩, ⟨.mkSlice [(.int .u16 0)] 2 (.reg 6) (.reg 6), none, none⟩, ⟨.mov (.reg 7), (some 5), none⟩])
 (.seq (.seq (.region [⟨.fieldAddr 1 (.loc 2), none, none⟩, ⟨.load1 (.reg 0), (some 11), none⟩, ⟨.len .sl (.reg 1), (some 12), none⟩, ⟨.mov (.cst (.int .i64 0)), (some 13), none⟩])
 (.block 0
  (.loop
   (.seq (.region [⟨.bin .lss (.loc 13) (.loc 12), (some 14), none⟩])
   (.seq (.cond (.loc 14)
    .skip
    (.exit 0))
   (.seq (.block 1
    (.seq (.region [⟨.mov (.loc 13), none, none⟩, ⟨.indexAddrS 1 (.loc 11) (.loc 13), none, none⟩, ⟨.load1 (.reg 1), none, none⟩, ⟨.mov (.reg 0), (some 6), none⟩, ⟨.mov (.reg 2), (some 7), none⟩])
    (.seq (.region [⟨.mov (.cst (.int .u32 0)), (some 8), none⟩])
    (.seq (.seq (.region [⟨.fieldAddr 1 (.loc 3), none, none⟩, ⟨.load1 (.reg 0), (some 15), none⟩, ⟨.len .sl (.reg 1), (some 16), none⟩, ⟨.mov (.cst (.int .i64 0)), (some 17), none⟩])
    (.block 2
     (.loop
      (.seq (.region [⟨.bin .lss (.loc 17) (.loc 16), (some 18), none⟩])
      (.seq (.cond (.loc 18)
       .skip
       (.exit 2))
      (.seq (.block 3
       (.seq (.region [⟨.mov (.loc 17), none, none⟩, ⟨.indexAddrS 1 (.loc 15) (.loc 17), none, none⟩, ⟨.load1 (.reg 1), none, none⟩, ⟨.mov (.reg 0), (some 9), none⟩, ⟨.mov (.reg 2), (some 10), none⟩])
       (.seq (.region [⟨.mov (.loc 8), none, none⟩, ⟨.mov (.loc 7), none, none⟩, ⟨.conv (.toInt .u32) (.reg 1), none, none⟩, ⟨.mov (.loc 10), none, none⟩, ⟨.conv (.toInt .u32) (.reg 3), none, none⟩, ⟨.bin .mul (.reg 2) (.reg 4), none, none⟩, ⟨.mov (.loc 5), none, none⟩, ⟨.mov (.loc 6), none, none⟩, ⟨.mov (.loc 9), none, none⟩, ⟨.bin .add (.reg 7) (.reg 8), none, none⟩, ⟨.indexAddrS 1 (.reg 6) (.reg 9), none, none⟩, ⟨.load1 (.reg 10), none, none⟩, ⟨.conv (.toInt .u32) (.reg 11), none, none⟩, ⟨.bin .add (.reg 5) (.reg 12), none, none⟩, ⟨.bin .add (.reg 0) (.reg 13), none, none⟩, ⟨.mov (.reg 14), (some 8), none⟩])
       (.seq (.region [⟨.mov (.loc 5), none, none⟩, ⟨.mov (.loc 6), none, none⟩, ⟨.mov (.loc 9), none, none⟩, ⟨.bin .add (.reg 1) (.reg 2), none, none⟩, ⟨.mov (.loc 8), none, none⟩, ⟨.conv (.toInt .u16) (.reg 4), none, none⟩, ⟨.indexAddrS 1 (.reg 0) (.reg 3), none, none⟩, ⟨.store 1 (.reg 6) (.reg 5), none, none⟩])
       (.region [⟨.mov (.loc 8), none, none⟩, ⟨.bin .shr (.reg 0) (.cst (.int .u64 16)), none, none⟩, ⟨.mov (.reg 1), (some 8), none⟩])))))
      (.region [⟨.bin .add (.loc 17) (.cst (.int .i64 1)), none, none⟩, ⟨.mov (.reg 0), (some 17), none⟩])))))))
    (.region [⟨.mov (.loc 5), none, none⟩, ⟨.mov (.loc 6), none, none⟩, ⟨.fieldAddr 1 (.loc 3), none, none⟩, ⟨.load1 (.reg 2), none, none⟩, ⟨.len .sl (.reg 3), none, none⟩, ⟨.bin .add (.reg 1) (.reg 4), none, none⟩, ⟨.mov (.loc 8), none, none⟩, ⟨.conv (.toInt .u16) (.reg 6), none, none⟩, ⟨.indexAddrS 1 (.reg 0) (.reg 5), none, none⟩, ⟨.store 1 (.reg 8) (.reg 7), none, none⟩])))))
   (.region [⟨.bin .add (.loc 13) (.cst (.int .i64 1)), none, none⟩, ⟨.mov (.reg 0), (some 13), none⟩])))))))
 (.seq (.region [⟨.fieldAddr 0 (.loc 2), none, none⟩, ⟨.load1 (.reg 0), none, none⟩, ⟨.fieldAddr 0 (.loc 3), none, none⟩, ⟨.load1 (.reg 2), none, none⟩, ⟨.eqB true .bool (.reg 1) (.reg 3), none, none⟩, ⟨.mov (.loc 5), none, none⟩, ⟨.call true false 42 [(.reg 4), (.reg 5)], none, none⟩, ⟨.store 2 (.loc 4) (.reg 6), none, none⟩])
 .ret))))⟩
theorem c28 : compFunc Tryd.prog opts a28 Tryd.f28 = some t28 := by kernel_rfl
/-- pennant/big.Quo -/
def a34 : Ann := { slots := [0, 1, 2, 3, 4, 5, 6, 7, 8, 9, 10, 11, 24, 30, 37], lb := [5, 4, 3, 2], mu := [], trunc := [], draws := [(1, ⟨[0, 1, 3, 0, 8, 31, 63, 127], [0, 1, 3, 4], [(2, [4], []), (5, [], [6, 7])]⟩), (5, ⟨[0, 0, 1, 7, 15], [0, 1], [(2, [1], []), (3, [], [4])]⟩), (12, ⟨[0, 1, 0, 4, 15, 0, 63, 0, 128, 0, 1023, 2047, 4095, 8191], [0, 1, 2, 3, 4, 5, 7, 8, 9], [(6, [8], []), (10, [], []), (11, [], []), (12, [], [13])]⟩)] }
def t34 : TFunc := ⟨2, 15, [.cell 4 2 true, .cell 5 2 true, .loc 6],
 (.seq (.region [⟨.boxL 2 (.loc 0), none, none⟩, ⟨.boxL 3 (.loc 1), none, none⟩, ⟨.allocL 4 [(.bool false), (.sl .nil [])], none, none⟩, ⟨.allocL 5 [(.bool false), (.sl .nil [])], none, none⟩, ⟨.mov (.cst (.int .i64 0)), (some 6), none⟩])
 (.seq (.draw [0, 1, 3, 4] [(2, [4], []), (5, [], [6, 7])] [⟨.fieldAddr 1 (.loc 2), none, none⟩, ⟨.load1 (.reg 0), none, none⟩, ⟨.call true false 40 [(.reg 1)], none, none⟩, ⟨.fieldAddr 1 (.loc 3), none, none⟩, ⟨.load1 (.reg 3), none, none⟩, ⟨.call true false 40 [(.reg 4)], none, none⟩, ⟨.mov (.reg 2), (some 7), none⟩, ⟨.mov (.reg 5), (some 8), none⟩])
 (.seq (.region [⟨.mov (.cst (.sl .nil [])), (some 9), none⟩, ⟨.mov (.cst (.sl .nil [])), (some 10), none⟩])
 (.seq (.block 0
  (.seq (.region [⟨.mov (.loc 8), none, none⟩, ⟨.len .sl (.reg 0), none, none⟩, ⟨.bin .eql (.reg 1) (.cst (.int .i64 0)), none, none⟩, ⟨.mov (.reg 2), (some 12), none⟩])
  (.cond (.loc 12)
   (.seq (.draw [0, 1] [(2, [1], []), (3, [], [4])] [⟨.loadN 2 (.loc 4), none, none⟩, ⟨.loadN 2 (.loc 5), none, none⟩, ⟨.store 2 (.loc 4) (.reg 0), none, none⟩, ⟨.store 2 (.loc 5) (.reg 1), none, none⟩, ⟨.mov (.cst (.int .i64 15)), (some 6), none⟩])
   .ret)
   (.seq (.region [⟨.mov (.loc 7), none, none⟩, ⟨.mov (.loc 8), none, none⟩, ⟨.call true false 54 [(.reg 0), (.reg 1)], none, none⟩, ⟨.bin .lss (.reg 2) (.cst (.int .i64 0)), none, none⟩, ⟨.mov (.reg 3), (some 13), none⟩])
   (.cond (.loc 13)
    (.region [⟨.mov (.loc 7), none, none⟩, ⟨.call false false 50 [(.reg 0)], none, none⟩, ⟨.mov (.reg 1), (some 10), none⟩])
    (.seq (.region [⟨.mov (.loc 8), none, none⟩, ⟨.len .sl (.reg 0), none, none⟩, ⟨.bin .eql (.reg 1) (.cst (.int .i64 1)), none, none⟩, ⟨.mov (.reg 2), (some 14), none⟩])
    (.cond (.loc 14)
     (.seq (.region [⟨.mov (.cst (.int .u32 0)), (some 11), none⟩])
     (.seq (.region [⟨.mov (.loc 7), none, none⟩, ⟨.mov (.loc 8), none, none⟩, ⟨.indexAddrS 1 (.reg 1) (.cst (.int .i64 0)), none, none⟩, ⟨.load1 (.reg 2), none, none⟩, ⟨.conv (.toInt .u32) (.reg 3), none, none⟩, ⟨.call true false 45 [(.reg 0), (.reg 4)], none, none⟩, ⟨.mov (.reg 5), none, none⟩, ⟨.extract 0 (.reg 6), none, none⟩, ⟨.extract 1 (.reg 6), none, none⟩, ⟨.mov (.reg 7), (some 9), none⟩, ⟨.mov (.reg 8), (some 11), none⟩])
     (.region [⟨.mov (.loc 11), none, none⟩, ⟨.conv (.toInt .u16) (.reg 0), none, none⟩, ⟨.lit false [(.int .u16 0)] 1 [(0, (.reg 1))], none, none⟩, ⟨.mov (.reg 2), (some 10), none⟩])))
     (.region [⟨.mov (.loc 7), none, none⟩, ⟨.mov (.loc 8), none, none⟩, ⟨.call true false 61 [(.reg 0), (.reg 1)], none, none⟩, ⟨.mov (.reg 2), none, none⟩, ⟨.extract 0 (.reg 3), none, none⟩, ⟨.extract 1 (.reg 3), none, none⟩, ⟨.mov (.reg 4), (some 9), none⟩, ⟨.mov (.reg 5), (some 10), none⟩]))))))))
 (.seq (.draw [0, 1, 2, 3, 4, 5, 7, 8, 9] [(6, [8], []), (10, [], []), (11, [], []), (12, [], [13])] [⟨.fieldAddr 0 (.loc 2), none, none⟩, ⟨.load1 (.reg 0), none, none⟩, ⟨.fieldAddr 0 (.loc 3), none, none⟩, ⟨.load1 (.reg 2), none, none⟩, ⟨.eqB true .bool (.reg 1) (.reg 3), none, none⟩, ⟨.mov (.loc 9), none, none⟩, ⟨.call true false 42 [(.reg 4), (.reg 5)], none, none⟩, ⟨.fieldAddr 0 (.loc 2), none, none⟩, ⟨.load1 (.reg 7), none, none⟩, ⟨.mov (.loc 10), none, none⟩, ⟨.call true false 42 [(.reg 8), (.reg 9)], none, none⟩, ⟨.store 2 (.loc 4) (.reg 6), none, none⟩, ⟨.store 2 (.loc 5) (.reg 10), none, none⟩, ⟨.mov (.cst (.int .i64 0)), (some 6), none⟩])
 .ret)))))⟩
theorem c34 : compFunc Tryd.prog opts a34 Tryd.f34 = some t34 := by kernel_rfl
/-- pennant/pennantlaw05.num -/
def a37 : Ann := { slots := [0, 2, 3], lb := [3, 2], mu := [], trunc := [], draws := [] }
def t37 : TFunc := ⟨1, 3, [.cell 1 2 true],
 (.seq (.region [⟨.allocL 1 [(.bool false), (.sl .nil [])], none, none⟩])
 (.seq (.region [⟨.mov (.loc 0), none, none⟩, ⟨.call true false 12 [(.reg 0)], none, none⟩, ⟨.mov (.reg 1), none, none⟩, ⟨.extract 0 (.reg 2), none, none⟩, ⟨.extract 1 (.reg 2), none, none⟩, ⟨.allocL 2 [(.bool false), (.sl .nil [])], none, none⟩, ⟨.store 2 (.reg 5) (.reg 3), none, none⟩, ⟨.mov (.reg 4), none, none⟩])
 (.seq (.region [⟨.loadN 2 (.loc 2), none, none⟩, ⟨.store 2 (.loc 1) (.reg 0), none, none⟩])
 .ret)))⟩
theorem c37 : compFunc Tryd.prog opts a37 Tryd.f37 = some t37 := by kernel_rfl
/-- pennant/pennantlaw05.is -/
def a38 : Ann := { slots := [0, 1, 2, 4], lb := [2], mu := [], trunc := [], draws := [] }
def t38 : TFunc := ⟨2, 4, [.loc 3],
 (.seq (.region [⟨.boxL 2 (.loc 0), none, none⟩, ⟨.mov (.cst (.bool false)), (some 3), none⟩])
 (.seq (.region [⟨.loadN 2 (.loc 2), none, none⟩, ⟨.call true false 16 [(.reg 0)], none, none⟩, ⟨.mov (.loc 1), none, none⟩, ⟨.bin .eql (.reg 1) (.reg 2), none, none⟩, ⟨.mov (.reg 3), (some 3), none⟩])
 .ret))⟩
theorem c38 : compFunc Tryd.prog opts a38 Tryd.f38 = some t38 := by kernel_rfl
/-- strings.TrimLeft -/
def a39 : Ann := { slots := [0, 1, 4, 5, 6, 12, 21, 31], lb := [], mu := [], trunc := [], draws := [] }
def t39 : TFunc := ⟨2, 8, [.loc 2],
 (.seq (.region [⟨.mov (.cst (.str [])), (some 2), none⟩])
 (.seq (.seq (.region [⟨.mov (.loc 0), none, none⟩, ⟨.bin .eql (.reg 0) (.cst (.str [])), none, none⟩, ⟨.mov (.reg 1), none, none⟩, ⟨.mov (.loc 1), none, (some (2, false))⟩, ⟨.bin .eql (.reg 3) (.cst (.str [])), none, (some (2, false))⟩, ⟨.pick (.reg 2) (.cst (.bool true)) (.reg 4), (some 5), none⟩])
 (.cond (.loc 5)
  (.seq (.region [⟨.mov (.loc 0), none, none⟩, ⟨.mov (.reg 0), (some 2), none⟩])
  .ret)
  .skip))
 (.seq (.seq (.region [⟨.mov (.loc 1), none, none⟩, ⟨.len .str (.reg 0), none, none⟩, ⟨.bin .eql (.reg 1) (.cst (.int .i64 1)), none, none⟩, ⟨.mov (.reg 2), none, none⟩, ⟨.mov (.loc 1), none, (some (3, true))⟩, ⟨.indexS (.reg 4) (.cst (.int .i64 0)), none, (some (3, true))⟩, ⟨.bin .lss (.reg 5) (.cst (.int .u8 128)), none, (some (3, true))⟩, ⟨.pick (.reg 3) (.reg 6) (.cst (.bool false)), (some 6), none⟩])
 (.cond (.loc 6)
  (.seq (.region [⟨.mov (.loc 0), none, none⟩, ⟨.mov (.loc 1), none, none⟩, ⟨.indexS (.reg 1) (.cst (.int .i64 0)), none, none⟩, ⟨.call true false 63 [(.reg 0), (.reg 2)], none, none⟩, ⟨.mov (.reg 3), (some 2), none⟩])
  .ret)
  .skip))
 (.seq (.seq (.region [⟨.mov (.loc 1), none, none⟩, ⟨.call true false 64 [(.reg 0)], none, none⟩, ⟨.mov (.reg 1), none, none⟩, ⟨.extract 0 (.reg 2), none, none⟩, ⟨.extract 1 (.reg 2), none, none⟩, ⟨.allocH 96 [(.bool false), (.bool false), (.bool false), (.bool false), (.bool false), (.bool false), (.bool false), (.bool false), (.bool false), (.bool false), (.bool false), (.bool false), (.bool false), (.bool false), (.bool false), (.bool false), (.bool false), (.bool false), (.bool false), (.bool false), (.bool false), (.bool false), (.bool false), (.bool false), (.bool false), (.bool false), (.bool false), (.bool false), (.bool false), (.bool false), (.bool false), (.bool false), (.bool false), (.bool false), (.bool false), (.bool false), (.bool false), (.bool false), (.bool false), (.bool false), (.bool false), (.bool false), (.bool false), (.bool false), (.bool false), (.bool false), (.bool false), (.bool false), (.bool false), (.bool false), (.bool false), (.bool false), (.bool false), (.bool false), (.bool false), (.bool false), (.bool false), (.bool false), (.bool false), (.bool false), (.bool false), (.bool false), (.bool false), (.bool false), (.bool false), (.bool false), (.bool false), (.bool false), (.bool false), (.bool false), (.bool false), (.bool false), (.bool false), (.bool false), (.bool false), (.bool false), (.bool false), (.bool false), (.bool false), (.bool false), (.bool false), (.bool false), (.bool false), (.bool false), (.bool false), (.bool false), (.bool false), (.bool false), (.bool false), (.bool false), (.bool false), (.bool false), (.bool false), (.bool false), (.bool false), (.bool false), (.bool false), (.bool false), (.bool false), (.bool false), (.bool false), (.bool false), (.bool false), (.bool false), (.bool false), (.bool false), (.bool false), (.bool false), (.bool false), (.bool false), (.bool false), (.bool false), (.bool false), (.bool false), (.bool false), (.bool false), (.bool false), (.bool false), (.bool false), (.bool false), (.bool false), (.bool false), (.bool false), (.bool false), (.bool false), (.bool false), (.bool false), (.bool false), (.bool false), (.bool false), (.bool false), (.bool false), (.bool false), (.bool false), (.bool false), (.bool false), (.bool false), (.bool false), (.bool false), (.bool false), (.bool false), (.bool false), (.bool false), (.bool false), (.bool false), (.bool false), (.bool false), (.bool false), (.bool false), (.bool false), (.bool false), (.bool false), (.bool false), (.bool false), (.bool false), (.bool false), (.bool false), (.bool false), (.bool false), (.bool false), (.bool false), (.bool false), (.bool false), (.bool false), (.bool false), (.bool false), (.bool false), (.bool false), (.bool false), (.bool false), (.bool false), (.bool false), (.bool false), (.bool false), (.bool false), (.bool false), (.bool false), (.bool false), (.bool false), (.bool false), (.bool false), (.bool false), (.bool false), (.bool false), (.bool false), (.bool false), (.bool false), (.bool false), (.bool false), (.bool false), (.bool false), (.bool false), (.bool false), (.bool false), (.bool false), (.bool false), (.bool false), (.bool false), (.bool false), (.bool false), (.bool false), (.bool false), (.bool false), (.bool false), (.bool false), (.bool false), (.bool false), (.bool false), (.bool false), (.bool false), (.bool false), (.bool false), (.bool false), (.bool false), (.bool false), (.bool false), (.bool false), (.bool false), (.bool false), (.bool false), (.bool false), (.bool false), (.bool false), (.bool false), (.bool false), (.bool false), (.bool false), (.bool false), (.bool false), (.bool false), (.bool false), (.bool false), (.bool false), (.bool false), (.bool false), (.bool false), (.bool false), (.bool false), (.bool false), (.bool false), (.bool false), (.bool false), (.bool false), (.bool false), (.bool false), (.bool false), (.bool false), (.bool false), (.bool false), (.bool false), (.bool false), (.bool false), (.bool false), (.bool false), (.bool false), (.bool false)], (some 3), none⟩, ⟨.store 256 (.reg 5) (.reg 3), none, none⟩, ⟨.mov (.reg 4), (some 4), none⟩])
 (.seq (.region [⟨.mov (.loc 4), (some 7), none⟩])
 (.cond (.loc 7)
  (.seq (.region [⟨.mov (.loc 0), none, none⟩, ⟨.call false false 65 [(.reg 0), (.loc 3)], none, none⟩, ⟨.mov (.reg 1), (some 2), none⟩])
  .ret)
  .skip)))
 (.seq (.region [⟨.mov (.loc 0), none, none⟩, ⟨.mov (.loc 1), none, none⟩, ⟨.call true false 66 [(.reg 0), (.reg 1)], none, none⟩, ⟨.mov (.reg 2), (some 2), none⟩])
 .ret)))))⟩
theorem c39 : compFunc Tryd.prog opts a39 Tryd.f39 = some t39 := by kernel_rfl
/-- pennant/big.trim -/
def a40 : Ann := { slots := [0, 2, 14], lb := [], mu := [], trunc := [], draws := [] }
def t40 : TFunc := ⟨1, 3, [.loc 1],
 (.seq (.region [⟨.mov (.cst (.sl .nil [])), (some 1), none⟩])
 (.seq (.block 0
  (.loop
   (.seq (.seq (.region [⟨.mov (.loc 0), none, none⟩, ⟨.len .sl (.reg 0), none, none⟩, ⟨.bin .gtr (.reg 1) (.cst (.int .i64 0)), none, none⟩, ⟨.mov (.reg 2), none, none⟩, ⟨.mov (.loc 0), none, (some (3, true))⟩, ⟨.mov (.loc 0), none, (some (3, true))⟩, ⟨.len .sl (.reg 5), none, (some (3, true))⟩, ⟨.bin .sub (.reg 6) (.cst (.int .i64 1)), none, (some (3, true))⟩, ⟨.indexAddrS 1 (.reg 4) (.reg 7), none, (some (3, true))⟩, ⟨.load1 (.reg 8), none, (some (3, true))⟩, ⟨.bin .eql (.reg 9) (.cst (.int .u16 0)), none, (some (3, true))⟩, ⟨.pick (.reg 3) (.reg 10) (.cst (.bool false)), (some 2), none⟩])
   (.cond (.loc 2)
    .skip
    (.exit 0)))
   (.block 1
    (.region [⟨.mov (.loc 0), none, none⟩, ⟨.mov (.loc 0), none, none⟩, ⟨.len .sl (.reg 1), none, none⟩, ⟨.bin .sub (.reg 2) (.cst (.int .i64 1)), none, none⟩, ⟨.slice (.sl 1) (.reg 0) none (some (.reg 3)) none, none, none⟩, ⟨.mov (.reg 4), (some 0), none⟩])))))
 (.seq (.region [⟨.mov (.loc 0), none, none⟩, ⟨.mov (.reg 0), (some 1), none⟩])
 .ret)))⟩
theorem c40 : compFunc Tryd.prog opts a40 Tryd.f40 = some t40 := by kernel_rfl
/-- pennant/big.scaled -/
def a41 : Ann := { slots := [0, 1, 2, 6, 7, 9, 10, 11, 12, 13], lb := [], mu := [], trunc := [], draws := [] }
def t41 : TFunc := ⟨3, 10, [.loc 3],
 (.seq (.region [⟨.mov (.cst (.sl .nil [])), (some 3), none⟩])
 (.seq (.region [⟨.mov (.cst (.sl .nil [])), (some 4), none⟩])
 (.seq (.seq (.region [⟨.mov (.loc 0), (some 6), none⟩, ⟨.len .sl (.reg 0), (some 7), none⟩, ⟨.mov (.cst (.int .i64 0)), (some 8), none⟩])
 (.block 0
  (.loop
   (.seq (.region [⟨.bin .lss (.loc 8) (.loc 7), (some 9), none⟩])
   (.seq (.cond (.loc 9)
    .skip
    (.exit 0))
   (.seq (.block 1
    (.seq (.region [⟨.indexAddrS 1 (.loc 6) (.loc 8), none, none⟩, ⟨.load1 (.reg 0), none, none⟩, ⟨.mov (.reg 1), (some 5), none⟩])
    (.seq (.region [⟨.mov (.loc 2), none, none⟩, ⟨.mov (.loc 5), none, none⟩, ⟨.conv (.toInt .u32) (.reg 1), none, none⟩, ⟨.mov (.loc 1), none, none⟩, ⟨.bin .mul (.reg 2) (.reg 3), none, none⟩, ⟨.bin .add (.reg 0) (.reg 4), none, none⟩, ⟨.mov (.reg 5), (some 2), none⟩])
    (.seq (.region [⟨.mov (.loc 4), none, none⟩, ⟨.mov (.loc 2), none, none⟩, ⟨.conv (.toInt .u16) (.reg 1), none, none⟩, ⟨.lit false [(.int .u16 0)] 1 [(0, (.reg 2))], none, none⟩, ⟨.append false 1 2 55 (.reg 0) (.reg 3), none, none⟩, ⟨.mov (.reg 4), (some 4), none⟩])
    (.region [⟨.mov (.loc 2), none, none⟩, ⟨.bin .shr (.reg 0) (.cst (.int .u64 16)), none, none⟩, ⟨.mov (.reg 1), (some 2), none⟩])))))
   (.region [⟨.bin .add (.loc 8) (.cst (.int .i64 1)), none, none⟩, ⟨.mov (.reg 0), (some 8), none⟩])))))))
 (.seq (.region [⟨.mov (.loc 4), none, none⟩, ⟨.mov (.loc 2), none, none⟩, ⟨.conv (.toInt .u16) (.reg 1), none, none⟩, ⟨.lit false [(.int .u16 0)] 1 [(0, (.reg 2))], none, none⟩, ⟨.append false 1 2 55 (.reg 0) (.reg 3), none, none⟩, ⟨.mov (.reg 4), (some 3), none⟩])
 .ret))))⟩
theorem c41 : compFunc Tryd.prog opts a41 Tryd.f41 = some t41 := by kernel_rfl
/-- pennant/big.tidy -/
def a42 : Ann := { slots := [0, 1, 4], lb := [4], mu := [], trunc := [], draws := [] }
def t42 : TFunc := ⟨2, 3, [.cell 2 2 true],
 (.seq (.region [⟨.allocL 2 [(.bool false), (.sl .nil [])], none, none⟩])
 (.seq (.region [⟨.mov (.loc 1), none, none⟩, ⟨.call true false 40 [(.reg 0)], none, none⟩, ⟨.mov (.reg 1), (some 1), none⟩])
 (.seq (.region [⟨.mov (.loc 0), none, none⟩, ⟨.mov (.reg 0), none, none⟩, ⟨.mov (.loc 1), none, (some (1, true))⟩, ⟨.len .sl (.reg 2), none, (some (1, true))⟩, ⟨.bin .gtr (.reg 3) (.cst (.int .i64 0)), none, (some (1, true))⟩, ⟨.pick (.reg 1) (.reg 4) (.cst (.bool false)), none, none⟩, ⟨.mov (.loc 1), none, none⟩, ⟨.build [(.bool false), (.sl .nil [])] [(0, 1, (.reg 5)), (1, 1, (.reg 6))], none, none⟩, ⟨.store 2 (.loc 2) (.reg 7), none, none⟩])
 .ret)))⟩
theorem c42 : compFunc Tryd.prog opts a42 Tryd.f42 = some t42 := by kernel_rfl
/-- pennant/big.parted -/
def a45 : Ann := { slots := [0, 1, 4, 5, 6, 7, 8, 16], lb := [], mu := [], trunc := [], draws := [] }
def t45 : TFunc := ⟨2, 8, [.loc 2, .loc 3],
 (.seq (.region [⟨.mov (.cst (.sl .nil [])), (some 2), none⟩, ⟨.mov (.cst (.int .u32 0)), (some 3), none⟩])
 (.seq (.region [⟨.mov (.loc 0), none, none⟩, ⟨.len .sl (.reg 0), none, none⟩, ⟨.mkSlice [(.int .u16 0)] 2 (.reg 1) (.reg 1), none, none⟩, ⟨.mov (.reg 2), (some 4), none⟩, ⟨.mov (.cst (.int .u32 0)), (some 5), none⟩])
 (.seq (.seq (.region [⟨.mov (.loc 0), none, none⟩, ⟨.len .sl (.reg 0), none, none⟩, ⟨.bin .sub (.reg 1) (.cst (.int .i64 1)), none, none⟩, ⟨.mov (.reg 2), (some 6), none⟩])
 (.block 0
  (.loop
   (.seq (.seq (.region [⟨.mov (.loc 6), none, none⟩, ⟨.bin .geq (.reg 0) (.cst (.int .i64 0)), (some 7), none⟩])
   (.cond (.loc 7)
    .skip
    (.exit 0)))
   (.seq (.block 1
    (.seq (.region [⟨.mov (.loc 5), none, none⟩, ⟨.bin .shl (.reg 0) (.cst (.int .u64 16)), none, none⟩, ⟨.mov (.loc 0), none, none⟩, ⟨.mov (.loc 6), none, none⟩, ⟨.indexAddrS 1 (.reg 2) (.reg 3), none, none⟩, ⟨.load1 (.reg 4), none, none⟩, ⟨.conv (.toInt .u32) (.reg 5), none, none⟩, ⟨.bin .or (.reg 1) (.reg 6), none, none⟩, ⟨.mov (.reg 7), (some 5), none⟩])
    (.seq (.region [⟨.mov (.loc 4), none, none⟩, ⟨.mov (.loc 6), none, none⟩, ⟨.mov (.loc 5), none, none⟩, ⟨.mov (.loc 1), none, none⟩, ⟨.bin .quo (.reg 2) (.reg 3), none, none⟩, ⟨.conv (.toInt .u16) (.reg 4), none, none⟩, ⟨.indexAddrS 1 (.reg 0) (.reg 1), none, none⟩, ⟨.store 1 (.reg 6) (.reg 5), none, none⟩])
    (.region [⟨.mov (.loc 5), none, none⟩, ⟨.mov (.loc 1), none, none⟩, ⟨.bin .rem (.reg 0) (.reg 1), none, none⟩, ⟨.mov (.reg 2), (some 5), none⟩]))))
   (.region [⟨.mov (.loc 6), none, none⟩, ⟨.bin .sub (.reg 0) (.cst (.int .i64 1)), none, none⟩, ⟨.mov (.reg 1), (some 6), none⟩]))))))
 (.seq (.region [⟨.mov (.loc 4), none, none⟩, ⟨.call true false 40 [(.reg 0)], none, none⟩, ⟨.mov (.loc 5), none, none⟩, ⟨.mov (.reg 1), (some 2), none⟩, ⟨.mov (.reg 2), (some 3), none⟩])
 .ret))))⟩
theorem c45 : compFunc Tryd.prog opts a45 Tryd.f45 = some t45 := by kernel_rfl
/-- strconv.Itoa -/
def a46 : Ann := { slots := [0, 2], lb := [], mu := [], trunc := [], draws := [] }
def t46 : TFunc := ⟨1, 2, [.loc 1],
 (.seq (.region [⟨.mov (.cst (.str [])), (some 1), none⟩])
 (.seq (.region [⟨.mov (.loc 0), none, none⟩, ⟨.call true false 68 [(.reg 0)], none, none⟩, ⟨.mov (.reg 1), (some 1), none⟩])
 .ret))⟩
theorem c46 : compFunc Tryd.prog opts a46 Tryd.f46 = some t46 := by kernel_rfl
/-- strings.Repeat -/
def a47 : Ann := { slots := [0, 1, 4, 5, 6, 7, 8, 9, 10, 11, 12, 14, 18, 34, 40, 42, 43, 49, 58, 67, 76, 85, 96, 104, 113], lb := [], mu := [], trunc := [], draws := [] }
def t47 : TFunc := ⟨2, 25, [.loc 2],
 (.seq (.region [⟨.mov (.cst (.str [])), (some 2), none⟩])
 (.seq (.seq (.region [⟨.mov (.loc 1), (some 9), none⟩])
 (.block 0
  (.seq (.region [⟨.bin .eql (.loc 9) (.cst (.int .i64 0)), none, none⟩, ⟨.mov (.reg 0), (some 10), none⟩])
  (.cond (.loc 10)
   (.seq (.region [⟨.mov (.cst (.str [])), (some 2), none⟩])
   .ret)
   (.seq (.region [⟨.bin .eql (.loc 9) (.cst (.int .i64 1)), none, none⟩, ⟨.mov (.reg 0), (some 11), none⟩])
   (.cond (.loc 11)
    (.seq (.region [⟨.mov (.loc 0), none, none⟩, ⟨.mov (.reg 0), (some 2), none⟩])
    .ret)
    .skip))))))
 (.seq (.seq (.region [⟨.mov (.loc 1), none, none⟩, ⟨.bin .lss (.reg 0) (.cst (.int .i64 0)), (some 12), none⟩])
 (.cond (.loc 12)
  (.region [⟨.bad, none, none⟩, ⟨.bad, none, none⟩])
  .skip))
 (.seq (.region [⟨.mov (.loc 0), none, none⟩, ⟨.len .str (.reg 0), none, none⟩, ⟨.conv (.toInt .u64) (.reg 1), none, none⟩, ⟨.mov (.loc 1), none, none⟩, ⟨.conv (.toInt .u64) (.reg 3), none, none⟩, ⟨.call true false 69 [(.reg 2), (.reg 4)], none, none⟩, ⟨.mov (.reg 5), none, none⟩, ⟨.extract 0 (.reg 6), none, none⟩, ⟨.extract 1 (.reg 6), none, none⟩, ⟨.mov (.reg 7), (some 3), none⟩, ⟨.mov (.reg 8), (some 4), none⟩])
 (.seq (.seq (.region [⟨.mov (.loc 3), none, none⟩, ⟨.bin .gtr (.reg 0) (.cst (.int .u64 0)), none, none⟩, ⟨.mov (.reg 1), none, none⟩, ⟨.mov (.loc 4), none, (some (2, false))⟩, ⟨.bin .gtr (.reg 3) (.cst (.int .u64 9223372036854775807)), none, (some (2, false))⟩, ⟨.pick (.reg 2) (.cst (.bool true)) (.reg 4), (some 13), none⟩])
 (.cond (.loc 13)
  (.region [⟨.bad, none, none⟩, ⟨.bad, none, none⟩])
  .skip))
 (.seq (.region [⟨.mov (.loc 4), none, none⟩, ⟨.conv (.toInt .i64) (.reg 0), none, none⟩, ⟨.mov (.reg 1), (some 5), none⟩])
 (.seq (.seq (.region [⟨.mov (.loc 0), none, none⟩, ⟨.len .str (.reg 0), none, none⟩, ⟨.bin .eql (.reg 1) (.cst (.int .i64 0)), (some 14), none⟩])
 (.cond (.loc 14)
  (.seq (.region [⟨.mov (.cst (.str [])), (some 2), none⟩])
  .ret)
  .skip))
 (.seq (.seq (.region [⟨.mov (.loc 0), none, none⟩, ⟨.indexS (.reg 0) (.cst (.int .i64 0)), (some 15), none⟩])
 (.block 1
  (.seq (.seq (.region [⟨.bin .eql (.loc 15) (.cst (.int .u8 32)), none, none⟩, ⟨.mov (.reg 0), (some 16), none⟩])
  (.cond (.loc 16)
   .skip
   (.seq (.region [⟨.bin .eql (.loc 15) (.cst (.int .u8 45)), none, none⟩, ⟨.mov (.reg 0), (some 16), none⟩])
   (.cond (.loc 16)
    .skip
    (.seq (.region [⟨.bin .eql (.loc 15) (.cst (.int .u8 48)), none, none⟩, ⟨.mov (.reg 0), (some 16), none⟩])
    (.cond (.loc 16)
     .skip
     (.seq (.region [⟨.bin .eql (.loc 15) (.cst (.int .u8 61)), none, none⟩, ⟨.mov (.reg 0), (some 16), none⟩])
     (.cond (.loc 16)
      .skip
      (.region [⟨.bin .eql (.loc 15) (.cst (.int .u8 9)), none, none⟩, ⟨.mov (.reg 0), (some 16), none⟩])))))))))
  (.cond (.loc 16)
   (.block 2
    (.seq (.region [⟨.mov (.loc 5), none, none⟩, ⟨.bin .leq (.reg 0) (.cst (.int .i64 128)), none, none⟩, ⟨.mov (.reg 1), none, none⟩, ⟨.mov (.loc 0), none, (some (2, true))⟩, ⟨.call true false 70 [(.cst (.str [32, 32, 32, 32, 32, 32, 32, 32, 32, 32, 32, 32, 32, 32, 32, 32, 32, 32, 32, 32, 32, 32, 32, 32, 32, 32, 32, 32, 32, 32, 32, 32, 32, 32, 32, 32, 32, 32, 32, 32, 32, 32, 32, 32, 32, 32, 32, 32, 32, 32, 32, 32, 32, 32, 32, 32, 32, 32, 32, 32, 32, 32, 32, 32, 32, 32, 32, 32, 32, 32, 32, 32, 32, 32, 32, 32, 32, 32, 32, 32, 32, 32, 32, 32, 32, 32, 32, 32, 32, 32, 32, 32, 32, 32, 32, 32, 32, 32, 32, 32, 32, 32, 32, 32, 32, 32, 32, 32, 32, 32, 32, 32, 32, 32, 32, 32, 32, 32, 32, 32, 32, 32, 32, 32, 32, 32, 32, 32])), (.reg 3)], none, (some (2, true))⟩, ⟨.pick (.reg 2) (.reg 4) (.cst (.bool false)), none, none⟩, ⟨.mov (.reg 5), (some 17), none⟩])
    (.cond (.loc 17)
     (.seq (.region [⟨.mov (.loc 5), none, none⟩, ⟨.slice .str (.cst (.str [32, 32, 32, 32, 32, 32, 32, 32, 32, 32, 32, 32, 32, 32, 32, 32, 32, 32, 32, 32, 32, 32, 32, 32, 32, 32, 32, 32, 32, 32, 32, 32, 32, 32, 32, 32, 32, 32, 32, 32, 32, 32, 32, 32, 32, 32, 32, 32, 32, 32, 32, 32, 32, 32, 32, 32, 32, 32, 32, 32, 32, 32, 32, 32, 32, 32, 32, 32, 32, 32, 32, 32, 32, 32, 32, 32, 32, 32, 32, 32, 32, 32, 32, 32, 32, 32, 32, 32, 32, 32, 32, 32, 32, 32, 32, 32, 32, 32, 32, 32, 32, 32, 32, 32, 32, 32, 32, 32, 32, 32, 32, 32, 32, 32, 32, 32, 32, 32, 32, 32, 32, 32, 32, 32, 32, 32, 32, 32])) none (some (.reg 0)) none, none, none⟩, ⟨.mov (.reg 1), (some 2), none⟩])
     .ret)
     (.seq (.region [⟨.mov (.loc 5), none, none⟩, ⟨.bin .leq (.reg 0) (.cst (.int .i64 128)), none, none⟩, ⟨.mov (.reg 1), none, none⟩, ⟨.mov (.loc 0), none, (some (2, true))⟩, ⟨.call true false 70 [(.cst (.str [45, 45, 45, 45, 45, 45, 45, 45, 45, 45, 45, 45, 45, 45, 45, 45, 45, 45, 45, 45, 45, 45, 45, 45, 45, 45, 45, 45, 45, 45, 45, 45, 45, 45, 45, 45, 45, 45, 45, 45, 45, 45, 45, 45, 45, 45, 45, 45, 45, 45, 45, 45, 45, 45, 45, 45, 45, 45, 45, 45, 45, 45, 45, 45, 45, 45, 45, 45, 45, 45, 45, 45, 45, 45, 45, 45, 45, 45, 45, 45, 45, 45, 45, 45, 45, 45, 45, 45, 45, 45, 45, 45, 45, 45, 45, 45, 45, 45, 45, 45, 45, 45, 45, 45, 45, 45, 45, 45, 45, 45, 45, 45, 45, 45, 45, 45, 45, 45, 45, 45, 45, 45, 45, 45, 45, 45, 45, 45])), (.reg 3)], none, (some (2, true))⟩, ⟨.pick (.reg 2) (.reg 4) (.cst (.bool false)), none, none⟩, ⟨.mov (.reg 5), (some 18), none⟩])
     (.cond (.loc 18)
      (.seq (.region [⟨.mov (.loc 5), none, none⟩, ⟨.slice .str (.cst (.str [45, 45, 45, 45, 45, 45, 45, 45, 45, 45, 45, 45, 45, 45, 45, 45, 45, 45, 45, 45, 45, 45, 45, 45, 45, 45, 45, 45, 45, 45, 45, 45, 45, 45, 45, 45, 45, 45, 45, 45, 45, 45, 45, 45, 45, 45, 45, 45, 45, 45, 45, 45, 45, 45, 45, 45, 45, 45, 45, 45, 45, 45, 45, 45, 45, 45, 45, 45, 45, 45, 45, 45, 45, 45, 45, 45, 45, 45, 45, 45, 45, 45, 45, 45, 45, 45, 45, 45, 45, 45, 45, 45, 45, 45, 45, 45, 45, 45, 45, 45, 45, 45, 45, 45, 45, 45, 45, 45, 45, 45, 45, 45, 45, 45, 45, 45, 45, 45, 45, 45, 45, 45, 45, 45, 45, 45, 45, 45])) none (some (.reg 0)) none, none, none⟩, ⟨.mov (.reg 1), (some 2), none⟩])
      .ret)
      (.seq (.region [⟨.mov (.loc 5), none, none⟩, ⟨.bin .leq (.reg 0) (.cst (.int .i64 64)), none, none⟩, ⟨.mov (.reg 1), none, none⟩, ⟨.mov (.loc 0), none, (some (2, true))⟩, ⟨.call true false 70 [(.cst (.str [48, 48, 48, 48, 48, 48, 48, 48, 48, 48, 48, 48, 48, 48, 48, 48, 48, 48, 48, 48, 48, 48, 48, 48, 48, 48, 48, 48, 48, 48, 48, 48, 48, 48, 48, 48, 48, 48, 48, 48, 48, 48, 48, 48, 48, 48, 48, 48, 48, 48, 48, 48, 48, 48, 48, 48, 48, 48, 48, 48, 48, 48, 48, 48])), (.reg 3)], none, (some (2, true))⟩, ⟨.pick (.reg 2) (.reg 4) (.cst (.bool false)), none, none⟩, ⟨.mov (.reg 5), (some 19), none⟩])
      (.cond (.loc 19)
       (.seq (.region [⟨.mov (.loc 5), none, none⟩, ⟨.slice .str (.cst (.str [48, 48, 48, 48, 48, 48, 48, 48, 48, 48, 48, 48, 48, 48, 48, 48, 48, 48, 48, 48, 48, 48, 48, 48, 48, 48, 48, 48, 48, 48, 48, 48, 48, 48, 48, 48, 48, 48, 48, 48, 48, 48, 48, 48, 48, 48, 48, 48, 48, 48, 48, 48, 48, 48, 48, 48, 48, 48, 48, 48, 48, 48, 48, 48])) none (some (.reg 0)) none, none, none⟩, ⟨.mov (.reg 1), (some 2), none⟩])
       .ret)
       (.seq (.region [⟨.mov (.loc 5), none, none⟩, ⟨.bin .leq (.reg 0) (.cst (.int .i64 128)), none, none⟩, ⟨.mov (.reg 1), none, none⟩, ⟨.mov (.loc 0), none, (some (2, true))⟩, ⟨.call true false 70 [(.cst (.str [61, 61, 61, 61, 61, 61, 61, 61, 61, 61, 61, 61, 61, 61, 61, 61, 61, 61, 61, 61, 61, 61, 61, 61, 61, 61, 61, 61, 61, 61, 61, 61, 61, 61, 61, 61, 61, 61, 61, 61, 61, 61, 61, 61, 61, 61, 61, 61, 61, 61, 61, 61, 61, 61, 61, 61, 61, 61, 61, 61, 61, 61, 61, 61, 61, 61, 61, 61, 61, 61, 61, 61, 61, 61, 61, 61, 61, 61, 61, 61, 61, 61, 61, 61, 61, 61, 61, 61, 61, 61, 61, 61, 61, 61, 61, 61, 61, 61, 61, 61, 61, 61, 61, 61, 61, 61, 61, 61, 61, 61, 61, 61, 61, 61, 61, 61, 61, 61, 61, 61, 61, 61, 61, 61, 61, 61, 61, 61])), (.reg 3)], none, (some (2, true))⟩, ⟨.pick (.reg 2) (.reg 4) (.cst (.bool false)), none, none⟩, ⟨.mov (.reg 5), (some 20), none⟩])
       (.cond (.loc 20)
        (.seq (.region [⟨.mov (.loc 5), none, none⟩, ⟨.slice .str (.cst (.str [61, 61, 61, 61, 61, 61, 61, 61, 61, 61, 61, 61, 61, 61, 61, 61, 61, 61, 61, 61, 61, 61, 61, 61, 61, 61, 61, 61, 61, 61, 61, 61, 61, 61, 61, 61, 61, 61, 61, 61, 61, 61, 61, 61, 61, 61, 61, 61, 61, 61, 61, 61, 61, 61, 61, 61, 61, 61, 61, 61, 61, 61, 61, 61, 61, 61, 61, 61, 61, 61, 61, 61, 61, 61, 61, 61, 61, 61, 61, 61, 61, 61, 61, 61, 61, 61, 61, 61, 61, 61, 61, 61, 61, 61, 61, 61, 61, 61, 61, 61, 61, 61, 61, 61, 61, 61, 61, 61, 61, 61, 61, 61, 61, 61, 61, 61, 61, 61, 61, 61, 61, 61, 61, 61, 61, 61, 61, 61])) none (some (.reg 0)) none, none, none⟩, ⟨.mov (.reg 1), (some 2), none⟩])
        .ret)
        (.seq (.region [⟨.mov (.loc 5), none, none⟩, ⟨.bin .leq (.reg 0) (.cst (.int .i64 64)), none, none⟩, ⟨.mov (.reg 1), none, none⟩, ⟨.mov (.loc 0), none, (some (2, true))⟩, ⟨.call true false 70 [(.cst (.str [9, 9, 9, 9, 9, 9, 9, 9, 9, 9, 9, 9, 9, 9, 9, 9, 9, 9, 9, 9, 9, 9, 9, 9, 9, 9, 9, 9, 9, 9, 9, 9, 9, 9, 9, 9, 9, 9, 9, 9, 9, 9, 9, 9, 9, 9, 9, 9, 9, 9, 9, 9, 9, 9, 9, 9, 9, 9, 9, 9, 9, 9, 9, 9])), (.reg 3)], none, (some (2, true))⟩, ⟨.pick (.reg 2) (.reg 4) (.cst (.bool false)), none, none⟩, ⟨.mov (.reg 5), (some 21), none⟩])
        (.cond (.loc 21)
         (.seq (.region [⟨.mov (.loc 5), none, none⟩, ⟨.slice .str (.cst (.str [9, 9, 9, 9, 9, 9, 9, 9, 9, 9, 9, 9, 9, 9, 9, 9, 9, 9, 9, 9, 9, 9, 9, 9, 9, 9, 9, 9, 9, 9, 9, 9, 9, 9, 9, 9, 9, 9, 9, 9, 9, 9, 9, 9, 9, 9, 9, 9, 9, 9, 9, 9, 9, 9, 9, 9, 9, 9, 9, 9, 9, 9, 9, 9])) none (some (.reg 0)) none, none, none⟩, ⟨.mov (.reg 1), (some 2), none⟩])
         .ret)
         .skip)))))))))))
   .skip))))
 (.seq (.region [⟨.mov (.loc 5), none, none⟩, ⟨.mov (.reg 0), (some 6), none⟩])
 (.seq (.seq (.region [⟨.mov (.loc 5), none, none⟩, ⟨.bin .gtr (.reg 0) (.cst (.int .i64 8192)), (some 22), none⟩])
 (.cond (.loc 22)
  (.seq (.region [⟨.mov (.loc 0), none, none⟩, ⟨.len .str (.reg 0), none, none⟩, ⟨.bin .quo (.cst (.int .i64 8192)) (.reg 1), none, none⟩, ⟨.mov (.loc 0), none, none⟩, ⟨.len .str (.reg 3), none, none⟩, ⟨.bin .mul (.reg 2) (.reg 4), none, none⟩, ⟨.mov (.reg 5), (some 6), none⟩])
  (.seq (.region [⟨.mov (.loc 6), none, none⟩, ⟨.bin .eql (.reg 0) (.cst (.int .i64 0)), (some 23), none⟩])
  (.cond (.loc 23)
   (.region [⟨.mov (.loc 0), none, none⟩, ⟨.len .str (.reg 0), none, none⟩, ⟨.mov (.reg 1), (some 6), none⟩])
   .skip)))
  .skip))
 (.seq (.region [⟨.allocH 108 [.nilp, (.sl .nil [])], (some 7), none⟩])
 (.seq (.region [⟨.mov (.loc 5), none, none⟩, ⟨.call false false 71 [(.loc 7), (.reg 0)], none, none⟩])
 (.seq (.region [⟨.mov (.loc 0), none, none⟩, ⟨.call false false 72 [(.loc 7), (.reg 0)], none, none⟩])
 (.seq (.block 3
  (.loop
   (.seq (.seq (.region [⟨.call false false 73 [(.loc 7)], none, none⟩, ⟨.mov (.loc 5), none, none⟩, ⟨.bin .lss (.reg 0) (.reg 1), (some 24), none⟩])
   (.cond (.loc 24)
    .skip
    (.exit 3)))
   (.block 4
    (.seq (.region [⟨.mov (.loc 5), none, none⟩, ⟨.call false false 73 [(.loc 7)], none, none⟩, ⟨.bin .sub (.reg 0) (.reg 1), none, none⟩, ⟨.call false false 73 [(.loc 7)], none, none⟩, ⟨.mov (.loc 6), none, none⟩, ⟨.minmax false [(.reg 2), (.reg 3), (.reg 4)], none, none⟩, ⟨.mov (.reg 5), (some 8), none⟩])
    (.region [⟨.prim 74 [(.loc 7)], none, none⟩, ⟨.mov (.loc 8), none, none⟩, ⟨.slice .str (.reg 0) none (some (.reg 1)) none, none, none⟩, ⟨.call false false 72 [(.loc 7), (.reg 2)], none, none⟩]))))))
 (.seq (.region [⟨.prim 74 [(.loc 7)], none, none⟩, ⟨.mov (.reg 0), (some 2), none⟩])
 .ret)))))))))))))))⟩
theorem c47 : compFunc Tryd.prog opts a47 Tryd.f47 = some t47 := by kernel_rfl
/-- slices.Reverse[[]string,string] -/
def a48 : Ann := { slots := [0, 2, 3, 9], lb := [], mu := [], trunc := [], draws := [(3, ⟨[0, 0, 0, 0, 0, 0, 48, 112, 0, 0, 768, 1792, 4083, 8179, 16383, 32767], [0, 1, 2, 3, 4, 5, 6, 7, 8, 9, 10, 11, 12], [(13, [], [14]), (15, [], [])]⟩)] }
def t48 : TFunc := ⟨1, 4, [],
 (.seq (.region [⟨.mov (.loc 0), none, none⟩, ⟨.len .sl (.reg 0), none, none⟩, ⟨.bin .sub (.reg 1) (.cst (.int .i64 1)), none, none⟩, ⟨.mov (.cst (.int .i64 0)), (some 1), none⟩, ⟨.mov (.reg 2), (some 2), none⟩])
 (.block 0
  (.loop
   (.seq (.seq (.region [⟨.mov (.loc 1), none, none⟩, ⟨.mov (.loc 2), none, none⟩, ⟨.bin .lss (.reg 0) (.reg 1), (some 3), none⟩])
   (.cond (.loc 3)
    .skip
    (.exit 0)))
   (.seq (.block 1
    (.draw [0, 1, 2, 3, 4, 5, 6, 7, 8, 9, 10, 11, 12] [(13, [], [14]), (15, [], [])] [⟨.mov (.loc 0), none, none⟩, ⟨.mov (.loc 1), none, none⟩, ⟨.mov (.loc 0), none, none⟩, ⟨.mov (.loc 2), none, none⟩, ⟨.mov (.loc 0), none, none⟩, ⟨.mov (.loc 2), none, none⟩, ⟨.indexAddrS 1 (.reg 4) (.reg 5), none, none⟩, ⟨.load1 (.reg 6), none, none⟩, ⟨.mov (.loc 0), none, none⟩, ⟨.mov (.loc 1), none, none⟩, ⟨.indexAddrS 1 (.reg 8) (.reg 9), none, none⟩, ⟨.load1 (.reg 10), none, none⟩, ⟨.indexAddrS 1 (.reg 0) (.reg 1), none, none⟩, ⟨.store 1 (.reg 12) (.reg 7), none, none⟩, ⟨.indexAddrS 1 (.reg 2) (.reg 3), none, none⟩, ⟨.store 1 (.reg 14) (.reg 11), none, none⟩]))
   (.region [⟨.mov (.loc 1), none, none⟩, ⟨.bin .add (.reg 0) (.cst (.int .i64 1)), none, none⟩, ⟨.mov (.loc 2), none, none⟩, ⟨.bin .sub (.reg 2) (.cst (.int .i64 1)), none, none⟩, ⟨.mov (.reg 1), (some 1), none⟩, ⟨.mov (.reg 3), (some 2), none⟩]))))))⟩
theorem c48 : compFunc Tryd.prog opts a48 Tryd.f48 = some t48 := by kernel_rfl
/-- strings.Join -/
def a49 : Ann := { slots := [0, 1, 4, 5, 7, 8, 10, 12, 13, 15, 22, 29, 39, 40, 41, 42, 49, 63, 64, 65, 66], lb := [], mu := [], trunc := [], draws := [] }
def t49 : TFunc := ⟨2, 21, [.loc 2],
 (.seq (.region [⟨.mov (.cst (.str [])), (some 2), none⟩])
 (.seq (.seq (.region [⟨.mov (.loc 0), none, none⟩, ⟨.len .sl (.reg 0), (some 7), none⟩])
 (.block 0
  (.seq (.region [⟨.bin .eql (.loc 7) (.cst (.int .i64 0)), none, none⟩, ⟨.mov (.reg 0), (some 8), none⟩])
  (.cond (.loc 8)
   (.seq (.region [⟨.mov (.cst (.str [])), (some 2), none⟩])
   .ret)
   (.seq (.region [⟨.bin .eql (.loc 7) (.cst (.int .i64 1)), none, none⟩, ⟨.mov (.reg 0), (some 9), none⟩])
   (.cond (.loc 9)
    (.seq (.region [⟨.mov (.loc 0), none, none⟩, ⟨.indexAddrS 1 (.reg 0) (.cst (.int .i64 0)), none, none⟩, ⟨.load1 (.reg 1), none, none⟩, ⟨.mov (.reg 2), (some 2), none⟩])
    .ret)
    .skip))))))
 (.seq (.region [⟨.mov (.cst (.int .i64 0)), (some 3), none⟩])
 (.seq (.seq (.region [⟨.mov (.loc 1), none, none⟩, ⟨.len .str (.reg 0), none, none⟩, ⟨.bin .gtr (.reg 1) (.cst (.int .i64 0)), (some 10), none⟩])
 (.cond (.loc 10)
  (.seq (.seq (.region [⟨.mov (.loc 1), none, none⟩, ⟨.len .str (.reg 0), none, none⟩, ⟨.mov (.loc 0), none, none⟩, ⟨.len .sl (.reg 2), none, none⟩, ⟨.bin .sub (.reg 3) (.cst (.int .i64 1)), none, none⟩, ⟨.bin .quo (.cst (.int .i64 9223372036854775807)) (.reg 4), none, none⟩, ⟨.bin .geq (.reg 1) (.reg 5), (some 11), none⟩])
  (.cond (.loc 11)
   (.region [⟨.bad, none, none⟩, ⟨.bad, none, none⟩])
   .skip))
  (.region [⟨.mov (.loc 3), none, none⟩, ⟨.mov (.loc 1), none, none⟩, ⟨.len .str (.reg 1), none, none⟩, ⟨.mov (.loc 0), none, none⟩, ⟨.len .sl (.reg 3), none, none⟩, ⟨.bin .sub (.reg 4) (.cst (.int .i64 1)), none, none⟩, ⟨.bin .mul (.reg 2) (.reg 5), none, none⟩, ⟨.bin .add (.reg 0) (.reg 6), none, none⟩, ⟨.mov (.reg 7), (some 3), none⟩]))
  .skip))
 (.seq (.seq (.region [⟨.mov (.loc 0), (some 12), none⟩, ⟨.len .sl (.reg 0), (some 13), none⟩, ⟨.mov (.cst (.int .i64 0)), (some 14), none⟩])
 (.block 1
  (.loop
   (.seq (.region [⟨.bin .lss (.loc 14) (.loc 13), (some 15), none⟩])
   (.seq (.cond (.loc 15)
    .skip
    (.exit 1))
   (.seq (.block 2
    (.seq (.region [⟨.indexAddrS 1 (.loc 12) (.loc 14), none, none⟩, ⟨.load1 (.reg 0), none, none⟩, ⟨.mov (.reg 1), (some 4), none⟩])
    (.seq (.seq (.region [⟨.mov (.loc 4), none, none⟩, ⟨.len .str (.reg 0), none, none⟩, ⟨.mov (.loc 3), none, none⟩, ⟨.bin .sub (.cst (.int .i64 9223372036854775807)) (.reg 2), none, none⟩, ⟨.bin .gtr (.reg 1) (.reg 3), (some 16), none⟩])
    (.cond (.loc 16)
     (.region [⟨.bad, none, none⟩, ⟨.bad, none, none⟩])
     .skip))
    (.region [⟨.mov (.loc 3), none, none⟩, ⟨.mov (.loc 4), none, none⟩, ⟨.len .str (.reg 1), none, none⟩, ⟨.bin .add (.reg 0) (.reg 2), none, none⟩, ⟨.mov (.reg 3), (some 3), none⟩]))))
   (.region [⟨.bin .add (.loc 14) (.cst (.int .i64 1)), none, none⟩, ⟨.mov (.reg 0), (some 14), none⟩])))))))
 (.seq (.region [⟨.allocH 108 [.nilp, (.sl .nil [])], (some 5), none⟩])
 (.seq (.region [⟨.mov (.loc 3), none, none⟩, ⟨.call false false 71 [(.loc 5), (.reg 0)], none, none⟩])
 (.seq (.region [⟨.mov (.loc 0), none, none⟩, ⟨.indexAddrS 1 (.reg 0) (.cst (.int .i64 0)), none, none⟩, ⟨.load1 (.reg 1), none, none⟩, ⟨.call false false 72 [(.loc 5), (.reg 2)], none, none⟩])
 (.seq (.seq (.region [⟨.mov (.loc 0), none, none⟩, ⟨.slice (.sl 1) (.reg 0) (some (.cst (.int .i64 1))) none none, (some 17), none⟩, ⟨.len .sl (.reg 1), (some 18), none⟩, ⟨.mov (.cst (.int .i64 0)), (some 19), none⟩])
 (.block 3
  (.loop
   (.seq (.region [⟨.bin .lss (.loc 19) (.loc 18), (some 20), none⟩])
   (.seq (.cond (.loc 20)
    .skip
    (.exit 3))
   (.seq (.block 4
    (.seq (.region [⟨.indexAddrS 1 (.loc 17) (.loc 19), none, none⟩, ⟨.load1 (.reg 0), none, none⟩, ⟨.mov (.reg 1), (some 6), none⟩])
    (.seq (.region [⟨.mov (.loc 1), none, none⟩, ⟨.call false false 72 [(.loc 5), (.reg 0)], none, none⟩])
    (.region [⟨.mov (.loc 6), none, none⟩, ⟨.call false false 72 [(.loc 5), (.reg 0)], none, none⟩]))))
   (.region [⟨.bin .add (.loc 19) (.cst (.int .i64 1)), none, none⟩, ⟨.mov (.reg 0), (some 19), none⟩])))))))
 (.seq (.region [⟨.prim 74 [(.loc 5)], none, none⟩, ⟨.mov (.reg 0), (some 2), none⟩])
 .ret))))))))))⟩
theorem c49 : compFunc Tryd.prog opts a49 Tryd.f49 = some t49 := by kernel_rfl
/-- slices.Clone[[]uint16,uint16] -/
def a50 : Ann := { slots := [0, 2, 4], lb := [], mu := [(3, 2)], trunc := [], draws := [] }
def t50 : TFunc := ⟨1, 3, [.loc 1],
 (.seq (.region [⟨.mov (.cst (.sl .nil [])), (some 1), none⟩])
 (.seq (.seq (.region [⟨.mov (.loc 0), none, none⟩, ⟨.eqB false .sl (.reg 0) (.cst (.sl .nil [])), (some 2), none⟩])
 (.cond (.loc 2)
  (.seq (.region [⟨.mov (.cst (.sl .nil [])), (some 1), none⟩])
  .ret)
  .skip))
 (.seq (.region [⟨.lit false [(.int .u16 0)] 0 [], none, none⟩, ⟨.mov (.loc 0), none, none⟩, ⟨.append true 1 2 55 (.reg 0) (.reg 1), none, none⟩, ⟨.mov (.reg 2), (some 1), none⟩])
 .ret)))⟩
theorem c50 : compFunc Tryd.prog opts a50 Tryd.f50 = some t50 := by kernel_rfl
/-- slices.Backward[[]uint16,uint16] -/
def a52 : Ann := { slots := [0, 1, 2], lb := [], mu := [], trunc := [], draws := [] }
def t52 : TFunc := ⟨1, 3, [.loc 2],
 (.seq (.region [⟨.boxH (.loc 0), (some 1), none⟩, ⟨.mov (.cst .nilf), (some 2), none⟩])
 (.seq (.region [⟨.mkFn 75 [] [(.loc 1)], none, none⟩, ⟨.mov (.reg 0), (some 2), none⟩])
 .ret))⟩
theorem c52 : compFunc Tryd.prog opts a52 Tryd.f52 = some t52 := by kernel_rfl
/-- pennant/big.sum -/
def a53 : Ann := { slots := [0, 1, 4, 5, 6, 12, 13, 14], lb := [], mu := [], trunc := [], draws := [] }
def t53 : TFunc := ⟨2, 8, [.loc 2],
 (.seq (.region [⟨.mov (.cst (.sl .nil [])), (some 2), none⟩])
 (.seq (.region [⟨.mov (.cst (.int .u32 0)), (some 3), none⟩])
 (.seq (.seq (.region [⟨.mov (.loc 0), none, none⟩, ⟨.len .sl (.reg 0), none, none⟩, ⟨.mov (.loc 1), none, none⟩, ⟨.len .sl (.reg 2), none, none⟩, ⟨.minmax true [(.reg 1), (.reg 3)], none, none⟩, ⟨.bin .add (.reg 4) (.cst (.int .i64 1)), (some 5), none⟩, ⟨.mov (.cst (.int .i64 0)), (some 6), none⟩])
 (.block 0
  (.loop
   (.seq (.region [⟨.bin .lss (.loc 6) (.loc 5), (some 7), none⟩])
   (.seq (.cond (.loc 7)
    .skip
    (.exit 0))
   (.seq (.block 1
    (.seq (.region [⟨.mov (.loc 6), none, none⟩, ⟨.mov (.reg 0), (some 4), none⟩])
    (.seq (.region [⟨.mov (.loc 3), none, none⟩, ⟨.mov (.loc 0), none, none⟩, ⟨.mov (.loc 4), none, none⟩, ⟨.call true false 76 [(.reg 1), (.reg 2)], none, none⟩, ⟨.mov (.loc 1), none, none⟩, ⟨.mov (.loc 4), none, none⟩, ⟨.call true false 76 [(.reg 4), (.reg 5)], none, none⟩, ⟨.bin .add (.reg 3) (.reg 6), none, none⟩, ⟨.bin .add (.reg 0) (.reg 7), none, none⟩, ⟨.mov (.reg 8), (some 3), none⟩])
    (.seq (.region [⟨.mov (.loc 2), none, none⟩, ⟨.mov (.loc 3), none, none⟩, ⟨.conv (.toInt .u16) (.reg 1), none, none⟩, ⟨.lit false [(.int .u16 0)] 1 [(0, (.reg 2))], none, none⟩, ⟨.append false 1 2 55 (.reg 0) (.reg 3), none, none⟩, ⟨.mov (.reg 4), (some 2), none⟩])
    (.region [⟨.mov (.loc 3), none, none⟩, ⟨.bin .shr (.reg 0) (.cst (.int .u64 16)), none, none⟩, ⟨.mov (.reg 1), (some 3), none⟩])))))
   (.region [⟨.bin .add (.loc 6) (.cst (.int .i64 1)), none, none⟩, ⟨.mov (.reg 0), (some 6), none⟩])))))))
 (.seq (.region [⟨.mov (.loc 2), none, none⟩, ⟨.mov (.reg 0), (some 2), none⟩])
 .ret))))⟩
theorem c53 : compFunc Tryd.prog opts a53 Tryd.f53 = some t53 := by kernel_rfl
/-- pennant/big.order -/
def a54 : Ann := { slots := [0, 1, 4, 5, 6, 17, 23, 34], lb := [], mu := [], trunc := [], draws := [(8, ⟨[0, 0, 3, 7, 0, 0, 48, 112, 255], [0, 1, 2, 3, 4, 5, 6, 7, 8], []⟩), (9, ⟨[0, 0, 3, 7, 0, 0, 48, 112, 255, 511], [0, 1, 2, 3, 4, 5, 6, 7], [(8, [], [9])]⟩)] }
def t54 : TFunc := ⟨2, 8, [.loc 2],
 (.seq (.region [⟨.mov (.cst (.int .i64 0)), (some 2), none⟩])
 (.seq (.region [⟨.mov (.loc 0), none, none⟩, ⟨.call true false 40 [(.reg 0)], none, none⟩, ⟨.mov (.loc 1), none, none⟩, ⟨.call true false 40 [(.reg 2)], none, none⟩, ⟨.mov (.reg 1), (some 0), none⟩, ⟨.mov (.reg 3), (some 1), none⟩])
 (.seq (.seq (.region [⟨.mov (.loc 0), none, none⟩, ⟨.len .sl (.reg 0), none, none⟩, ⟨.mov (.loc 1), none, none⟩, ⟨.len .sl (.reg 2), none, none⟩, ⟨.call true false 77 [(.reg 1), (.reg 3)], none, none⟩, ⟨.mov (.reg 4), (some 3), none⟩])
 (.seq (.region [⟨.mov (.loc 3), none, none⟩, ⟨.bin .neq (.reg 0) (.cst (.int .i64 0)), (some 5), none⟩])
 (.cond (.loc 5)
  (.seq (.region [⟨.mov (.loc 3), none, none⟩, ⟨.mov (.reg 0), (some 2), none⟩])
  .ret)
  .skip)))
 (.seq (.seq (.region [⟨.mov (.loc 0), none, none⟩, ⟨.len .sl (.reg 0), none, none⟩, ⟨.bin .sub (.reg 1) (.cst (.int .i64 1)), none, none⟩, ⟨.mov (.reg 2), (some 4), none⟩])
 (.block 0
  (.loop
   (.seq (.seq (.region [⟨.mov (.loc 4), none, none⟩, ⟨.bin .geq (.reg 0) (.cst (.int .i64 0)), (some 6), none⟩])
   (.cond (.loc 6)
    .skip
    (.exit 0)))
   (.seq (.block 1
    (.seq (.draw [0, 1, 2, 3, 4, 5, 6, 7, 8] [] [⟨.mov (.loc 0), none, none⟩, ⟨.mov (.loc 4), none, none⟩, ⟨.indexAddrS 1 (.reg 0) (.reg 1), none, none⟩, ⟨.load1 (.reg 2), none, none⟩, ⟨.mov (.loc 1), none, none⟩, ⟨.mov (.loc 4), none, none⟩, ⟨.indexAddrS 1 (.reg 4) (.reg 5), none, none⟩, ⟨.load1 (.reg 6), none, none⟩, ⟨.bin .neq (.reg 3) (.reg 7), (some 7), none⟩])
    (.cond (.loc 7)
     (.seq (.draw [0, 1, 2, 3, 4, 5, 6, 7] [(8, [], [9])] [⟨.mov (.loc 0), none, none⟩, ⟨.mov (.loc 4), none, none⟩, ⟨.indexAddrS 1 (.reg 0) (.reg 1), none, none⟩, ⟨.load1 (.reg 2), none, none⟩, ⟨.mov (.loc 1), none, none⟩, ⟨.mov (.loc 4), none, none⟩, ⟨.indexAddrS 1 (.reg 4) (.reg 5), none, none⟩, ⟨.load1 (.reg 6), none, none⟩, ⟨.call true false 78 [(.reg 3), (.reg 7)], none, none⟩, ⟨.mov (.reg 8), (some 2), none⟩])
     .ret)
     .skip)))
   (.region [⟨.mov (.loc 4), none, none⟩, ⟨.bin .sub (.reg 0) (.cst (.int .i64 1)), none, none⟩, ⟨.mov (.reg 1), (some 4), none⟩]))))))
 (.seq (.region [⟨.mov (.cst (.int .i64 0)), (some 2), none⟩])
 .ret)))))⟩
theorem c54 : compFunc Tryd.prog opts a54 Tryd.f54 = some t54 := by kernel_rfl
/-- pennant/big.less -/
def a55 : Ann := { slots := [0, 1, 4, 5, 6, 7, 9, 10, 11], lb := [], mu := [], trunc := [], draws := [] }
def t55 : TFunc := ⟨2, 9, [.loc 2],
 (.seq (.region [⟨.mov (.cst (.sl .nil [])), (some 2), none⟩])
 (.seq (.region [⟨.mov (.cst (.int .u32 0)), (some 3), none⟩])
 (.seq (.seq (.region [⟨.mov (.loc 0), none, none⟩, ⟨.len .sl (.reg 0), (some 6), none⟩, ⟨.mov (.cst (.int .i64 0)), (some 7), none⟩])
 (.block 0
  (.loop
   (.seq (.region [⟨.bin .lss (.loc 7) (.loc 6), (some 8), none⟩])
   (.seq (.cond (.loc 8)
    .skip
    (.exit 0))
   (.seq (.block 1
    (.seq (.region [⟨.mov (.loc 7), none, none⟩, ⟨.mov (.reg 0), (some 4), none⟩])
    (.seq (.region [⟨.mov (.loc 0), none, none⟩, ⟨.mov (.loc 4), none, none⟩, ⟨.call true false 76 [(.reg 0), (.reg 1)], none, none⟩, ⟨.bin .add (.cst (.int .u32 65536)) (.reg 2), none, none⟩, ⟨.mov (.loc 1), none, none⟩, ⟨.mov (.loc 4), none, none⟩, ⟨.call true false 76 [(.reg 4), (.reg 5)], none, none⟩, ⟨.bin .sub (.reg 3) (.reg 6), none, none⟩, ⟨.mov (.loc 3), none, none⟩, ⟨.bin .sub (.reg 7) (.reg 8), none, none⟩, ⟨.mov (.reg 9), (some 5), none⟩])
    (.seq (.region [⟨.mov (.loc 2), none, none⟩, ⟨.mov (.loc 5), none, none⟩, ⟨.conv (.toInt .u16) (.reg 1), none, none⟩, ⟨.lit false [(.int .u16 0)] 1 [(0, (.reg 2))], none, none⟩, ⟨.append false 1 2 55 (.reg 0) (.reg 3), none, none⟩, ⟨.mov (.reg 4), (some 2), none⟩])
    (.region [⟨.mov (.loc 5), none, none⟩, ⟨.bin .shr (.reg 0) (.cst (.int .u64 16)), none, none⟩, ⟨.bin .sub (.cst (.int .u32 1)) (.reg 1), none, none⟩, ⟨.mov (.reg 2), (some 3), none⟩])))))
   (.region [⟨.bin .add (.loc 7) (.cst (.int .i64 1)), none, none⟩, ⟨.mov (.reg 0), (some 7), none⟩])))))))
 (.seq (.region [⟨.mov (.loc 2), none, none⟩, ⟨.mov (.reg 0), (some 2), none⟩])
 .ret))))⟩
theorem c55 : compFunc Tryd.prog opts a55 Tryd.f55 = some t55 := by kernel_rfl
/-- pennant/big.divided -/
def a61 : Ann := { slots := [0, 1, 4, 5, 6, 7, 8, 9, 10, 11, 12, 13, 22, 46, 87], lb := [], mu := [], trunc := [], draws := [(4, ⟨[0, 0, 2, 7, 0, 0, 32, 127, 255, 511, 1023], [0, 1, 2, 4, 5, 6], [(3, [], []), (7, [], []), (8, [], [9, 10])]⟩), (10, ⟨[0, 0, 0, 6, 15, 31, 63, 127, 0, 0, 0, 1536, 3584, 7936, 16128, 32512, 65535, 131071], [0, 1, 2, 3, 4, 5, 6, 7, 8, 9, 10, 11, 12, 13, 14, 15, 16, 17], []⟩), (12, ⟨[0, 0, 3, 7, 0, 0, 0, 0, 192, 448, 1008, 2047, 4095], [0, 1, 4, 5, 6, 7, 8, 9, 10], [(2, [10], []), (3, [10], []), (11, [], [12])]⟩), (14, ⟨[0, 0, 0, 0, 12, 28, 63, 0, 0, 384, 896, 2047, 4095], [0, 1, 2, 3, 4, 5, 6, 7, 8], [(9, [6], []), (10, [6], []), (11, [], [12])]⟩)] }
def t61 : TFunc := ⟨2, 15, [.loc 2, .loc 3],
 (.seq (.region [⟨.mov (.cst (.sl .nil [])), (some 2), none⟩, ⟨.mov (.cst (.sl .nil [])), (some 3), none⟩])
 (.seq (.region [⟨.mov (.cst (.int .i64 0)), (some 4), none⟩])
 (.seq (.block 0
  (.loop
   (.seq (.seq (.region [⟨.mov (.loc 1), none, none⟩, ⟨.mov (.loc 1), none, none⟩, ⟨.len .sl (.reg 1), none, none⟩, ⟨.bin .sub (.reg 2) (.cst (.int .i64 1)), none, none⟩, ⟨.indexAddrS 1 (.reg 0) (.reg 3), none, none⟩, ⟨.load1 (.reg 4), none, none⟩, ⟨.mov (.loc 4), none, none⟩, ⟨.bin .shl (.reg 5) (.reg 6), none, none⟩, ⟨.bin .lss (.reg 7) (.cst (.int .u16 32768)), (some 12), none⟩])
   (.cond (.loc 12)
    .skip
    (.exit 0)))
   (.block 1
    (.region [⟨.mov (.loc 4), none, none⟩, ⟨.bin .add (.reg 0) (.cst (.int .i64 1)), none, none⟩, ⟨.mov (.reg 1), (some 4), none⟩])))))
 (.seq (.draw [0, 1, 2, 4, 5, 6] [(3, [], []), (7, [], []), (8, [], [9, 10])] [⟨.mov (.loc 0), none, none⟩, ⟨.mov (.loc 4), none, none⟩, ⟨.bin .shl (.cst (.int .u32 1)) (.reg 1), none, none⟩, ⟨.call true false 41 [(.reg 0), (.reg 2), (.cst (.int .u32 0))], none, none⟩, ⟨.mov (.loc 1), none, none⟩, ⟨.mov (.loc 4), none, none⟩, ⟨.bin .shl (.cst (.int .u32 1)) (.reg 5), none, none⟩, ⟨.call true false 41 [(.reg 4), (.reg 6), (.cst (.int .u32 0))], none, none⟩, ⟨.call true false 40 [(.reg 7)], none, none⟩, ⟨.mov (.reg 3), (some 5), none⟩, ⟨.mov (.reg 8), (some 6), none⟩])
 (.seq (.region [⟨.mov (.loc 6), none, none⟩, ⟨.len .sl (.reg 0), none, none⟩, ⟨.mov (.reg 1), (some 7), none⟩])
 (.seq (.region [⟨.mov (.loc 5), none, none⟩, ⟨.len .sl (.reg 0), none, none⟩, ⟨.mov (.loc 7), none, none⟩, ⟨.bin .sub (.reg 1) (.reg 2), none, none⟩, ⟨.minmax true [(.cst (.int .i64 0)), (.reg 3)], none, none⟩, ⟨.mkSlice [(.int .u16 0)] 2 (.reg 4) (.reg 4), none, none⟩, ⟨.mov (.reg 5), (some 2), none⟩])
 (.seq (.seq (.region [⟨.mov (.loc 2), none, none⟩, ⟨.len .sl (.reg 0), none, none⟩, ⟨.bin .sub (.reg 1) (.cst (.int .i64 1)), none, none⟩, ⟨.mov (.reg 2), (some 8), none⟩])
 (.block 2
  (.loop
   (.seq (.seq (.region [⟨.mov (.loc 8), none, none⟩, ⟨.bin .geq (.reg 0) (.cst (.int .i64 0)), (some 13), none⟩])
   (.cond (.loc 13)
    .skip
    (.exit 2)))
   (.seq (.block 3
    (.seq (.draw [0, 1, 2, 3, 4, 5, 6, 7, 8, 9, 10, 11, 12, 13, 14, 15, 16, 17] [] [⟨.mov (.loc 5), none, none⟩, ⟨.mov (.loc 8), none, none⟩, ⟨.mov (.loc 7), none, none⟩, ⟨.bin .add (.reg 1) (.reg 2), none, none⟩, ⟨.indexAddrS 1 (.reg 0) (.reg 3), none, none⟩, ⟨.load1 (.reg 4), none, none⟩, ⟨.conv (.toInt .u32) (.reg 5), none, none⟩, ⟨.bin .shl (.reg 6) (.cst (.int .u64 16)), none, none⟩, ⟨.mov (.loc 5), none, none⟩, ⟨.mov (.loc 8), none, none⟩, ⟨.mov (.loc 7), none, none⟩, ⟨.bin .add (.reg 9) (.reg 10), none, none⟩, ⟨.bin .sub (.reg 11) (.cst (.int .i64 1)), none, none⟩, ⟨.indexAddrS 1 (.reg 8) (.reg 12), none, none⟩, ⟨.load1 (.reg 13), none, none⟩, ⟨.conv (.toInt .u32) (.reg 14), none, none⟩, ⟨.bin .or (.reg 7) (.reg 15), none, none⟩, ⟨.mov (.reg 16), (some 9), none⟩])
    (.seq (.region [⟨.mov (.loc 9), none, none⟩, ⟨.mov (.loc 6), none, none⟩, ⟨.mov (.loc 7), none, none⟩, ⟨.bin .sub (.reg 2) (.cst (.int .i64 1)), none, none⟩, ⟨.indexAddrS 1 (.reg 1) (.reg 3), none, none⟩, ⟨.load1 (.reg 4), none, none⟩, ⟨.conv (.toInt .u32) (.reg 5), none, none⟩, ⟨.bin .quo (.reg 0) (.reg 6), none, none⟩, ⟨.minmax false [(.reg 7), (.cst (.int .u32 65535))], none, none⟩, ⟨.mov (.reg 8), (some 10), none⟩])
    (.seq (.block 4
     (.loop
      (.seq (.seq (.draw [0, 1, 4, 5, 6, 7, 8, 9, 10] [(2, [10], []), (3, [10], []), (11, [], [12])] [⟨.mov (.loc 6), none, none⟩, ⟨.mov (.loc 10), none, none⟩, ⟨.call true false 41 [(.reg 0), (.reg 1), (.cst (.int .u32 0))], none, none⟩, ⟨.call true false 40 [(.reg 2)], none, none⟩, ⟨.mov (.loc 5), none, none⟩, ⟨.mov (.loc 8), none, none⟩, ⟨.mov (.loc 8), none, none⟩, ⟨.mov (.loc 7), none, none⟩, ⟨.bin .add (.reg 6) (.reg 7), none, none⟩, ⟨.bin .add (.reg 8) (.cst (.int .i64 1)), none, none⟩, ⟨.slice (.sl 1) (.reg 4) (some (.reg 5)) (some (.reg 9)) none, none, none⟩, ⟨.call true false 54 [(.reg 3), (.reg 10)], none, none⟩, ⟨.bin .gtr (.reg 11) (.cst (.int .i64 0)), (some 14), none⟩])
      (.cond (.loc 14)
       .skip
       (.exit 4)))
      (.block 5
       (.region [⟨.mov (.loc 10), none, none⟩, ⟨.bin .sub (.reg 0) (.cst (.int .u32 1)), none, none⟩, ⟨.mov (.reg 1), (some 10), none⟩])))))
    (.seq (.draw [0, 1, 2, 3, 4, 5, 6, 7, 8] [(9, [6], []), (10, [6], []), (11, [], [12])] [⟨.mov (.loc 5), none, none⟩, ⟨.mov (.loc 8), none, none⟩, ⟨.mov (.loc 8), none, none⟩, ⟨.mov (.loc 7), none, none⟩, ⟨.bin .add (.reg 2) (.reg 3), none, none⟩, ⟨.bin .add (.reg 4) (.cst (.int .i64 1)), none, none⟩, ⟨.slice (.sl 1) (.reg 0) (some (.reg 1)) (some (.reg 5)) none, none, none⟩, ⟨.mov (.loc 6), none, none⟩, ⟨.mov (.loc 10), none, none⟩, ⟨.call true false 41 [(.reg 7), (.reg 8), (.cst (.int .u32 0))], none, none⟩, ⟨.call true false 40 [(.reg 9)], none, none⟩, ⟨.call true false 55 [(.reg 6), (.reg 10)], none, none⟩, ⟨.mov (.reg 11), (some 11), none⟩])
    (.seq (.region [⟨.mov (.loc 5), none, none⟩, ⟨.mov (.loc 8), none, none⟩, ⟨.mov (.loc 8), none, none⟩, ⟨.mov (.loc 7), none, none⟩, ⟨.bin .add (.reg 2) (.reg 3), none, none⟩, ⟨.bin .add (.reg 4) (.cst (.int .i64 1)), none, none⟩, ⟨.slice (.sl 1) (.reg 0) (some (.reg 1)) (some (.reg 5)) none, none, none⟩, ⟨.mov (.loc 11), none, none⟩, ⟨.copy 1 (.reg 6) (.reg 7), none, none⟩])
    (.region [⟨.mov (.loc 2), none, none⟩, ⟨.mov (.loc 8), none, none⟩, ⟨.mov (.loc 10), none, none⟩, ⟨.conv (.toInt .u16) (.reg 2), none, none⟩, ⟨.indexAddrS 1 (.reg 0) (.reg 1), none, none⟩, ⟨.store 1 (.reg 4) (.reg 3), none, none⟩])))))))
   (.region [⟨.mov (.loc 8), none, none⟩, ⟨.bin .sub (.reg 0) (.cst (.int .i64 1)), none, none⟩, ⟨.mov (.reg 1), (some 8), none⟩]))))))
 (.seq (.region [⟨.mov (.loc 5), none, none⟩, ⟨.mov (.loc 4), none, none⟩, ⟨.bin .shl (.cst (.int .u32 1)) (.reg 1), none, none⟩, ⟨.call true false 45 [(.reg 0), (.reg 2)], none, none⟩, ⟨.mov (.reg 3), none, none⟩, ⟨.extract 0 (.reg 4), none, none⟩, ⟨.extract 1 (.reg 4), none, none⟩, ⟨.mov (.reg 5), (some 3), none⟩])
 (.seq (.region [⟨.mov (.loc 2), none, none⟩, ⟨.mov (.loc 3), none, none⟩, ⟨.mov (.reg 0), (some 2), none⟩, ⟨.mov (.reg 1), (some 3), none⟩])
 .ret)))))))))⟩
theorem c61 : compFunc Tryd.prog opts a61 Tryd.f61 = some t61 := by kernel_rfl
/-- strings.trimLeftByte -/
def a63 : Ann := { slots := [0, 1, 4, 13], lb := [], mu := [], trunc := [], draws := [] }
def t63 : TFunc := ⟨2, 4, [.loc 2],
 (.seq (.region [⟨.mov (.cst (.str [])), (some 2), none⟩])
 (.seq (.block 0
  (.loop
   (.seq (.seq (.region [⟨.mov (.loc 0), none, none⟩, ⟨.len .str (.reg 0), none, none⟩, ⟨.bin .gtr (.reg 1) (.cst (.int .i64 0)), none, none⟩, ⟨.mov (.reg 2), none, none⟩, ⟨.mov (.loc 0), none, (some (3, true))⟩, ⟨.indexS (.reg 4) (.cst (.int .i64 0)), none, (some (3, true))⟩, ⟨.mov (.loc 1), none, (some (3, true))⟩, ⟨.bin .eql (.reg 5) (.reg 6), none, (some (3, true))⟩, ⟨.pick (.reg 3) (.reg 7) (.cst (.bool false)), (some 3), none⟩])
   (.cond (.loc 3)
    .skip
    (.exit 0)))
   (.block 1
    (.region [⟨.mov (.loc 0), none, none⟩, ⟨.slice .str (.reg 0) (some (.cst (.int .i64 1))) none none, none, none⟩, ⟨.mov (.reg 1), (some 0), none⟩])))))
 (.seq (.region [⟨.mov (.loc 0), none, none⟩, ⟨.mov (.reg 0), (some 2), none⟩])
 .ret)))⟩
theorem c63 : compFunc Tryd.prog opts a63 Tryd.f63 = some t63 := by kernel_rfl
/-- strings.makeASCIISet -/
def a64 : Ann := { slots := [0, 2, 3, 4, 5, 9, 16], lb := [2], mu := [], trunc := [], draws := [] }
def t64 : TFunc := ⟨1, 7, [.cell 1 256 true, .loc 2],
 (.seq (.region [⟨.allocL 1 [(.bool false), (.bool false), (.bool false), (.bool false), (.bool false), (.bool false), (.bool false), (.bool false), (.bool false), (.bool false), (.bool false), (.bool false), (.bool false), (.bool false), (.bool false), (.bool false), (.bool false), (.bool false), (.bool false), (.bool false), (.bool false), (.bool false), (.bool false), (.bool false), (.bool false), (.bool false), (.bool false), (.bool false), (.bool false), (.bool false), (.bool false), (.bool false), (.bool false), (.bool false), (.bool false), (.bool false), (.bool false), (.bool false), (.bool false), (.bool false), (.bool false), (.bool false), (.bool false), (.bool false), (.bool false), (.bool false), (.bool false), (.bool false), (.bool false), (.bool false), (.bool false), (.bool false), (.bool false), (.bool false), (.bool false), (.bool false), (.bool false), (.bool false), (.bool false), (.bool false), (.bool false), (.bool false), (.bool false), (.bool false), (.bool false), (.bool false), (.bool false), (.bool false), (.bool false), (.bool false), (.bool false), (.bool false), (.bool false), (.bool false), (.bool false), (.bool false), (.bool false), (.bool false), (.bool false), (.bool false), (.bool false), (.bool false), (.bool false), (.bool false), (.bool false), (.bool false), (.bool false), (.bool false), (.bool false), (.bool false), (.bool false), (.bool false), (.bool false), (.bool false), (.bool false), (.bool false), (.bool false), (.bool false), (.bool false), (.bool false), (.bool false), (.bool false), (.bool false), (.bool false), (.bool false), (.bool false), (.bool false), (.bool false), (.bool false), (.bool false), (.bool false), (.bool false), (.bool false), (.bool false), (.bool false), (.bool false), (.bool false), (.bool false), (.bool false), (.bool false), (.bool false), (.bool false), (.bool false), (.bool false), (.bool false), (.bool false), (.bool false), (.bool false), (.bool false), (.bool false), (.bool false), (.bool false), (.bool false), (.bool false), (.bool false), (.bool false), (.bool false), (.bool false), (.bool false), (.bool false), (.bool false), (.bool false), (.bool false), (.bool false), (.bool false), (.bool false), (.bool false), (.bool false), (.bool false), (.bool false), (.bool false), (.bool false), (.bool false), (.bool false), (.bool false), (.bool false), (.bool false), (.bool false), (.bool false), (.bool false), (.bool false), (.bool false), (.bool false), (.bool false), (.bool false), (.bool false), (.bool false), (.bool false), (.bool false), (.bool false), (.bool false), (.bool false), (.bool false), (.bool false), (.bool false), (.bool false), (.bool false), (.bool false), (.bool false), (.bool false), (.bool false), (.bool false), (.bool false), (.bool false), (.bool false), (.bool false), (.bool false), (.bool false), (.bool false), (.bool false), (.bool false), (.bool false), (.bool false), (.bool false), (.bool false), (.bool false), (.bool false), (.bool false), (.bool false), (.bool false), (.bool false), (.bool false), (.bool false), (.bool false), (.bool false), (.bool false), (.bool false), (.bool false), (.bool false), (.bool false), (.bool false), (.bool false), (.bool false), (.bool false), (.bool false), (.bool false), (.bool false), (.bool false), (.bool false), (.bool false), (.bool false), (.bool false), (.bool false), (.bool false), (.bool false), (.bool false), (.bool false), (.bool false), (.bool false), (.bool false), (.bool false), (.bool false), (.bool false), (.bool false), (.bool false), (.bool false), (.bool false), (.bool false), (.bool false), (.bool false), (.bool false), (.bool false), (.bool false), (.bool false), (.bool false), (.bool false), (.bool false), (.bool false), (.bool false), (.bool false), (.bool false), (.bool false), (.bool false), (.bool false), (.bool false), (.bool false)], none, none⟩, ⟨.mov (.cst (.bool false)), (some 2), none⟩])
 (.seq (.seq (.region [⟨.mov (.cst (.int .i64 0)), (some 3), none⟩])
 (.block 0
  (.loop
   (.seq (.seq (.region [⟨.mov (.loc 3), none, none⟩, ⟨.mov (.loc 0), none, none⟩, ⟨.len .str (.reg 1), none, none⟩, ⟨.bin .lss (.reg 0) (.reg 2), (some 5), none⟩])
   (.cond (.loc 5)
    .skip
    (.exit 0)))
   (.seq (.block 1
    (.seq (.region [⟨.mov (.loc 0), none, none⟩, ⟨.mov (.loc 3), none, none⟩, ⟨.indexS (.reg 0) (.reg 1), none, none⟩, ⟨.mov (.reg 2), (some 4), none⟩])
    (.seq (.seq (.region [⟨.mov (.loc 4), none, none⟩, ⟨.bin .geq (.reg 0) (.cst (.int .u8 128)), (some 6), none⟩])
    (.cond (.loc 6)
     (.seq (.region [⟨.loadN 256 (.loc 1), none, none⟩, ⟨.store 256 (.loc 1) (.reg 0), none, none⟩, ⟨.mov (.cst (.bool false)), (some 2), none⟩])
     .ret)
     .skip))
    (.region [⟨.mov (.loc 4), none, none⟩, ⟨.indexAddrA 256 1 (.loc 1) (.reg 0), none, none⟩, ⟨.store 1 (.reg 1) (.cst (.bool true)), none, none⟩]))))
   (.region [⟨.mov (.loc 3), none, none⟩, ⟨.bin .add (.reg 0) (.cst (.int .i64 1)), none, none⟩, ⟨.mov (.reg 1), (some 3), none⟩]))))))
 (.seq (.region [⟨.loadN 256 (.loc 1), none, none⟩, ⟨.store 256 (.loc 1) (.reg 0), none, none⟩, ⟨.mov (.cst (.bool true)), (some 2), none⟩])
 .ret)))⟩
theorem c64 : compFunc Tryd.prog opts a64 Tryd.f64 = some t64 := by kernel_rfl
/-- strings.trimLeftASCII -/
def a65 : Ann := { slots := [0, 1, 4, 7, 12], lb := [], mu := [], trunc := [], draws := [] }
def t65 : TFunc := ⟨2, 5, [.loc 2],
 (.seq (.region [⟨.mov (.cst (.str [])), (some 2), none⟩])
 (.seq (.block 0
  (.loop
   (.seq (.seq (.region [⟨.mov (.loc 0), none, none⟩, ⟨.len .str (.reg 0), none, none⟩, ⟨.bin .gtr (.reg 1) (.cst (.int .i64 0)), (some 3), none⟩])
   (.cond (.loc 3)
    .skip
    (.exit 0)))
   (.block 1
    (.seq (.seq (.region [⟨.mov (.loc 1), none, none⟩, ⟨.mov (.loc 0), none, none⟩, ⟨.indexS (.reg 1) (.cst (.int .i64 0)), none, none⟩, ⟨.call false false 80 [(.reg 0), (.reg 2)], none, none⟩, ⟨.un .not (.reg 3), (some 4), none⟩])
    (.cond (.loc 4)
     (.exit 0)
     .skip))
    (.region [⟨.mov (.loc 0), none, none⟩, ⟨.slice .str (.reg 0) (some (.cst (.int .i64 1))) none none, none, none⟩, ⟨.mov (.reg 1), (some 0), none⟩]))))))
 (.seq (.region [⟨.mov (.loc 0), none, none⟩, ⟨.mov (.reg 0), (some 2), none⟩])
 .ret)))⟩
theorem c65 : compFunc Tryd.prog opts a65 Tryd.f65 = some t65 := by kernel_rfl
/-- strings.trimLeftUnicode -/
def a66 : Ann := { slots := [0, 1, 4, 5, 6, 9, 18], lb := [], mu := [], trunc := [], draws := [] }
def t66 : TFunc := ⟨2, 7, [.loc 2],
 (.seq (.region [⟨.mov (.cst (.str [])), (some 2), none⟩])
 (.seq (.block 0
  (.loop
   (.seq (.seq (.region [⟨.mov (.loc 0), none, none⟩, ⟨.len .str (.reg 0), none, none⟩, ⟨.bin .gtr (.reg 1) (.cst (.int .i64 0)), (some 5), none⟩])
   (.cond (.loc 5)
    .skip
    (.exit 0)))
   (.block 1
    (.seq (.region [⟨.mov (.loc 0), none, none⟩, ⟨.call true false 81 [(.reg 0)], none, none⟩, ⟨.mov (.reg 1), none, none⟩, ⟨.extract 0 (.reg 2), none, none⟩, ⟨.extract 1 (.reg 2), none, none⟩, ⟨.mov (.reg 3), (some 3), none⟩, ⟨.mov (.reg 4), (some 4), none⟩])
    (.seq (.seq (.region [⟨.mov (.loc 1), none, none⟩, ⟨.mov (.loc 3), none, none⟩, ⟨.call true false 82 [(.reg 0), (.reg 1)], none, none⟩, ⟨.un .not (.reg 2), (some 6), none⟩])
    (.cond (.loc 6)
     (.exit 0)
     .skip))
    (.region [⟨.mov (.loc 0), none, none⟩, ⟨.mov (.loc 4), none, none⟩, ⟨.slice .str (.reg 0) (some (.reg 1)) none none, none, none⟩, ⟨.mov (.reg 2), (some 0), none⟩])))))))
 (.seq (.region [⟨.mov (.loc 0), none, none⟩, ⟨.mov (.reg 0), (some 2), none⟩])
 .ret)))⟩
theorem c66 : compFunc Tryd.prog opts a66 Tryd.f66 = some t66 := by kernel_rfl
/-- internal/strconv.Itoa -/
def a68 : Ann := { slots := [0, 2], lb := [], mu := [], trunc := [], draws := [] }
def t68 : TFunc := ⟨1, 2, [.loc 1],
 (.seq (.region [⟨.mov (.cst (.str [])), (some 1), none⟩])
 (.seq (.region [⟨.mov (.loc 0), none, none⟩, ⟨.call true false 83 [(.reg 0), (.cst (.int .i64 10))], none, none⟩, ⟨.mov (.reg 1), (some 1), none⟩])
 .ret))⟩
theorem c68 : compFunc Tryd.prog opts a68 Tryd.f68 = some t68 := by kernel_rfl
/-- math/bits.Mul -/
def a69 : Ann := { slots := [0, 1, 4, 5, 6, 7, 8, 9], lb := [], mu := [], trunc := [], draws := [] }
def t69 : TFunc := ⟨2, 8, [.loc 2, .loc 3],
 (.seq (.region [⟨.mov (.cst (.int .u64 0)), (some 2), none⟩, ⟨.mov (.cst (.int .u64 0)), (some 3), none⟩])
 (.seq (.cond (.cst (.bool false))
  (.seq (.region [⟨.mov (.loc 0), none, none⟩, ⟨.conv (.toInt .u32) (.reg 0), none, none⟩, ⟨.mov (.loc 1), none, none⟩, ⟨.conv (.toInt .u32) (.reg 2), none, none⟩, ⟨.call true false 84 [(.reg 1), (.reg 3)], none, none⟩, ⟨.mov (.reg 4), none, none⟩, ⟨.extract 0 (.reg 5), none, none⟩, ⟨.extract 1 (.reg 5), none, none⟩, ⟨.mov (.reg 6), (some 4), none⟩, ⟨.mov (.reg 7), (some 5), none⟩])
  (.seq (.region [⟨.mov (.loc 4), none, none⟩, ⟨.conv (.toInt .u64) (.reg 0), none, none⟩, ⟨.mov (.loc 5), none, none⟩, ⟨.conv (.toInt .u64) (.reg 2), none, none⟩, ⟨.mov (.reg 1), (some 2), none⟩, ⟨.mov (.reg 3), (some 3), none⟩])
  .ret))
  .skip)
 (.seq (.region [⟨.mov (.loc 0), none, none⟩, ⟨.mov (.loc 1), none, none⟩, ⟨.call true false 85 [(.reg 0), (.reg 1)], none, none⟩, ⟨.mov (.reg 2), none, none⟩, ⟨.extract 0 (.reg 3), none, none⟩, ⟨.extract 1 (.reg 3), none, none⟩, ⟨.mov (.reg 4), (some 6), none⟩, ⟨.mov (.reg 5), (some 7), none⟩])
 (.seq (.region [⟨.mov (.loc 6), none, none⟩, ⟨.mov (.loc 7), none, none⟩, ⟨.mov (.reg 0), (some 2), none⟩, ⟨.mov (.reg 1), (some 3), none⟩])
 .ret))))⟩
theorem c69 : compFunc Tryd.prog opts a69 Tryd.f69 = some t69 := by kernel_rfl
/-- strings.HasPrefix -/
def a70 : Ann := { slots := [0, 1, 4], lb := [], mu := [], trunc := [], draws := [] }
def t70 : TFunc := ⟨2, 3, [.loc 2],
 (.seq (.region [⟨.mov (.cst (.bool false)), (some 2), none⟩])
 (.seq (.region [⟨.mov (.loc 0), none, none⟩, ⟨.mov (.loc 1), none, none⟩, ⟨.call true false 86 [(.reg 0), (.reg 1)], none, none⟩, ⟨.mov (.reg 2), (some 2), none⟩])
 .ret))⟩
theorem c70 : compFunc Tryd.prog opts a70 Tryd.f70 = some t70 := by kernel_rfl
/-- (*strings.Builder).Grow -/
def a71 : Ann := { slots := [0, 1, 7, 21], lb := [], mu := [], trunc := [], draws := [(3, ⟨[0, 1, 3, 7, 15, 0, 32, 96, 224, 480, 1023, 0, 4095], [0, 1, 2, 3, 4, 5, 6, 7, 8, 9, 10, 11, 12], []⟩)] }
def t71 : TFunc := ⟨2, 4, [],
 (.seq (.region [⟨.mov (.loc 0), none, none⟩, ⟨.prim 87 [(.reg 0)], none, none⟩])
 (.seq (.seq (.region [⟨.mov (.loc 1), none, none⟩, ⟨.bin .lss (.reg 0) (.cst (.int .i64 0)), (some 2), none⟩])
 (.cond (.loc 2)
  (.region [⟨.bad, none, none⟩, ⟨.bad, none, none⟩])
  .skip))
 (.seq (.draw [0, 1, 2, 3, 4, 5, 6, 7, 8, 9, 10, 11, 12] [] [⟨.mov (.loc 0), none, none⟩, ⟨.nilCheck (.reg 0), none, none⟩, ⟨.fieldAddr 1 (.reg 1), none, none⟩, ⟨.load1 (.reg 2), none, none⟩, ⟨.cap (.reg 3), none, none⟩, ⟨.mov (.loc 0), none, none⟩, ⟨.nilCheck (.reg 5), none, none⟩, ⟨.fieldAddr 1 (.reg 6), none, none⟩, ⟨.load1 (.reg 7), none, none⟩, ⟨.len .sl (.reg 8), none, none⟩, ⟨.bin .sub (.reg 4) (.reg 9), none, none⟩, ⟨.mov (.loc 1), none, none⟩, ⟨.bin .lss (.reg 10) (.reg 11), (some 3), none⟩])
 (.cond (.loc 3)
  (.region [⟨.mov (.loc 0), none, none⟩, ⟨.mov (.loc 1), none, none⟩, ⟨.call false false 88 [(.reg 0), (.reg 1)], none, none⟩])
  .skip))))⟩
theorem c71 : compFunc Tryd.prog opts a71 Tryd.f71 = some t71 := by kernel_rfl
/-- (*strings.Builder).WriteString -/
def a72 : Ann := { slots := [0, 1, 4, 5], lb := [], mu := [], trunc := [], draws := [] }
def t72 : TFunc := ⟨2, 4, [.loc 2, .loc 3],
 (.seq (.region [⟨.mov (.cst (.int .i64 0)), (some 2), none⟩, ⟨.mov (.cst .nili), (some 3), none⟩])
 (.seq (.region [⟨.mov (.loc 0), none, none⟩, ⟨.prim 87 [(.reg 0)], none, none⟩])
 (.seq (.region [⟨.mov (.loc 0), none, none⟩, ⟨.mov (.loc 0), none, none⟩, ⟨.nilCheck (.reg 1), none, none⟩, ⟨.fieldAddr 1 (.reg 2), none, none⟩, ⟨.load1 (.reg 3), none, none⟩, ⟨.mov (.loc 1), none, none⟩, ⟨.append false 1 1 5 (.reg 4) (.reg 5), none, none⟩, ⟨.nilCheck (.reg 0), none, none⟩, ⟨.fieldAddr 1 (.reg 7), none, none⟩, ⟨.store 1 (.reg 8) (.reg 6), none, none⟩])
 (.seq (.region [⟨.mov (.loc 1), none, none⟩, ⟨.len .str (.reg 0), none, none⟩, ⟨.mov (.reg 1), (some 2), none⟩, ⟨.mov (.cst .nili), (some 3), none⟩])
 .ret))))⟩
theorem c72 : compFunc Tryd.prog opts a72 Tryd.f72 = some t72 := by kernel_rfl
/-- (*strings.Builder).Len -/
def a73 : Ann := { slots := [0, 2], lb := [], mu := [], trunc := [], draws := [] }
def t73 : TFunc := ⟨1, 2, [.loc 1],
 (.seq (.region [⟨.mov (.cst (.int .i64 0)), (some 1), none⟩])
 (.seq (.region [⟨.mov (.loc 0), none, none⟩, ⟨.nilCheck (.reg 0), none, none⟩, ⟨.fieldAddr 1 (.reg 1), none, none⟩, ⟨.load1 (.reg 2), none, none⟩, ⟨.len .sl (.reg 3), none, none⟩, ⟨.mov (.reg 4), (some 1), none⟩])
 .ret))⟩
theorem c73 : compFunc Tryd.prog opts a73 Tryd.f73 = some t73 := by kernel_rfl
/-- slices.Backward[[]uint16,uint16]$1 -/
def a75 : Ann := { slots := [0, 1, 3, 8, 18], lb := [], mu := [], trunc := [], draws := [] }
def t75 : TFunc := ⟨2, 5, [],
 (.seq (.region [⟨.load1 (.loc 1), none, none⟩, ⟨.len .sl (.reg 0), none, none⟩, ⟨.bin .sub (.reg 1) (.cst (.int .i64 1)), none, none⟩, ⟨.mov (.reg 2), (some 2), none⟩])
 (.block 0
  (.loop
   (.seq (.seq (.region [⟨.mov (.loc 2), none, none⟩, ⟨.bin .geq (.reg 0) (.cst (.int .i64 0)), (some 3), none⟩])
   (.cond (.loc 3)
    .skip
    (.exit 0)))
   (.seq (.block 1
    (.seq (.region [⟨.mov (.loc 0), none, none⟩, ⟨.mov (.loc 2), none, none⟩, ⟨.load1 (.loc 1), none, none⟩, ⟨.mov (.loc 2), none, none⟩, ⟨.indexAddrS 1 (.reg 2) (.reg 3), none, none⟩, ⟨.load1 (.reg 4), none, none⟩, ⟨.callv (.reg 0) [(.reg 1), (.reg 5)], none, none⟩, ⟨.un .not (.reg 6), (some 4), none⟩])
    (.cond (.loc 4)
     .ret
     .skip)))
   (.region [⟨.mov (.loc 2), none, none⟩, ⟨.bin .sub (.reg 0) (.cst (.int .i64 1)), none, none⟩, ⟨.mov (.reg 1), (some 2), none⟩]))))))⟩
theorem c75 : compFunc Tryd.prog opts a75 Tryd.f75 = some t75 := by kernel_rfl
/-- pennant/big.at -/
def a76 : Ann := { slots := [0, 1, 4, 8], lb := [], mu := [], trunc := [], draws := [] }
def t76 : TFunc := ⟨2, 4, [.loc 2],
 (.seq (.region [⟨.mov (.cst (.int .u32 0)), (some 2), none⟩])
 (.seq (.seq (.region [⟨.mov (.loc 1), none, none⟩, ⟨.mov (.loc 0), none, none⟩, ⟨.len .sl (.reg 1), none, none⟩, ⟨.bin .geq (.reg 0) (.reg 2), (some 3), none⟩])
 (.cond (.loc 3)
  (.seq (.region [⟨.mov (.cst (.int .u32 0)), (some 2), none⟩])
  .ret)
  .skip))
 (.seq (.region [⟨.mov (.loc 0), none, none⟩, ⟨.mov (.loc 1), none, none⟩, ⟨.indexAddrS 1 (.reg 0) (.reg 1), none, none⟩, ⟨.load1 (.reg 2), none, none⟩, ⟨.conv (.toInt .u32) (.reg 3), none, none⟩, ⟨.mov (.reg 4), (some 2), none⟩])
 .ret)))⟩
theorem c76 : compFunc Tryd.prog opts a76 Tryd.f76 = some t76 := by kernel_rfl
/-- cmp.Compare[int] -/
def a77 : Ann := { slots := [0, 1, 4, 5, 6, 11, 12, 13, 16, 19], lb := [], mu := [], trunc := [], draws := [] }
def t77 : TFunc := ⟨2, 10, [.loc 2],
 (.seq (.region [⟨.mov (.cst (.int .i64 0)), (some 2), none⟩])
 (.seq (.region [⟨.mov (.loc 0), none, none⟩, ⟨.call true false 89 [(.reg 0)], none, none⟩, ⟨.mov (.reg 1), (some 3), none⟩])
 (.seq (.region [⟨.mov (.loc 1), none, none⟩, ⟨.call true false 89 [(.reg 0)], none, none⟩, ⟨.mov (.reg 1), (some 4), none⟩])
 (.seq (.seq (.region [⟨.mov (.loc 3), (some 5), none⟩])
 (.cond (.loc 5)
  (.seq (.seq (.region [⟨.mov (.loc 4), (some 6), none⟩])
  (.cond (.loc 6)
   (.seq (.region [⟨.mov (.cst (.int .i64 0)), (some 2), none⟩])
   .ret)
   .skip))
  (.seq (.region [⟨.mov (.cst (.int .i64 (-1))), (some 2), none⟩])
  .ret))
  .skip))
 (.seq (.seq (.region [⟨.mov (.loc 4), (some 7), none⟩])
 (.cond (.loc 7)
  (.seq (.region [⟨.mov (.cst (.int .i64 1)), (some 2), none⟩])
  .ret)
  .skip))
 (.seq (.seq (.region [⟨.mov (.loc 0), none, none⟩, ⟨.mov (.loc 1), none, none⟩, ⟨.bin .lss (.reg 0) (.reg 1), (some 8), none⟩])
 (.cond (.loc 8)
  (.seq (.region [⟨.mov (.cst (.int .i64 (-1))), (some 2), none⟩])
  .ret)
  .skip))
 (.seq (.seq (.region [⟨.mov (.loc 0), none, none⟩, ⟨.mov (.loc 1), none, none⟩, ⟨.bin .gtr (.reg 0) (.reg 1), (some 9), none⟩])
 (.cond (.loc 9)
  (.seq (.region [⟨.mov (.cst (.int .i64 1)), (some 2), none⟩])
  .ret)
  .skip))
 (.seq (.region [⟨.mov (.cst (.int .i64 0)), (some 2), none⟩])
 .ret))))))))⟩
theorem c77 : compFunc Tryd.prog opts a77 Tryd.f77 = some t77 := by kernel_rfl
/-- cmp.Compare[uint16] -/
def a78 : Ann := { slots := [0, 1, 4, 5, 6, 11, 12, 13, 16, 19], lb := [], mu := [], trunc := [], draws := [] }
def t78 : TFunc := ⟨2, 10, [.loc 2],
 (.seq (.region [⟨.mov (.cst (.int .i64 0)), (some 2), none⟩])
 (.seq (.region [⟨.mov (.loc 0), none, none⟩, ⟨.call true false 90 [(.reg 0)], none, none⟩, ⟨.mov (.reg 1), (some 3), none⟩])
 (.seq (.region [⟨.mov (.loc 1), none, none⟩, ⟨.call true false 90 [(.reg 0)], none, none⟩, ⟨.mov (.reg 1), (some 4), none⟩])
 (.seq (.seq (.region [⟨.mov (.loc 3), (some 5), none⟩])
 (.cond (.loc 5)
  (.seq (.seq (.region [⟨.mov (.loc 4), (some 6), none⟩])
  (.cond (.loc 6)
   (.seq (.region [⟨.mov (.cst (.int .i64 0)), (some 2), none⟩])
   .ret)
   .skip))
  (.seq (.region [⟨.mov (.cst (.int .i64 (-1))), (some 2), none⟩])
  .ret))
  .skip))
 (.seq (.seq (.region [⟨.mov (.loc 4), (some 7), none⟩])
 (.cond (.loc 7)
  (.seq (.region [⟨.mov (.cst (.int .i64 1)), (some 2), none⟩])
  .ret)
  .skip))
 (.seq (.seq (.region [⟨.mov (.loc 0), none, none⟩, ⟨.mov (.loc 1), none, none⟩, ⟨.bin .lss (.reg 0) (.reg 1), (some 8), none⟩])
 (.cond (.loc 8)
  (.seq (.region [⟨.mov (.cst (.int .i64 (-1))), (some 2), none⟩])
  .ret)
  .skip))
 (.seq (.seq (.region [⟨.mov (.loc 0), none, none⟩, ⟨.mov (.loc 1), none, none⟩, ⟨.bin .gtr (.reg 0) (.reg 1), (some 9), none⟩])
 (.cond (.loc 9)
  (.seq (.region [⟨.mov (.cst (.int .i64 1)), (some 2), none⟩])
  .ret)
  .skip))
 (.seq (.region [⟨.mov (.cst (.int .i64 0)), (some 2), none⟩])
 .ret))))))))⟩
theorem c78 : compFunc Tryd.prog opts a78 Tryd.f78 = some t78 := by kernel_rfl
/-- (*strings.asciiSet).contains -/
def a80 : Ann := { slots := [0, 1, 4], lb := [], mu := [], trunc := [], draws := [] }
def t80 : TFunc := ⟨2, 3, [.loc 2],
 (.seq (.region [⟨.mov (.cst (.bool false)), (some 2), none⟩])
 (.seq (.region [⟨.mov (.loc 0), none, none⟩, ⟨.mov (.loc 1), none, none⟩, ⟨.nilCheck (.reg 0), none, none⟩, ⟨.indexAddrA 256 1 (.reg 2) (.reg 1), none, none⟩, ⟨.load1 (.reg 3), none, none⟩, ⟨.mov (.reg 4), (some 2), none⟩])
 .ret))⟩
theorem c80 : compFunc Tryd.prog opts a80 Tryd.f80 = some t80 := by kernel_rfl
/-- unicode/utf8.DecodeRuneInString -/
def a81 : Ann := { slots := [0, 2, 3, 10], lb := [], mu := [], trunc := [], draws := [] }
def t81 : TFunc := ⟨1, 4, [.loc 1, .loc 2],
 (.seq (.region [⟨.mov (.cst (.int .i32 0)), (some 1), none⟩, ⟨.mov (.cst (.int .i64 0)), (some 2), none⟩])
 (.seq (.seq (.region [⟨.mov (.loc 0), none, none⟩, ⟨.bin .neq (.reg 0) (.cst (.str [])), none, none⟩, ⟨.mov (.reg 1), none, none⟩, ⟨.mov (.loc 0), none, (some (2, true))⟩, ⟨.indexS (.reg 3) (.cst (.int .i64 0)), none, (some (2, true))⟩, ⟨.bin .lss (.reg 4) (.cst (.int .u8 128)), none, (some (2, true))⟩, ⟨.pick (.reg 2) (.reg 5) (.cst (.bool false)), (some 3), none⟩])
 (.cond (.loc 3)
  (.seq (.region [⟨.mov (.loc 0), none, none⟩, ⟨.indexS (.reg 0) (.cst (.int .i64 0)), none, none⟩, ⟨.conv (.toInt .i32) (.reg 1), none, none⟩, ⟨.mov (.reg 2), (some 1), none⟩, ⟨.mov (.cst (.int .i64 1)), (some 2), none⟩])
  .ret)
  (.region [⟨.mov (.loc 0), none, none⟩, ⟨.call true false 91 [(.reg 0)], none, none⟩, ⟨.mov (.reg 1), none, none⟩, ⟨.extract 0 (.reg 2), none, none⟩, ⟨.extract 1 (.reg 2), none, none⟩, ⟨.mov (.reg 3), (some 1), none⟩, ⟨.mov (.reg 4), (some 2), none⟩])))
 .ret))⟩
theorem c81 : compFunc Tryd.prog opts a81 Tryd.f81 = some t81 := by kernel_rfl
/-- strings.ContainsRune -/
def a82 : Ann := { slots := [0, 1, 4], lb := [], mu := [], trunc := [], draws := [] }
def t82 : TFunc := ⟨2, 3, [.loc 2],
 (.seq (.region [⟨.mov (.cst (.bool false)), (some 2), none⟩])
 (.seq (.region [⟨.mov (.loc 0), none, none⟩, ⟨.mov (.loc 1), none, none⟩, ⟨.call true false 92 [(.reg 0), (.reg 1)], none, none⟩, ⟨.bin .geq (.reg 2) (.cst (.int .i64 0)), none, none⟩, ⟨.mov (.reg 3), (some 2), none⟩])
 .ret))⟩
theorem c82 : compFunc Tryd.prog opts a82 Tryd.f82 = some t82 := by kernel_rfl
/-- internal/strconv.FormatInt -/
def a83 : Ann := { slots := [0, 1, 4, 5, 6, 7, 9, 11, 17, 23, 34], lb := [], mu := [], trunc := [], draws := [] }
def t83 : TFunc := ⟨2, 11, [.loc 2],
 (.seq (.region [⟨.mov (.cst (.str [])), (some 2), none⟩])
 (.seq (.seq (.region [⟨.mov (.loc 1), none, none⟩, ⟨.bin .eql (.reg 0) (.cst (.int .i64 10)), (some 7), none⟩])
 (.cond (.loc 7)
  (.seq (.seq (.region [⟨.mov (.loc 0), none, none⟩, ⟨.bin .leq (.cst (.int .i64 0)) (.reg 0), none, none⟩, ⟨.mov (.reg 1), none, none⟩, ⟨.mov (.loc 0), none, (some (2, true))⟩, ⟨.bin .lss (.reg 3) (.cst (.int .i64 100)), none, (some (2, true))⟩, ⟨.pick (.reg 2) (.reg 4) (.cst (.bool false)), (some 8), none⟩])
  (.cond (.loc 8)
   (.seq (.region [⟨.mov (.loc 0), none, none⟩, ⟨.call true false 93 [(.reg 0)], none, none⟩, ⟨.mov (.reg 1), (some 2), none⟩])
   .ret)
   .skip))
  (.seq (.region [⟨.allocH 134 [(.int .u8 0), (.int .u8 0), (.int .u8 0), (.int .u8 0), (.int .u8 0), (.int .u8 0), (.int .u8 0), (.int .u8 0), (.int .u8 0), (.int .u8 0), (.int .u8 0), (.int .u8 0), (.int .u8 0), (.int .u8 0), (.int .u8 0), (.int .u8 0), (.int .u8 0), (.int .u8 0), (.int .u8 0), (.int .u8 0), (.int .u8 0), (.int .u8 0), (.int .u8 0), (.int .u8 0)], (some 3), none⟩])
  (.seq (.region [⟨.mov (.loc 0), none, none⟩, ⟨.conv (.toInt .u64) (.reg 0), none, none⟩, ⟨.mov (.reg 1), (some 4), none⟩])
  (.seq (.seq (.region [⟨.mov (.loc 0), none, none⟩, ⟨.bin .lss (.reg 0) (.cst (.int .i64 0)), (some 9), none⟩])
  (.cond (.loc 9)
   (.region [⟨.mov (.loc 4), none, none⟩, ⟨.un .neg (.reg 0), none, none⟩, ⟨.mov (.reg 1), (some 4), none⟩])
   .skip))
  (.seq (.region [⟨.mov (.loc 4), none, none⟩, ⟨.call true false 94 [(.reg 0)], none, none⟩, ⟨.mov (.reg 1), (some 5), none⟩])
  (.seq (.region [⟨.mov (.loc 5), none, none⟩, ⟨.bin .add (.cst (.int .i64 1)) (.reg 0), none, none⟩, ⟨.slice (.arr 24 1) (.loc 3) (some (.cst (.int .i64 1))) (some (.reg 1)) none, none, none⟩, ⟨.mov (.loc 4), none, none⟩, ⟨.call false false 95 [(.reg 2), (.reg 3)], none, none⟩])
  (.seq (.seq (.region [⟨.mov (.loc 0), none, none⟩, ⟨.bin .lss (.reg 0) (.cst (.int .i64 0)), (some 10), none⟩])
  (.cond (.loc 10)
   (.seq (.region [⟨.indexAddrA 24 1 (.loc 3) (.cst (.int .i64 0)), none, none⟩, ⟨.store 1 (.reg 0) (.cst (.int .u8 45)), none, none⟩])
   (.seq (.region [⟨.mov (.loc 5), none, none⟩, ⟨.bin .add (.cst (.int .i64 1)) (.reg 0), none, none⟩, ⟨.slice (.arr 24 1) (.loc 3) none (some (.reg 1)) none, none, none⟩, ⟨.conv .bytesStr (.reg 2), none, none⟩, ⟨.mov (.reg 3), (some 2), none⟩])
   .ret))
   .skip))
  (.seq (.region [⟨.mov (.loc 5), none, none⟩, ⟨.bin .add (.cst (.int .i64 1)) (.reg 0), none, none⟩, ⟨.slice (.arr 24 1) (.loc 3) (some (.cst (.int .i64 1))) (some (.reg 1)) none, none, none⟩, ⟨.conv .bytesStr (.reg 2), none, none⟩, ⟨.mov (.reg 3), (some 2), none⟩])
  .ret))))))))
  .skip))
 (.seq (.region [⟨.mov (.loc 0), none, none⟩, ⟨.conv (.toInt .u64) (.reg 0), none, none⟩, ⟨.mov (.loc 1), none, none⟩, ⟨.mov (.loc 0), none, none⟩, ⟨.bin .lss (.reg 3) (.cst (.int .i64 0)), none, none⟩, ⟨.call true false 96 [(.cst (.sl .nil [])), (.reg 1), (.reg 2), (.reg 4), (.cst (.bool false))], none, none⟩, ⟨.mov (.reg 5), none, none⟩, ⟨.extract 0 (.reg 6), none, none⟩, ⟨.extract 1 (.reg 6), none, none⟩, ⟨.mov (.reg 7), none, none⟩, ⟨.mov (.reg 8), (some 6), none⟩])
 (.seq (.region [⟨.mov (.loc 6), none, none⟩, ⟨.mov (.reg 0), (some 2), none⟩])
 .ret))))⟩
theorem c83 : compFunc Tryd.prog opts a83 Tryd.f83 = some t83 := by kernel_rfl
/-- math/bits.Mul32 -/
def a84 : Ann := { slots := [0, 1, 4, 5, 6], lb := [], mu := [], trunc := [], draws := [] }
def t84 : TFunc := ⟨2, 5, [.loc 2, .loc 3],
 (.seq (.region [⟨.mov (.cst (.int .u32 0)), (some 2), none⟩, ⟨.mov (.cst (.int .u32 0)), (some 3), none⟩])
 (.seq (.region [⟨.mov (.loc 0), none, none⟩, ⟨.conv (.toInt .u64) (.reg 0), none, none⟩, ⟨.mov (.loc 1), none, none⟩, ⟨.conv (.toInt .u64) (.reg 2), none, none⟩, ⟨.bin .mul (.reg 1) (.reg 3), none, none⟩, ⟨.mov (.reg 4), (some 4), none⟩])
 (.seq (.region [⟨.mov (.loc 4), none, none⟩, ⟨.bin .shr (.reg 0) (.cst (.int .u64 32)), none, none⟩, ⟨.conv (.toInt .u32) (.reg 1), none, none⟩, ⟨.mov (.loc 4), none, none⟩, ⟨.conv (.toInt .u32) (.reg 3), none, none⟩, ⟨.mov (.reg 2), (some 2), none⟩, ⟨.mov (.reg 4), (some 3), none⟩])
 .ret)))⟩
theorem c84 : compFunc Tryd.prog opts a84 Tryd.f84 = some t84 := by kernel_rfl
/-- math/bits.Mul64 -/
def a85 : Ann := { slots := [0, 1, 4, 5, 6, 7, 8, 9, 10, 11, 12, 13], lb := [], mu := [], trunc := [], draws := [] }
def t85 : TFunc := ⟨2, 12, [.loc 2, .loc 3],
 (.seq (.region [⟨.mov (.cst (.int .u64 0)), (some 2), none⟩, ⟨.mov (.cst (.int .u64 0)), (some 3), none⟩])
 (.seq (.region [⟨.mov (.loc 0), none, none⟩, ⟨.bin .and (.reg 0) (.cst (.int .u64 4294967295)), none, none⟩, ⟨.mov (.reg 1), (some 4), none⟩])
 (.seq (.region [⟨.mov (.loc 0), none, none⟩, ⟨.bin .shr (.reg 0) (.cst (.int .u64 32)), none, none⟩, ⟨.mov (.reg 1), (some 5), none⟩])
 (.seq (.region [⟨.mov (.loc 1), none, none⟩, ⟨.bin .and (.reg 0) (.cst (.int .u64 4294967295)), none, none⟩, ⟨.mov (.reg 1), (some 6), none⟩])
 (.seq (.region [⟨.mov (.loc 1), none, none⟩, ⟨.bin .shr (.reg 0) (.cst (.int .u64 32)), none, none⟩, ⟨.mov (.reg 1), (some 7), none⟩])
 (.seq (.region [⟨.mov (.loc 4), none, none⟩, ⟨.mov (.loc 6), none, none⟩, ⟨.bin .mul (.reg 0) (.reg 1), none, none⟩, ⟨.mov (.reg 2), (some 8), none⟩])
 (.seq (.region [⟨.mov (.loc 5), none, none⟩, ⟨.mov (.loc 6), none, none⟩, ⟨.bin .mul (.reg 0) (.reg 1), none, none⟩, ⟨.mov (.loc 8), none, none⟩, ⟨.bin .shr (.reg 3) (.cst (.int .u64 32)), none, none⟩, ⟨.bin .add (.reg 2) (.reg 4), none, none⟩, ⟨.mov (.reg 5), (some 9), none⟩])
 (.seq (.region [⟨.mov (.loc 9), none, none⟩, ⟨.bin .and (.reg 0) (.cst (.int .u64 4294967295)), none, none⟩, ⟨.mov (.reg 1), (some 10), none⟩])
 (.seq (.region [⟨.mov (.loc 9), none, none⟩, ⟨.bin .shr (.reg 0) (.cst (.int .u64 32)), none, none⟩, ⟨.mov (.reg 1), (some 11), none⟩])
 (.seq (.region [⟨.mov (.loc 10), none, none⟩, ⟨.mov (.loc 4), none, none⟩, ⟨.mov (.loc 7), none, none⟩, ⟨.bin .mul (.reg 1) (.reg 2), none, none⟩, ⟨.bin .add (.reg 0) (.reg 3), none, none⟩, ⟨.mov (.reg 4), (some 10), none⟩])
 (.seq (.region [⟨.mov (.loc 5), none, none⟩, ⟨.mov (.loc 7), none, none⟩, ⟨.bin .mul (.reg 0) (.reg 1), none, none⟩, ⟨.mov (.loc 11), none, none⟩, ⟨.bin .add (.reg 2) (.reg 3), none, none⟩, ⟨.mov (.loc 10), none, none⟩, ⟨.bin .shr (.reg 5) (.cst (.int .u64 32)), none, none⟩, ⟨.bin .add (.reg 4) (.reg 6), none, none⟩, ⟨.mov (.reg 7), (some 2), none⟩])
 (.seq (.region [⟨.mov (.loc 0), none, none⟩, ⟨.mov (.loc 1), none, none⟩, ⟨.bin .mul (.reg 0) (.reg 1), none, none⟩, ⟨.mov (.reg 2), (some 3), none⟩])
 .ret))))))))))))⟩
theorem c85 : compFunc Tryd.prog opts a85 Tryd.f85 = some t85 := by kernel_rfl
/-- internal/stringslite.HasPrefix -/
def a86 : Ann := { slots := [0, 1, 4], lb := [], mu := [], trunc := [], draws := [] }
def t86 : TFunc := ⟨2, 3, [.loc 2],
 (.seq (.region [⟨.mov (.cst (.bool false)), (some 2), none⟩])
 (.seq (.region [⟨.mov (.loc 0), none, none⟩, ⟨.len .str (.reg 0), none, none⟩, ⟨.mov (.loc 1), none, none⟩, ⟨.len .str (.reg 2), none, none⟩, ⟨.bin .geq (.reg 1) (.reg 3), none, none⟩, ⟨.mov (.reg 4), none, none⟩, ⟨.mov (.loc 0), none, (some (5, true))⟩, ⟨.mov (.loc 1), none, (some (5, true))⟩, ⟨.len .str (.reg 7), none, (some (5, true))⟩, ⟨.slice .str (.reg 6) none (some (.reg 8)) none, none, (some (5, true))⟩, ⟨.mov (.loc 1), none, (some (5, true))⟩, ⟨.bin .eql (.reg 9) (.reg 10), none, (some (5, true))⟩, ⟨.pick (.reg 5) (.reg 11) (.cst (.bool false)), none, none⟩, ⟨.mov (.reg 12), (some 2), none⟩])
 .ret))⟩
theorem c86 : compFunc Tryd.prog opts a86 Tryd.f86 = some t86 := by kernel_rfl
/-- (*strings.Builder).grow -/
def a88 : Ann := { slots := [0, 1, 4], lb := [], mu := [], trunc := [], draws := [(0, ⟨[0, 1, 3, 7, 15, 31, 0, 127, 255, 0, 512, 1536, 3584, 7680, 16383, 32767], [0, 1, 2, 3, 4, 5, 6, 7, 9, 10, 11, 12, 13], [(8, [12, 13], [14, 15])]⟩)] }
def t88 : TFunc := ⟨2, 3, [],
 (.seq (.draw [0, 1, 2, 3, 4, 5, 6, 7, 9, 10, 11, 12, 13] [(8, [12, 13], [14, 15])] [⟨.mov (.loc 0), none, none⟩, ⟨.nilCheck (.reg 0), none, none⟩, ⟨.fieldAddr 1 (.reg 1), none, none⟩, ⟨.load1 (.reg 2), none, none⟩, ⟨.cap (.reg 3), none, none⟩, ⟨.bin .mul (.cst (.int .i64 2)) (.reg 4), none, none⟩, ⟨.mov (.loc 1), none, none⟩, ⟨.bin .add (.reg 5) (.reg 6), none, none⟩, ⟨.prim 98 [(.reg 7)], none, none⟩, ⟨.mov (.loc 0), none, none⟩, ⟨.nilCheck (.reg 9), none, none⟩, ⟨.fieldAddr 1 (.reg 10), none, none⟩, ⟨.load1 (.reg 11), none, none⟩, ⟨.len .sl (.reg 12), none, none⟩, ⟨.slice (.sl 1) (.reg 8) none (some (.reg 13)) none, none, none⟩, ⟨.mov (.reg 14), (some 2), none⟩])
 (.seq (.region [⟨.mov (.loc 2), none, none⟩, ⟨.mov (.loc 0), none, none⟩, ⟨.nilCheck (.reg 1), none, none⟩, ⟨.fieldAddr 1 (.reg 2), none, none⟩, ⟨.load1 (.reg 3), none, none⟩, ⟨.copy 1 (.reg 0) (.reg 4), none, none⟩])
 (.region [⟨.mov (.loc 0), none, none⟩, ⟨.mov (.loc 2), none, none⟩, ⟨.nilCheck (.reg 0), none, none⟩, ⟨.fieldAddr 1 (.reg 2), none, none⟩, ⟨.store 1 (.reg 3) (.reg 1), none, none⟩])))⟩
theorem c88 : compFunc Tryd.prog opts a88 Tryd.f88 = some t88 := by kernel_rfl
/-- cmp.isNaN[int] -/
def a89 : Ann := { slots := [0, 2], lb := [], mu := [], trunc := [], draws := [] }
def t89 : TFunc := ⟨1, 2, [.loc 1],
 (.seq (.region [⟨.mov (.cst (.bool false)), (some 1), none⟩])
 (.seq (.region [⟨.mov (.loc 0), none, none⟩, ⟨.mov (.loc 0), none, none⟩, ⟨.bin .neq (.reg 0) (.reg 1), none, none⟩, ⟨.mov (.reg 2), (some 1), none⟩])
 .ret))⟩
theorem c89 : compFunc Tryd.prog opts a89 Tryd.f89 = some t89 := by kernel_rfl
/-- cmp.isNaN[uint16] -/
def a90 : Ann := { slots := [0, 2], lb := [], mu := [], trunc := [], draws := [] }
def t90 : TFunc := ⟨1, 2, [.loc 1],
 (.seq (.region [⟨.mov (.cst (.bool false)), (some 1), none⟩])
 (.seq (.region [⟨.mov (.loc 0), none, none⟩, ⟨.mov (.loc 0), none, none⟩, ⟨.bin .neq (.reg 0) (.reg 1), none, none⟩, ⟨.mov (.reg 2), (some 1), none⟩])
 .ret))⟩
theorem c90 : compFunc Tryd.prog opts a90 Tryd.f90 = some t90 := by kernel_rfl
/-- unicode/utf8.decodeRuneInStringSlow -/
def a91 : Ann := { slots := [0, 2, 3, 4, 5, 6, 7, 8, 9, 10, 11, 12, 16, 23, 45, 57, 59, 75, 77, 98], lb := [9], mu := [], trunc := [], draws := [] }
def t91 : TFunc := ⟨1, 20, [.loc 1, .loc 2],
 (.seq (.region [⟨.mov (.cst (.int .i32 0)), (some 1), none⟩, ⟨.mov (.cst (.int .i64 0)), (some 2), none⟩])
 (.seq (.region [⟨.mov (.loc 0), none, none⟩, ⟨.len .str (.reg 0), none, none⟩, ⟨.mov (.reg 1), (some 3), none⟩])
 (.seq (.seq (.region [⟨.mov (.loc 3), none, none⟩, ⟨.bin .lss (.reg 0) (.cst (.int .i64 1)), (some 12), none⟩])
 (.cond (.loc 12)
  (.seq (.region [⟨.mov (.cst (.int .i32 65533)), (some 1), none⟩, ⟨.mov (.cst (.int .i64 0)), (some 2), none⟩])
  .ret)
  .skip))
 (.seq (.region [⟨.mov (.loc 0), none, none⟩, ⟨.indexS (.reg 0) (.cst (.int .i64 0)), none, none⟩, ⟨.mov (.reg 1), (some 4), none⟩])
 (.seq (.region [⟨.mov (.loc 4), none, none⟩, ⟨.indexAddrA 256 1 (.glob 0) (.reg 0), none, none⟩, ⟨.load1 (.reg 1), none, none⟩, ⟨.mov (.reg 2), (some 5), none⟩])
 (.seq (.seq (.region [⟨.mov (.loc 5), none, none⟩, ⟨.bin .geq (.reg 0) (.cst (.int .u8 240)), (some 13), none⟩])
 (.cond (.loc 13)
  (.seq (.region [⟨.mov (.loc 5), none, none⟩, ⟨.conv (.toInt .i32) (.reg 0), none, none⟩, ⟨.bin .shl (.reg 1) (.cst (.int .u64 31)), none, none⟩, ⟨.bin .shr (.reg 2) (.cst (.int .u64 31)), none, none⟩, ⟨.mov (.reg 3), (some 6), none⟩])
  (.seq (.region [⟨.mov (.loc 0), none, none⟩, ⟨.indexS (.reg 0) (.cst (.int .i64 0)), none, none⟩, ⟨.conv (.toInt .i32) (.reg 1), none, none⟩, ⟨.mov (.loc 6), none, none⟩, ⟨.bin .andNot (.reg 2) (.reg 3), none, none⟩, ⟨.mov (.loc 6), none, none⟩, ⟨.bin .and (.cst (.int .i32 65533)) (.reg 5), none, none⟩, ⟨.bin .or (.reg 4) (.reg 6), none, none⟩, ⟨.mov (.reg 7), (some 1), none⟩, ⟨.mov (.cst (.int .i64 1)), (some 2), none⟩])
  .ret))
  .skip))
 (.seq (.region [⟨.mov (.loc 5), none, none⟩, ⟨.bin .and (.reg 0) (.cst (.int .u8 7)), none, none⟩, ⟨.conv (.toInt .i64) (.reg 1), none, none⟩, ⟨.mov (.reg 2), (some 7), none⟩])
 (.seq (.region [⟨.mov (.loc 5), none, none⟩, ⟨.bin .shr (.reg 0) (.cst (.int .u64 4)), none, none⟩, ⟨.indexAddrA 16 2 (.glob 1) (.reg 1), none, none⟩, ⟨.loadN 2 (.reg 2), none, none⟩, ⟨.allocL 8 [(.int .u8 0), (.int .u8 0)], none, none⟩, ⟨.store 2 (.reg 4) (.reg 3), none, none⟩])
 (.seq (.seq (.region [⟨.mov (.loc 3), none, none⟩, ⟨.mov (.loc 7), none, none⟩, ⟨.bin .lss (.reg 0) (.reg 1), (some 14), none⟩])
 (.cond (.loc 14)
  (.seq (.region [⟨.mov (.cst (.int .i32 65533)), (some 1), none⟩, ⟨.mov (.cst (.int .i64 1)), (some 2), none⟩])
  .ret)
  .skip))
 (.seq (.region [⟨.mov (.loc 0), none, none⟩, ⟨.indexS (.reg 0) (.cst (.int .i64 1)), none, none⟩, ⟨.mov (.reg 1), (some 9), none⟩])
 (.seq (.seq (.region [⟨.mov (.loc 9), none, none⟩, ⟨.fieldAddr 0 (.loc 8), none, none⟩, ⟨.load1 (.reg 1), none, none⟩, ⟨.bin .lss (.reg 0) (.reg 2), none, none⟩, ⟨.mov (.reg 3), none, none⟩, ⟨.fieldAddr 1 (.loc 8), none, (some (4, false))⟩, ⟨.load1 (.reg 5), none, (some (4, false))⟩, ⟨.mov (.loc 9), none, (some (4, false))⟩, ⟨.bin .lss (.reg 6) (.reg 7), none, (some (4, false))⟩, ⟨.pick (.reg 4) (.cst (.bool true)) (.reg 8), (some 15), none⟩])
 (.cond (.loc 15)
  (.seq (.region [⟨.mov (.cst (.int .i32 65533)), (some 1), none⟩, ⟨.mov (.cst (.int .i64 1)), (some 2), none⟩])
  .ret)
  .skip))
 (.seq (.seq (.region [⟨.mov (.loc 7), none, none⟩, ⟨.bin .leq (.reg 0) (.cst (.int .i64 2)), (some 16), none⟩])
 (.cond (.loc 16)
  (.seq (.region [⟨.mov (.loc 4), none, none⟩, ⟨.bin .and (.reg 0) (.cst (.int .u8 31)), none, none⟩, ⟨.conv (.toInt .i32) (.reg 1), none, none⟩, ⟨.bin .shl (.reg 2) (.cst (.int .u64 6)), none, none⟩, ⟨.mov (.loc 9), none, none⟩, ⟨.bin .and (.reg 4) (.cst (.int .u8 63)), none, none⟩, ⟨.conv (.toInt .i32) (.reg 5), none, none⟩, ⟨.bin .or (.reg 3) (.reg 6), none, none⟩, ⟨.mov (.reg 7), (some 1), none⟩, ⟨.mov (.cst (.int .i64 2)), (some 2), none⟩])
  .ret)
  .skip))
 (.seq (.region [⟨.mov (.loc 0), none, none⟩, ⟨.indexS (.reg 0) (.cst (.int .i64 2)), none, none⟩, ⟨.mov (.reg 1), (some 10), none⟩])
 (.seq (.seq (.region [⟨.mov (.loc 10), none, none⟩, ⟨.bin .lss (.reg 0) (.cst (.int .u8 128)), none, none⟩, ⟨.mov (.reg 1), none, none⟩, ⟨.mov (.loc 10), none, (some (2, false))⟩, ⟨.bin .lss (.cst (.int .u8 191)) (.reg 3), none, (some (2, false))⟩, ⟨.pick (.reg 2) (.cst (.bool true)) (.reg 4), (some 17), none⟩])
 (.cond (.loc 17)
  (.seq (.region [⟨.mov (.cst (.int .i32 65533)), (some 1), none⟩, ⟨.mov (.cst (.int .i64 1)), (some 2), none⟩])
  .ret)
  .skip))
 (.seq (.seq (.region [⟨.mov (.loc 7), none, none⟩, ⟨.bin .leq (.reg 0) (.cst (.int .i64 3)), (some 18), none⟩])
 (.cond (.loc 18)
  (.seq (.region [⟨.mov (.loc 4), none, none⟩, ⟨.bin .and (.reg 0) (.cst (.int .u8 15)), none, none⟩, ⟨.conv (.toInt .i32) (.reg 1), none, none⟩, ⟨.bin .shl (.reg 2) (.cst (.int .u64 12)), none, none⟩, ⟨.mov (.loc 9), none, none⟩, ⟨.bin .and (.reg 4) (.cst (.int .u8 63)), none, none⟩, ⟨.conv (.toInt .i32) (.reg 5), none, none⟩, ⟨.bin .shl (.reg 6) (.cst (.int .u64 6)), none, none⟩, ⟨.bin .or (.reg 3) (.reg 7), none, none⟩, ⟨.mov (.loc 10), none, none⟩, ⟨.bin .and (.reg 9) (.cst (.int .u8 63)), none, none⟩, ⟨.conv (.toInt .i32) (.reg 10), none, none⟩, ⟨.bin .or (.reg 8) (.reg 11), none, none⟩, ⟨.mov (.reg 12), (some 1), none⟩, ⟨.mov (.cst (.int .i64 3)), (some 2), none⟩])
  .ret)
  .skip))
 (.seq (.region [⟨.mov (.loc 0), none, none⟩, ⟨.indexS (.reg 0) (.cst (.int .i64 3)), none, none⟩, ⟨.mov (.reg 1), (some 11), none⟩])
 (.seq (.seq (.region [⟨.mov (.loc 11), none, none⟩, ⟨.bin .lss (.reg 0) (.cst (.int .u8 128)), none, none⟩, ⟨.mov (.reg 1), none, none⟩, ⟨.mov (.loc 11), none, (some (2, false))⟩, ⟨.bin .lss (.cst (.int .u8 191)) (.reg 3), none, (some (2, false))⟩, ⟨.pick (.reg 2) (.cst (.bool true)) (.reg 4), (some 19), none⟩])
 (.cond (.loc 19)
  (.seq (.region [⟨.mov (.cst (.int .i32 65533)), (some 1), none⟩, ⟨.mov (.cst (.int .i64 1)), (some 2), none⟩])
  .ret)
  .skip))
 (.seq (.region [⟨.mov (.loc 4), none, none⟩, ⟨.bin .and (.reg 0) (.cst (.int .u8 7)), none, none⟩, ⟨.conv (.toInt .i32) (.reg 1), none, none⟩, ⟨.bin .shl (.reg 2) (.cst (.int .u64 18)), none, none⟩, ⟨.mov (.loc 9), none, none⟩, ⟨.bin .and (.reg 4) (.cst (.int .u8 63)), none, none⟩, ⟨.conv (.toInt .i32) (.reg 5), none, none⟩, ⟨.bin .shl (.reg 6) (.cst (.int .u64 12)), none, none⟩, ⟨.bin .or (.reg 3) (.reg 7), none, none⟩, ⟨.mov (.loc 10), none, none⟩, ⟨.bin .and (.reg 9) (.cst (.int .u8 63)), none, none⟩, ⟨.conv (.toInt .i32) (.reg 10), none, none⟩, ⟨.bin .shl (.reg 11) (.cst (.int .u64 6)), none, none⟩, ⟨.bin .or (.reg 8) (.reg 12), none, none⟩, ⟨.mov (.loc 11), none, none⟩, ⟨.bin .and (.reg 14) (.cst (.int .u8 63)), none, none⟩, ⟨.conv (.toInt .i32) (.reg 15), none, none⟩, ⟨.bin .or (.reg 13) (.reg 16), none, none⟩, ⟨.mov (.reg 17), (some 1), none⟩, ⟨.mov (.cst (.int .i64 4)), (some 2), none⟩])
 .ret))))))))))))))))))⟩
theorem c91 : compFunc Tryd.prog opts a91 Tryd.f91 = some t91 := by kernel_rfl
/-- strings.IndexRune -/
def a92 : Ann := { slots := [0, 1, 4, 5, 6, 7, 8, 9, 10, 11, 12, 13, 14, 15, 16, 26, 33, 43, 51, 64, 98, 108, 124, 139, 143, 156, 160, 171, 175, 176, 177, 181, 183], lb := [], mu := [], trunc := [], draws := [(6, ⟨[0, 0, 3, 0, 0, 24, 63], [0, 1, 2, 3, 4, 5, 6], []⟩), (7, ⟨[0, 0, 2, 7, 0, 0, 48, 127, 255], [0, 1, 2, 3, 4, 5, 6], [(7, [], [8])]⟩), (14, ⟨[0, 0, 0, 6, 15, 0, 0, 0, 192, 480, 1023], [0, 1, 2, 3, 4, 5, 6, 7, 8, 9, 10], []⟩), (31, ⟨[0, 0, 0, 6, 15, 0, 0, 0, 192, 480, 1023], [0, 1, 2, 3, 4, 5, 6, 7, 8, 9, 10], []⟩)] }
def t92 : TFunc := ⟨2, 33, [.loc 2],
 (.seq (.region [⟨.mov (.cst (.int .i64 0)), (some 2), none⟩])
 (.block 0
  (.seq (.region [⟨.mov (.loc 1), none, none⟩, ⟨.bin .leq (.cst (.int .i32 0)) (.reg 0), none, none⟩, ⟨.mov (.reg 1), none, none⟩, ⟨.mov (.loc 1), none, (some (2, true))⟩, ⟨.bin .lss (.reg 3) (.cst (.int .i32 128)), none, (some (2, true))⟩, ⟨.pick (.reg 2) (.reg 4) (.cst (.bool false)), none, none⟩, ⟨.mov (.reg 5), (some 26), none⟩])
  (.cond (.loc 26)
   (.seq (.region [⟨.mov (.loc 0), none, none⟩, ⟨.mov (.loc 1), none, none⟩, ⟨.conv (.toInt .u8) (.reg 1), none, none⟩, ⟨.call true false 99 [(.reg 0), (.reg 2)], none, none⟩, ⟨.mov (.reg 3), (some 2), none⟩])
   .ret)
   (.seq (.region [⟨.mov (.loc 1), none, none⟩, ⟨.bin .eql (.reg 0) (.cst (.int .i32 65533)), none, none⟩, ⟨.mov (.reg 1), (some 27), none⟩])
   (.cond (.loc 27)
    (.seq (.seq (.region [⟨.mov (.loc 0), none, none⟩, ⟨.range true (.reg 0), (some 28), none⟩])
    (.block 9
     (.loop
      (.seq (.region [⟨.nextS (.loc 28), (some 29), none⟩, ⟨.extract 0 (.reg 0), (some 30), none⟩])
      (.seq (.cond (.loc 30)
       .skip
       (.exit 9))
      (.block 10
       (.seq (.region [⟨.extract 1 (.loc 29), none, none⟩, ⟨.extract 2 (.loc 29), none, none⟩, ⟨.mov (.reg 0), (some 3), none⟩, ⟨.mov (.reg 1), (some 4), none⟩])
       (.seq (.region [⟨.mov (.loc 4), none, none⟩, ⟨.bin .eql (.reg 0) (.cst (.int .i32 65533)), (some 31), none⟩])
       (.cond (.loc 31)
        (.seq (.region [⟨.mov (.loc 3), none, none⟩, ⟨.mov (.reg 0), (some 2), none⟩])
        .ret)
        .skip)))))))))
    (.seq (.region [⟨.mov (.cst (.int .i64 (-1))), (some 2), none⟩])
    .ret))
    (.seq (.region [⟨.mov (.loc 1), none, none⟩, ⟨.call true false 100 [(.reg 0)], none, none⟩, ⟨.un .not (.reg 1), none, none⟩, ⟨.mov (.reg 2), (some 32), none⟩])
    (.cond (.loc 32)
     (.seq (.region [⟨.mov (.cst (.int .i64 (-1))), (some 2), none⟩])
     .ret)
     .bad))))))))⟩
theorem c92 : compFunc Tryd.prog opts a92 Tryd.f92 = some t92 := by kernel_rfl
/-- internal/strconv.small -/
def a93 : Ann := { slots := [0, 2, 4], lb := [], mu := [], trunc := [], draws := [] }
def t93 : TFunc := ⟨1, 3, [.loc 1],
 (.seq (.region [⟨.mov (.cst (.str [])), (some 1), none⟩])
 (.seq (.seq (.region [⟨.mov (.loc 0), none, none⟩, ⟨.bin .lss (.reg 0) (.cst (.int .i64 10)), (some 2), none⟩])
 (.cond (.loc 2)
  (.seq (.region [⟨.mov (.loc 0), none, none⟩, ⟨.mov (.loc 0), none, none⟩, ⟨.bin .add (.reg 1) (.cst (.int .i64 1)), none, none⟩, ⟨.slice .str (.cst (.str [48, 49, 50, 51, 52, 53, 54, 55, 56, 57, 97, 98, 99, 100, 101, 102, 103, 104, 105, 106, 107, 108, 109, 110, 111, 112, 113, 114, 115, 116, 117, 118, 119, 120, 121, 122])) (some (.reg 0)) (some (.reg 2)) none, none, none⟩, ⟨.mov (.reg 3), (some 1), none⟩])
  .ret)
  .skip))
 (.seq (.region [⟨.mov (.loc 0), none, none⟩, ⟨.bin .mul (.reg 0) (.cst (.int .i64 2)), none, none⟩, ⟨.mov (.loc 0), none, none⟩, ⟨.bin .mul (.reg 2) (.cst (.int .i64 2)), none, none⟩, ⟨.bin .add (.reg 3) (.cst (.int .i64 2)), none, none⟩, ⟨.slice .str (.cst (.str [48, 48, 48, 49, 48, 50, 48, 51, 48, 52, 48, 53, 48, 54, 48, 55, 48, 56, 48, 57, 49, 48, 49, 49, 49, 50, 49, 51, 49, 52, 49, 53, 49, 54, 49, 55, 49, 56, 49, 57, 50, 48, 50, 49, 50, 50, 50, 51, 50, 52, 50, 53, 50, 54, 50, 55, 50, 56, 50, 57, 51, 48, 51, 49, 51, 50, 51, 51, 51, 52, 51, 53, 51, 54, 51, 55, 51, 56, 51, 57, 52, 48, 52, 49, 52, 50, 52, 51, 52, 52, 52, 53, 52, 54, 52, 55, 52, 56, 52, 57, 53, 48, 53, 49, 53, 50, 53, 51, 53, 52, 53, 53, 53, 54, 53, 55, 53, 56, 53, 57, 54, 48, 54, 49, 54, 50, 54, 51, 54, 52, 54, 53, 54, 54, 54, 55, 54, 56, 54, 57, 55, 48, 55, 49, 55, 50, 55, 51, 55, 52, 55, 53, 55, 54, 55, 55, 55, 56, 55, 57, 56, 48, 56, 49, 56, 50, 56, 51, 56, 52, 56, 53, 56, 54, 56, 55, 56, 56, 56, 57, 57, 48, 57, 49, 57, 50, 57, 51, 57, 52, 57, 53, 57, 54, 57, 55, 57, 56, 57, 57])) (some (.reg 1)) (some (.reg 4)) none, none, none⟩, ⟨.mov (.reg 5), (some 1), none⟩])
 .ret)))⟩
theorem c93 : compFunc Tryd.prog opts a93 Tryd.f93 = some t93 := by kernel_rfl
/-- internal/strconv.numDigits -/
def a94 : Ann := { slots := [0, 2, 3], lb := [], mu := [], trunc := [], draws := [] }
def t94 : TFunc := ⟨1, 3, [.loc 1],
 (.seq (.region [⟨.mov (.cst (.int .i64 0)), (some 1), none⟩])
 (.seq (.region [⟨.mov (.loc 0), none, none⟩, ⟨.call true false 104 [(.reg 0)], none, none⟩, ⟨.call true false 103 [(.reg 1)], none, none⟩, ⟨.mov (.reg 2), (some 2), none⟩])
 (.seq (.region [⟨.mov (.loc 2), none, none⟩, ⟨.mov (.loc 0), none, none⟩, ⟨.mov (.loc 2), none, none⟩, ⟨.indexAddrA 20 1 (.glob 2) (.reg 2), none, none⟩, ⟨.load1 (.reg 3), none, none⟩, ⟨.bin .geq (.reg 1) (.reg 4), none, none⟩, ⟨.call true false 105 [(.reg 5)], none, none⟩, ⟨.bin .add (.reg 0) (.reg 6), none, none⟩, ⟨.mov (.reg 7), (some 1), none⟩])
 .ret)))⟩
theorem c94 : compFunc Tryd.prog opts a94 Tryd.f94 = some t94 := by kernel_rfl
/-- internal/strconv.formatBase10 -/
def a95 : Ann := { slots := [0, 1, 4, 5, 6, 7, 8, 9, 10, 11, 12, 13, 14, 15, 16, 20, 99, 139, 161], lb := [], mu := [], trunc := [], draws := [(7, ⟨[0, 0, 2, 0, 0, 16, 0, 64, 192, 0, 512, 455, 2503, 8191, 16383], [0, 1, 2, 3, 4, 5, 6, 7, 8, 9, 10, 11], [(12, [], [13]), (14, [], [])]⟩), (8, ⟨[0, 0, 2, 0, 0, 16, 0, 64, 192, 0, 512, 455, 2503, 8191, 16383], [0, 1, 2, 3, 4, 5, 6, 7, 8, 9, 10, 11], [(12, [], [13]), (14, [], [])]⟩), (9, ⟨[0, 0, 2, 0, 0, 16, 0, 64, 192, 0, 512, 455, 2503, 8191, 16383], [0, 1, 2, 3, 4, 5, 6, 7, 8, 9, 10, 11], [(12, [], [13]), (14, [], [])]⟩), (10, ⟨[0, 0, 2, 0, 0, 16, 0, 64, 192, 0, 512, 455, 2503, 8191, 16383], [0, 1, 2, 3, 4, 5, 6, 7, 8, 9, 10, 11], [(12, [], [13]), (14, [], [])]⟩), (17, ⟨[0, 0, 2, 0, 0, 16, 0, 64, 192, 0, 512, 455, 2503, 8191, 16383], [0, 1, 2, 3, 4, 5, 6, 7, 8, 9, 10, 11], [(12, [], [13]), (14, [], [])]⟩), (18, ⟨[0, 0, 2, 0, 0, 16, 0, 64, 192, 0, 512, 455, 2503, 8191, 16383], [0, 1, 2, 3, 4, 5, 6, 7, 8, 9, 10, 11], [(12, [], [13]), (14, [], [])]⟩), (23, ⟨[0, 0, 2, 0, 0, 16, 0, 64, 192, 0, 512, 455, 2503, 8191, 16383], [0, 1, 2, 3, 4, 5, 6, 7, 8, 9, 10, 11], [(12, [], [13]), (14, [], [])]⟩)] }
def t95 : TFunc := ⟨2, 19, [],
 (.seq (.region [⟨.mov (.loc 0), none, none⟩, ⟨.len .sl (.reg 0), none, none⟩, ⟨.mov (.reg 1), (some 2), none⟩])
 (.seq (.block 0
  (.loop
   (.seq (.seq (.region [⟨.mov (.loc 2), none, none⟩, ⟨.bin .geq (.reg 0) (.cst (.int .i64 8)), (some 15), none⟩])
   (.cond (.loc 15)
    .skip
    (.exit 0)))
   (.block 1
    (.seq (.region [⟨.mov (.loc 1), none, none⟩, ⟨.bin .rem (.reg 0) (.cst (.int .u64 100000000)), none, none⟩, ⟨.conv (.toInt .u32) (.reg 1), none, none⟩, ⟨.mov (.reg 2), (some 3), none⟩])
    (.seq (.region [⟨.mov (.loc 1), none, none⟩, ⟨.bin .quo (.reg 0) (.cst (.int .u64 100000000)), none, none⟩, ⟨.mov (.reg 1), (some 1), none⟩])
    (.seq (.region [⟨.mov (.loc 3), none, none⟩, ⟨.bin .quo (.reg 0) (.cst (.int .u32 10000)), none, none⟩, ⟨.mov (.loc 3), none, none⟩, ⟨.bin .rem (.reg 2) (.cst (.int .u32 10000)), none, none⟩, ⟨.mov (.reg 1), (some 4), none⟩, ⟨.mov (.reg 3), (some 5), none⟩])
    (.seq (.region [⟨.mov (.loc 5), none, none⟩, ⟨.bin .quo (.reg 0) (.cst (.int .u32 100)), none, none⟩, ⟨.bin .mul (.reg 1) (.cst (.int .u32 2)), none, none⟩, ⟨.mov (.loc 5), none, none⟩, ⟨.bin .rem (.reg 3) (.cst (.int .u32 100)), none, none⟩, ⟨.bin .mul (.reg 4) (.cst (.int .u32 2)), none, none⟩, ⟨.mov (.reg 2), (some 6), none⟩, ⟨.mov (.reg 5), (some 7), none⟩])
    (.seq (.region [⟨.mov (.loc 4), none, none⟩, ⟨.bin .quo (.reg 0) (.cst (.int .u32 100)), none, none⟩, ⟨.bin .mul (.reg 1) (.cst (.int .u32 2)), none, none⟩, ⟨.mov (.loc 4), none, none⟩, ⟨.bin .rem (.reg 3) (.cst (.int .u32 100)), none, none⟩, ⟨.bin .mul (.reg 4) (.cst (.int .u32 2)), none, none⟩, ⟨.mov (.reg 2), (some 8), none⟩, ⟨.mov (.reg 5), (some 9), none⟩])
    (.seq (.draw [0, 1, 2, 3, 4, 5, 6, 7, 8, 9, 10, 11] [(12, [], [13]), (14, [], [])] [⟨.mov (.loc 0), none, none⟩, ⟨.mov (.loc 2), none, none⟩, ⟨.bin .sub (.reg 1) (.cst (.int .i64 1)), none, none⟩, ⟨.mov (.loc 0), none, none⟩, ⟨.mov (.loc 2), none, none⟩, ⟨.bin .sub (.reg 4) (.cst (.int .i64 2)), none, none⟩, ⟨.mov (.loc 7), none, none⟩, ⟨.bin .add (.reg 6) (.cst (.int .u32 1)), none, none⟩, ⟨.indexS (.cst (.str [48, 48, 48, 49, 48, 50, 48, 51, 48, 52, 48, 53, 48, 54, 48, 55, 48, 56, 48, 57, 49, 48, 49, 49, 49, 50, 49, 51, 49, 52, 49, 53, 49, 54, 49, 55, 49, 56, 49, 57, 50, 48, 50, 49, 50, 50, 50, 51, 50, 52, 50, 53, 50, 54, 50, 55, 50, 56, 50, 57, 51, 48, 51, 49, 51, 50, 51, 51, 51, 52, 51, 53, 51, 54, 51, 55, 51, 56, 51, 57, 52, 48, 52, 49, 52, 50, 52, 51, 52, 52, 52, 53, 52, 54, 52, 55, 52, 56, 52, 57, 53, 48, 53, 49, 53, 50, 53, 51, 53, 52, 53, 53, 53, 54, 53, 55, 53, 56, 53, 57, 54, 48, 54, 49, 54, 50, 54, 51, 54, 52, 54, 53, 54, 54, 54, 55, 54, 56, 54, 57, 55, 48, 55, 49, 55, 50, 55, 51, 55, 52, 55, 53, 55, 54, 55, 55, 55, 56, 55, 57, 56, 48, 56, 49, 56, 50, 56, 51, 56, 52, 56, 53, 56, 54, 56, 55, 56, 56, 56, 57, 57, 48, 57, 49, 57, 50, 57, 51, 57, 52, 57, 53, 57, 54, 57, 55, 57, 56, 57, 57])) (.reg 7), none, none⟩, ⟨.mov (.loc 7), none, none⟩, ⟨.indexS (.cst (.str [48, 48, 48, 49, 48, 50, 48, 51, 48, 52, 48, 53, 48, 54, 48, 55, 48, 56, 48, 57, 49, 48, 49, 49, 49, 50, 49, 51, 49, 52, 49, 53, 49, 54, 49, 55, 49, 56, 49, 57, 50, 48, 50, 49, 50, 50, 50, 51, 50, 52, 50, 53, 50, 54, 50, 55, 50, 56, 50, 57, 51, 48, 51, 49, 51, 50, 51, 51, 51, 52, 51, 53, 51, 54, 51, 55, 51, 56, 51, 57, 52, 48, 52, 49, 52, 50, 52, 51, 52, 52, 52, 53, 52, 54, 52, 55, 52, 56, 52, 57, 53, 48, 53, 49, 53, 50, 53, 51, 53, 52, 53, 53, 53, 54, 53, 55, 53, 56, 53, 57, 54, 48, 54, 49, 54, 50, 54, 51, 54, 52, 54, 53, 54, 54, 54, 55, 54, 56, 54, 57, 55, 48, 55, 49, 55, 50, 55, 51, 55, 52, 55, 53, 55, 54, 55, 55, 55, 56, 55, 57, 56, 48, 56, 49, 56, 50, 56, 51, 56, 52, 56, 53, 56, 54, 56, 55, 56, 56, 56, 57, 57, 48, 57, 49, 57, 50, 57, 51, 57, 52, 57, 53, 57, 54, 57, 55, 57, 56, 57, 57])) (.reg 9), none, none⟩, ⟨.indexAddrS 1 (.reg 0) (.reg 2), none, none⟩, ⟨.store 1 (.reg 11) (.reg 8), none, none⟩, ⟨.indexAddrS 1 (.reg 3) (.reg 5), none, none⟩, ⟨.store 1 (.reg 13) (.reg 10), none, none⟩])
    (.seq (.draw [0, 1, 2, 3, 4, 5, 6, 7, 8, 9, 10, 11] [(12, [], [13]), (14, [], [])] [⟨.mov (.loc 0), none, none⟩, ⟨.mov (.loc 2), none, none⟩, ⟨.bin .sub (.reg 1) (.cst (.int .i64 3)), none, none⟩, ⟨.mov (.loc 0), none, none⟩, ⟨.mov (.loc 2), none, none⟩, ⟨.bin .sub (.reg 4) (.cst (.int .i64 4)), none, none⟩, ⟨.mov (.loc 6), none, none⟩, ⟨.bin .add (.reg 6) (.cst (.int .u32 1)), none, none⟩, ⟨.indexS (.cst (.str [48, 48, 48, 49, 48, 50, 48, 51, 48, 52, 48, 53, 48, 54, 48, 55, 48, 56, 48, 57, 49, 48, 49, 49, 49, 50, 49, 51, 49, 52, 49, 53, 49, 54, 49, 55, 49, 56, 49, 57, 50, 48, 50, 49, 50, 50, 50, 51, 50, 52, 50, 53, 50, 54, 50, 55, 50, 56, 50, 57, 51, 48, 51, 49, 51, 50, 51, 51, 51, 52, 51, 53, 51, 54, 51, 55, 51, 56, 51, 57, 52, 48, 52, 49, 52, 50, 52, 51, 52, 52, 52, 53, 52, 54, 52, 55, 52, 56, 52, 57, 53, 48, 53, 49, 53, 50, 53, 51, 53, 52, 53, 53, 53, 54, 53, 55, 53, 56, 53, 57, 54, 48, 54, 49, 54, 50, 54, 51, 54, 52, 54, 53, 54, 54, 54, 55, 54, 56, 54, 57, 55, 48, 55, 49, 55, 50, 55, 51, 55, 52, 55, 53, 55, 54, 55, 55, 55, 56, 55, 57, 56, 48, 56, 49, 56, 50, 56, 51, 56, 52, 56, 53, 56, 54, 56, 55, 56, 56, 56, 57, 57, 48, 57, 49, 57, 50, 57, 51, 57, 52, 57, 53, 57, 54, 57, 55, 57, 56, 57, 57])) (.reg 7), none, none⟩, ⟨.mov (.loc 6), none, none⟩, ⟨.indexS (.cst (.str [48, 48, 48, 49, 48, 50, 48, 51, 48, 52, 48, 53, 48, 54, 48, 55, 48, 56, 48, 57, 49, 48, 49, 49, 49, 50, 49, 51, 49, 52, 49, 53, 49, 54, 49, 55, 49, 56, 49, 57, 50, 48, 50, 49, 50, 50, 50, 51, 50, 52, 50, 53, 50, 54, 50, 55, 50, 56, 50, 57, 51, 48, 51, 49, 51, 50, 51, 51, 51, 52, 51, 53, 51, 54, 51, 55, 51, 56, 51, 57, 52, 48, 52, 49, 52, 50, 52, 51, 52, 52, 52, 53, 52, 54, 52, 55, 52, 56, 52, 57, 53, 48, 53, 49, 53, 50, 53, 51, 53, 52, 53, 53, 53, 54, 53, 55, 53, 56, 53, 57, 54, 48, 54, 49, 54, 50, 54, 51, 54, 52, 54, 53, 54, 54, 54, 55, 54, 56, 54, 57, 55, 48, 55, 49, 55, 50, 55, 51, 55, 52, 55, 53, 55, 54, 55, 55, 55, 56, 55, 57, 56, 48, 56, 49, 56, 50, 56, 51, 56, 52, 56, 53, 56, 54, 56, 55, 56, 56, 56, 57, 57, 48, 57, 49, 57, 50, 57, 51, 57, 52, 57, 53, 57, 54, 57, 55, 57, 56, 57, 57])) (.reg 9), none, none⟩, ⟨.indexAddrS 1 (.reg 0) (.reg 2), none, none⟩, ⟨.store 1 (.reg 11) (.reg 8), none, none⟩, ⟨.indexAddrS 1 (.reg 3) (.reg 5), none, none⟩, ⟨.store 1 (.reg 13) (.reg 10), none, none⟩])
    (.seq (.draw [0, 1, 2, 3, 4, 5, 6, 7, 8, 9, 10, 11] [(12, [], [13]), (14, [], [])] [⟨.mov (.loc 0), none, none⟩, ⟨.mov (.loc 2), none, none⟩, ⟨.bin .sub (.reg 1) (.cst (.int .i64 5)), none, none⟩, ⟨.mov (.loc 0), none, none⟩, ⟨.mov (.loc 2), none, none⟩, ⟨.bin .sub (.reg 4) (.cst (.int .i64 6)), none, none⟩, ⟨.mov (.loc 9), none, none⟩, ⟨.bin .add (.reg 6) (.cst (.int .u32 1)), none, none⟩, ⟨.indexS (.cst (.str [48, 48, 48, 49, 48, 50, 48, 51, 48, 52, 48, 53, 48, 54, 48, 55, 48, 56, 48, 57, 49, 48, 49, 49, 49, 50, 49, 51, 49, 52, 49, 53, 49, 54, 49, 55, 49, 56, 49, 57, 50, 48, 50, 49, 50, 50, 50, 51, 50, 52, 50, 53, 50, 54, 50, 55, 50, 56, 50, 57, 51, 48, 51, 49, 51, 50, 51, 51, 51, 52, 51, 53, 51, 54, 51, 55, 51, 56, 51, 57, 52, 48, 52, 49, 52, 50, 52, 51, 52, 52, 52, 53, 52, 54, 52, 55, 52, 56, 52, 57, 53, 48, 53, 49, 53, 50, 53, 51, 53, 52, 53, 53, 53, 54, 53, 55, 53, 56, 53, 57, 54, 48, 54, 49, 54, 50, 54, 51, 54, 52, 54, 53, 54, 54, 54, 55, 54, 56, 54, 57, 55, 48, 55, 49, 55, 50, 55, 51, 55, 52, 55, 53, 55, 54, 55, 55, 55, 56, 55, 57, 56, 48, 56, 49, 56, 50, 56, 51, 56, 52, 56, 53, 56, 54, 56, 55, 56, 56, 56, 57, 57, 48, 57, 49, 57, 50, 57, 51, 57, 52, 57, 53, 57, 54, 57, 55, 57, 56, 57, 57])) (.reg 7), none, none⟩, ⟨.mov (.loc 9), none, none⟩, ⟨.indexS (.cst (.str [48, 48, 48, 49, 48, 50, 48, 51, 48, 52, 48, 53, 48, 54, 48, 55, 48, 56, 48, 57, 49, 48, 49, 49, 49, 50, 49, 51, 49, 52, 49, 53, 49, 54, 49, 55, 49, 56, 49, 57, 50, 48, 50, 49, 50, 50, 50, 51, 50, 52, 50, 53, 50, 54, 50, 55, 50, 56, 50, 57, 51, 48, 51, 49, 51, 50, 51, 51, 51, 52, 51, 53, 51, 54, 51, 55, 51, 56, 51, 57, 52, 48, 52, 49, 52, 50, 52, 51, 52, 52, 52, 53, 52, 54, 52, 55, 52, 56, 52, 57, 53, 48, 53, 49, 53, 50, 53, 51, 53, 52, 53, 53, 53, 54, 53, 55, 53, 56, 53, 57, 54, 48, 54, 49, 54, 50, 54, 51, 54, 52, 54, 53, 54, 54, 54, 55, 54, 56, 54, 57, 55, 48, 55, 49, 55, 50, 55, 51, 55, 52, 55, 53, 55, 54, 55, 55, 55, 56, 55, 57, 56, 48, 56, 49, 56, 50, 56, 51, 56, 52, 56, 53, 56, 54, 56, 55, 56, 56, 56, 57, 57, 48, 57, 49, 57, 50, 57, 51, 57, 52, 57, 53, 57, 54, 57, 55, 57, 56, 57, 57])) (.reg 9), none, none⟩, ⟨.indexAddrS 1 (.reg 0) (.reg 2), none, none⟩, ⟨.store 1 (.reg 11) (.reg 8), none, none⟩, ⟨.indexAddrS 1 (.reg 3) (.reg 5), none, none⟩, ⟨.store 1 (.reg 13) (.reg 10), none, none⟩])
    (.seq (.draw [0, 1, 2, 3, 4, 5, 6, 7, 8, 9, 10, 11] [(12, [], [13]), (14, [], [])] [⟨.mov (.loc 0), none, none⟩, ⟨.mov (.loc 2), none, none⟩, ⟨.bin .sub (.reg 1) (.cst (.int .i64 7)), none, none⟩, ⟨.mov (.loc 0), none, none⟩, ⟨.mov (.loc 2), none, none⟩, ⟨.bin .sub (.reg 4) (.cst (.int .i64 8)), none, none⟩, ⟨.mov (.loc 8), none, none⟩, ⟨.bin .add (.reg 6) (.cst (.int .u32 1)), none, none⟩, ⟨.indexS (.cst (.str [48, 48, 48, 49, 48, 50, 48, 51, 48, 52, 48, 53, 48, 54, 48, 55, 48, 56, 48, 57, 49, 48, 49, 49, 49, 50, 49, 51, 49, 52, 49, 53, 49, 54, 49, 55, 49, 56, 49, 57, 50, 48, 50, 49, 50, 50, 50, 51, 50, 52, 50, 53, 50, 54, 50, 55, 50, 56, 50, 57, 51, 48, 51, 49, 51, 50, 51, 51, 51, 52, 51, 53, 51, 54, 51, 55, 51, 56, 51, 57, 52, 48, 52, 49, 52, 50, 52, 51, 52, 52, 52, 53, 52, 54, 52, 55, 52, 56, 52, 57, 53, 48, 53, 49, 53, 50, 53, 51, 53, 52, 53, 53, 53, 54, 53, 55, 53, 56, 53, 57, 54, 48, 54, 49, 54, 50, 54, 51, 54, 52, 54, 53, 54, 54, 54, 55, 54, 56, 54, 57, 55, 48, 55, 49, 55, 50, 55, 51, 55, 52, 55, 53, 55, 54, 55, 55, 55, 56, 55, 57, 56, 48, 56, 49, 56, 50, 56, 51, 56, 52, 56, 53, 56, 54, 56, 55, 56, 56, 56, 57, 57, 48, 57, 49, 57, 50, 57, 51, 57, 52, 57, 53, 57, 54, 57, 55, 57, 56, 57, 57])) (.reg 7), none, none⟩, ⟨.mov (.loc 8), none, none⟩, ⟨.indexS (.cst (.str [48, 48, 48, 49, 48, 50, 48, 51, 48, 52, 48, 53, 48, 54, 48, 55, 48, 56, 48, 57, 49, 48, 49, 49, 49, 50, 49, 51, 49, 52, 49, 53, 49, 54, 49, 55, 49, 56, 49, 57, 50, 48, 50, 49, 50, 50, 50, 51, 50, 52, 50, 53, 50, 54, 50, 55, 50, 56, 50, 57, 51, 48, 51, 49, 51, 50, 51, 51, 51, 52, 51, 53, 51, 54, 51, 55, 51, 56, 51, 57, 52, 48, 52, 49, 52, 50, 52, 51, 52, 52, 52, 53, 52, 54, 52, 55, 52, 56, 52, 57, 53, 48, 53, 49, 53, 50, 53, 51, 53, 52, 53, 53, 53, 54, 53, 55, 53, 56, 53, 57, 54, 48, 54, 49, 54, 50, 54, 51, 54, 52, 54, 53, 54, 54, 54, 55, 54, 56, 54, 57, 55, 48, 55, 49, 55, 50, 55, 51, 55, 52, 55, 53, 55, 54, 55, 55, 55, 56, 55, 57, 56, 48, 56, 49, 56, 50, 56, 51, 56, 52, 56, 53, 56, 54, 56, 55, 56, 56, 56, 57, 57, 48, 57, 49, 57, 50, 57, 51, 57, 52, 57, 53, 57, 54, 57, 55, 57, 56, 57, 57])) (.reg 9), none, none⟩, ⟨.indexAddrS 1 (.reg 0) (.reg 2), none, none⟩, ⟨.store 1 (.reg 11) (.reg 8), none, none⟩, ⟨.indexAddrS 1 (.reg 3) (.reg 5), none, none⟩, ⟨.store 1 (.reg 13) (.reg 10), none, none⟩])
    (.region [⟨.mov (.loc 2), none, none⟩, ⟨.bin .sub (.reg 0) (.cst (.int .i64 8)), none, none⟩, ⟨.mov (.reg 1), (some 2), none⟩]))))))))))))))
 (.seq (.region [⟨.mov (.loc 1), none, none⟩, ⟨.conv (.toInt .u32) (.reg 0), none, none⟩, ⟨.mov (.reg 1), (some 10), none⟩])
 (.seq (.seq (.region [⟨.mov (.loc 2), none, none⟩, ⟨.bin .geq (.reg 0) (.cst (.int .i64 4)), (some 16), none⟩])
 (.cond (.loc 16)
  (.seq (.region [⟨.mov (.loc 10), none, none⟩, ⟨.bin .rem (.reg 0) (.cst (.int .u32 10000)), none, none⟩, ⟨.mov (.reg 1), (some 11), none⟩])
  (.seq (.region [⟨.mov (.loc 10), none, none⟩, ⟨.bin .quo (.reg 0) (.cst (.int .u32 10000)), none, none⟩, ⟨.mov (.reg 1), (some 10), none⟩])
  (.seq (.region [⟨.mov (.loc 11), none, none⟩, ⟨.bin .quo (.reg 0) (.cst (.int .u32 100)), none, none⟩, ⟨.bin .mul (.reg 1) (.cst (.int .u32 2)), none, none⟩, ⟨.mov (.loc 11), none, none⟩, ⟨.bin .rem (.reg 3) (.cst (.int .u32 100)), none, none⟩, ⟨.bin .mul (.reg 4) (.cst (.int .u32 2)), none, none⟩, ⟨.mov (.reg 2), (some 12), none⟩, ⟨.mov (.reg 5), (some 13), none⟩])
  (.seq (.draw [0, 1, 2, 3, 4, 5, 6, 7, 8, 9, 10, 11] [(12, [], [13]), (14, [], [])] [⟨.mov (.loc 0), none, none⟩, ⟨.mov (.loc 2), none, none⟩, ⟨.bin .sub (.reg 1) (.cst (.int .i64 1)), none, none⟩, ⟨.mov (.loc 0), none, none⟩, ⟨.mov (.loc 2), none, none⟩, ⟨.bin .sub (.reg 4) (.cst (.int .i64 2)), none, none⟩, ⟨.mov (.loc 13), none, none⟩, ⟨.bin .add (.reg 6) (.cst (.int .u32 1)), none, none⟩, ⟨.indexS (.cst (.str [48, 48, 48, 49, 48, 50, 48, 51, 48, 52, 48, 53, 48, 54, 48, 55, 48, 56, 48, 57, 49, 48, 49, 49, 49, 50, 49, 51, 49, 52, 49, 53, 49, 54, 49, 55, 49, 56, 49, 57, 50, 48, 50, 49, 50, 50, 50, 51, 50, 52, 50, 53, 50, 54, 50, 55, 50, 56, 50, 57, 51, 48, 51, 49, 51, 50, 51, 51, 51, 52, 51, 53, 51, 54, 51, 55, 51, 56, 51, 57, 52, 48, 52, 49, 52, 50, 52, 51, 52, 52, 52, 53, 52, 54, 52, 55, 52, 56, 52, 57, 53, 48, 53, 49, 53, 50, 53, 51, 53, 52, 53, 53, 53, 54, 53, 55, 53, 56, 53, 57, 54, 48, 54, 49, 54, 50, 54, 51, 54, 52, 54, 53, 54, 54, 54, 55, 54, 56, 54, 57, 55, 48, 55, 49, 55, 50, 55, 51, 55, 52, 55, 53, 55, 54, 55, 55, 55, 56, 55, 57, 56, 48, 56, 49, 56, 50, 56, 51, 56, 52, 56, 53, 56, 54, 56, 55, 56, 56, 56, 57, 57, 48, 57, 49, 57, 50, 57, 51, 57, 52, 57, 53, 57, 54, 57, 55, 57, 56, 57, 57])) (.reg 7), none, none⟩, ⟨.mov (.loc 13), none, none⟩, ⟨.indexS (.cst (.str [48, 48, 48, 49, 48, 50, 48, 51, 48, 52, 48, 53, 48, 54, 48, 55, 48, 56, 48, 57, 49, 48, 49, 49, 49, 50, 49, 51, 49, 52, 49, 53, 49, 54, 49, 55, 49, 56, 49, 57, 50, 48, 50, 49, 50, 50, 50, 51, 50, 52, 50, 53, 50, 54, 50, 55, 50, 56, 50, 57, 51, 48, 51, 49, 51, 50, 51, 51, 51, 52, 51, 53, 51, 54, 51, 55, 51, 56, 51, 57, 52, 48, 52, 49, 52, 50, 52, 51, 52, 52, 52, 53, 52, 54, 52, 55, 52, 56, 52, 57, 53, 48, 53, 49, 53, 50, 53, 51, 53, 52, 53, 53, 53, 54, 53, 55, 53, 56, 53, 57, 54, 48, 54, 49, 54, 50, 54, 51, 54, 52, 54, 53, 54, 54, 54, 55, 54, 56, 54, 57, 55, 48, 55, 49, 55, 50, 55, 51, 55, 52, 55, 53, 55, 54, 55, 55, 55, 56, 55, 57, 56, 48, 56, 49, 56, 50, 56, 51, 56, 52, 56, 53, 56, 54, 56, 55, 56, 56, 56, 57, 57, 48, 57, 49, 57, 50, 57, 51, 57, 52, 57, 53, 57, 54, 57, 55, 57, 56, 57, 57])) (.reg 9), none, none⟩, ⟨.indexAddrS 1 (.reg 0) (.reg 2), none, none⟩, ⟨.store 1 (.reg 11) (.reg 8), none, none⟩, ⟨.indexAddrS 1 (.reg 3) (.reg 5), none, none⟩, ⟨.store 1 (.reg 13) (.reg 10), none, none⟩])
  (.seq (.draw [0, 1, 2, 3, 4, 5, 6, 7, 8, 9, 10, 11] [(12, [], [13]), (14, [], [])] [⟨.mov (.loc 0), none, none⟩, ⟨.mov (.loc 2), none, none⟩, ⟨.bin .sub (.reg 1) (.cst (.int .i64 3)), none, none⟩, ⟨.mov (.loc 0), none, none⟩, ⟨.mov (.loc 2), none, none⟩, ⟨.bin .sub (.reg 4) (.cst (.int .i64 4)), none, none⟩, ⟨.mov (.loc 12), none, none⟩, ⟨.bin .add (.reg 6) (.cst (.int .u32 1)), none, none⟩, ⟨.indexS (.cst (.str [48, 48, 48, 49, 48, 50, 48, 51, 48, 52, 48, 53, 48, 54, 48, 55, 48, 56, 48, 57, 49, 48, 49, 49, 49, 50, 49, 51, 49, 52, 49, 53, 49, 54, 49, 55, 49, 56, 49, 57, 50, 48, 50, 49, 50, 50, 50, 51, 50, 52, 50, 53, 50, 54, 50, 55, 50, 56, 50, 57, 51, 48, 51, 49, 51, 50, 51, 51, 51, 52, 51, 53, 51, 54, 51, 55, 51, 56, 51, 57, 52, 48, 52, 49, 52, 50, 52, 51, 52, 52, 52, 53, 52, 54, 52, 55, 52, 56, 52, 57, 53, 48, 53, 49, 53, 50, 53, 51, 53, 52, 53, 53, 53, 54, 53, 55, 53, 56, 53, 57, 54, 48, 54, 49, 54, 50, 54, 51, 54, 52, 54, 53, 54, 54, 54, 55, 54, 56, 54, 57, 55, 48, 55, 49, 55, 50, 55, 51, 55, 52, 55, 53, 55, 54, 55, 55, 55, 56, 55, 57, 56, 48, 56, 49, 56, 50, 56, 51, 56, 52, 56, 53, 56, 54, 56, 55, 56, 56, 56, 57, 57, 48, 57, 49, 57, 50, 57, 51, 57, 52, 57, 53, 57, 54, 57, 55, 57, 56, 57, 57])) (.reg 7), none, none⟩, ⟨.mov (.loc 12), none, none⟩, ⟨.indexS (.cst (.str [48, 48, 48, 49, 48, 50, 48, 51, 48, 52, 48, 53, 48, 54, 48, 55, 48, 56, 48, 57, 49, 48, 49, 49, 49, 50, 49, 51, 49, 52, 49, 53, 49, 54, 49, 55, 49, 56, 49, 57, 50, 48, 50, 49, 50, 50, 50, 51, 50, 52, 50, 53, 50, 54, 50, 55, 50, 56, 50, 57, 51, 48, 51, 49, 51, 50, 51, 51, 51, 52, 51, 53, 51, 54, 51, 55, 51, 56, 51, 57, 52, 48, 52, 49, 52, 50, 52, 51, 52, 52, 52, 53, 52, 54, 52, 55, 52, 56, 52, 57, 53, 48, 53, 49, 53, 50, 53, 51, 53, 52, 53, 53, 53, 54, 53, 55, 53, 56, 53, 57, 54, 48, 54, 49, 54, 50, 54, 51, 54, 52, 54, 53, 54, 54, 54, 55, 54, 56, 54, 57, 55, 48, 55, 49, 55, 50, 55, 51, 55, 52, 55, 53, 55, 54, 55, 55, 55, 56, 55, 57, 56, 48, 56, 49, 56, 50, 56, 51, 56, 52, 56, 53, 56, 54, 56, 55, 56, 56, 56, 57, 57, 48, 57, 49, 57, 50, 57, 51, 57, 52, 57, 53, 57, 54, 57, 55, 57, 56, 57, 57])) (.reg 9), none, none⟩, ⟨.indexAddrS 1 (.reg 0) (.reg 2), none, none⟩, ⟨.store 1 (.reg 11) (.reg 8), none, none⟩, ⟨.indexAddrS 1 (.reg 3) (.reg 5), none, none⟩, ⟨.store 1 (.reg 13) (.reg 10), none, none⟩])
  (.region [⟨.mov (.loc 2), none, none⟩, ⟨.bin .sub (.reg 0) (.cst (.int .i64 4)), none, none⟩, ⟨.mov (.reg 1), (some 2), none⟩]))))))
  .skip))
 (.seq (.seq (.region [⟨.mov (.loc 2), none, none⟩, ⟨.bin .geq (.reg 0) (.cst (.int .i64 2)), (some 17), none⟩])
 (.cond (.loc 17)
  (.seq (.region [⟨.mov (.loc 10), none, none⟩, ⟨.bin .rem (.reg 0) (.cst (.int .u32 100)), none, none⟩, ⟨.bin .mul (.reg 1) (.cst (.int .u32 2)), none, none⟩, ⟨.mov (.reg 2), (some 14), none⟩])
  (.seq (.region [⟨.mov (.loc 10), none, none⟩, ⟨.bin .quo (.reg 0) (.cst (.int .u32 100)), none, none⟩, ⟨.mov (.reg 1), (some 10), none⟩])
  (.seq (.draw [0, 1, 2, 3, 4, 5, 6, 7, 8, 9, 10, 11] [(12, [], [13]), (14, [], [])] [⟨.mov (.loc 0), none, none⟩, ⟨.mov (.loc 2), none, none⟩, ⟨.bin .sub (.reg 1) (.cst (.int .i64 1)), none, none⟩, ⟨.mov (.loc 0), none, none⟩, ⟨.mov (.loc 2), none, none⟩, ⟨.bin .sub (.reg 4) (.cst (.int .i64 2)), none, none⟩, ⟨.mov (.loc 14), none, none⟩, ⟨.bin .add (.reg 6) (.cst (.int .u32 1)), none, none⟩, ⟨.indexS (.cst (.str [48, 48, 48, 49, 48, 50, 48, 51, 48, 52, 48, 53, 48, 54, 48, 55, 48, 56, 48, 57, 49, 48, 49, 49, 49, 50, 49, 51, 49, 52, 49, 53, 49, 54, 49, 55, 49, 56, 49, 57, 50, 48, 50, 49, 50, 50, 50, 51, 50, 52, 50, 53, 50, 54, 50, 55, 50, 56, 50, 57, 51, 48, 51, 49, 51, 50, 51, 51, 51, 52, 51, 53, 51, 54, 51, 55, 51, 56, 51, 57, 52, 48, 52, 49, 52, 50, 52, 51, 52, 52, 52, 53, 52, 54, 52, 55, 52, 56, 52, 57, 53, 48, 53, 49, 53, 50, 53, 51, 53, 52, 53, 53, 53, 54, 53, 55, 53, 56, 53, 57, 54, 48, 54, 49, 54, 50, 54, 51, 54, 52, 54, 53, 54, 54, 54, 55, 54, 56, 54, 57, 55, 48, 55, 49, 55, 50, 55, 51, 55, 52, 55, 53, 55, 54, 55, 55, 55, 56, 55, 57, 56, 48, 56, 49, 56, 50, 56, 51, 56, 52, 56, 53, 56, 54, 56, 55, 56, 56, 56, 57, 57, 48, 57, 49, 57, 50, 57, 51, 57, 52, 57, 53, 57, 54, 57, 55, 57, 56, 57, 57])) (.reg 7), none, none⟩, ⟨.mov (.loc 14), none, none⟩, ⟨.indexS (.cst (.str [48, 48, 48, 49, 48, 50, 48, 51, 48, 52, 48, 53, 48, 54, 48, 55, 48, 56, 48, 57, 49, 48, 49, 49, 49, 50, 49, 51, 49, 52, 49, 53, 49, 54, 49, 55, 49, 56, 49, 57, 50, 48, 50, 49, 50, 50, 50, 51, 50, 52, 50, 53, 50, 54, 50, 55, 50, 56, 50, 57, 51, 48, 51, 49, 51, 50, 51, 51, 51, 52, 51, 53, 51, 54, 51, 55, 51, 56, 51, 57, 52, 48, 52, 49, 52, 50, 52, 51, 52, 52, 52, 53, 52, 54, 52, 55, 52, 56, 52, 57, 53, 48, 53, 49, 53, 50, 53, 51, 53, 52, 53, 53, 53, 54, 53, 55, 53, 56, 53, 57, 54, 48, 54, 49, 54, 50, 54, 51, 54, 52, 54, 53, 54, 54, 54, 55, 54, 56, 54, 57, 55, 48, 55, 49, 55, 50, 55, 51, 55, 52, 55, 53, 55, 54, 55, 55, 55, 56, 55, 57, 56, 48, 56, 49, 56, 50, 56, 51, 56, 52, 56, 53, 56, 54, 56, 55, 56, 56, 56, 57, 57, 48, 57, 49, 57, 50, 57, 51, 57, 52, 57, 53, 57, 54, 57, 55, 57, 56, 57, 57])) (.reg 9), none, none⟩, ⟨.indexAddrS 1 (.reg 0) (.reg 2), none, none⟩, ⟨.store 1 (.reg 11) (.reg 8), none, none⟩, ⟨.indexAddrS 1 (.reg 3) (.reg 5), none, none⟩, ⟨.store 1 (.reg 13) (.reg 10), none, none⟩])
  (.region [⟨.mov (.loc 2), none, none⟩, ⟨.bin .sub (.reg 0) (.cst (.int .i64 2)), none, none⟩, ⟨.mov (.reg 1), (some 2), none⟩]))))
  .skip))
 (.seq (.region [⟨.mov (.loc 2), none, none⟩, ⟨.bin .gtr (.reg 0) (.cst (.int .i64 0)), (some 18), none⟩])
 (.cond (.loc 18)
  (.region [⟨.mov (.loc 0), none, none⟩, ⟨.mov (.loc 10), none, none⟩, ⟨.bin .add (.cst (.int .u32 48)) (.reg 1), none, none⟩, ⟨.conv (.toInt .u8) (.reg 2), none, none⟩, ⟨.indexAddrS 1 (.reg 0) (.cst (.int .i64 0)), none, none⟩, ⟨.store 1 (.reg 4) (.reg 3), none, none⟩])
  .skip)))))))⟩
theorem c95 : compFunc Tryd.prog opts a95 Tryd.f95 = some t95 := by kernel_rfl
/-- internal/strconv.formatBits -/
def a96 : Ann := { slots := [0, 1, 2, 3, 4, 10, 11, 12, 13, 14, 15, 16, 17, 18, 28, 30, 34, 46, 68, 89, 94], lb := [], mu := [], trunc := [], draws := [] }
def t96 : TFunc := ⟨5, 21, [.loc 5, .loc 6],
 (.seq (.region [⟨.mov (.cst (.sl .nil [])), (some 5), none⟩, ⟨.mov (.cst (.str [])), (some 6), none⟩])
 (.seq (.seq (.region [⟨.mov (.loc 2), none, none⟩, ⟨.bin .lss (.reg 0) (.cst (.int .i64 2)), none, none⟩, ⟨.mov (.reg 1), none, none⟩, ⟨.mov (.loc 2), none, (some (2, false))⟩, ⟨.bin .eql (.reg 3) (.cst (.int .i64 10)), none, (some (2, false))⟩, ⟨.pick (.reg 2) (.cst (.bool true)) (.reg 4), none, none⟩, ⟨.mov (.reg 5), none, none⟩, ⟨.mov (.loc 2), none, (some (6, false))⟩, ⟨.bin .gtr (.reg 7) (.cst (.int .i64 36)), none, (some (6, false))⟩, ⟨.pick (.reg 6) (.cst (.bool true)) (.reg 8), (some 14), none⟩])
 (.cond (.loc 14)
  (.region [⟨.bad, none, none⟩, ⟨.bad, none, none⟩])
  .skip))
 (.seq (.region [⟨.allocH 152 [(.int .u8 0), (.int .u8 0), (.int .u8 0), (.int .u8 0), (.int .u8 0), (.int .u8 0), (.int .u8 0), (.int .u8 0), (.int .u8 0), (.int .u8 0), (.int .u8 0), (.int .u8 0), (.int .u8 0), (.int .u8 0), (.int .u8 0), (.int .u8 0), (.int .u8 0), (.int .u8 0), (.int .u8 0), (.int .u8 0), (.int .u8 0), (.int .u8 0), (.int .u8 0), (.int .u8 0), (.int .u8 0), (.int .u8 0), (.int .u8 0), (.int .u8 0), (.int .u8 0), (.int .u8 0), (.int .u8 0), (.int .u8 0), (.int .u8 0), (.int .u8 0), (.int .u8 0), (.int .u8 0), (.int .u8 0), (.int .u8 0), (.int .u8 0), (.int .u8 0), (.int .u8 0), (.int .u8 0), (.int .u8 0), (.int .u8 0), (.int .u8 0), (.int .u8 0), (.int .u8 0), (.int .u8 0), (.int .u8 0), (.int .u8 0), (.int .u8 0), (.int .u8 0), (.int .u8 0), (.int .u8 0), (.int .u8 0), (.int .u8 0), (.int .u8 0), (.int .u8 0), (.int .u8 0), (.int .u8 0), (.int .u8 0), (.int .u8 0), (.int .u8 0), (.int .u8 0), (.int .u8 0)], (some 7), none⟩])
 (.seq (.region [⟨.mov (.cst (.int .i64 65)), (some 8), none⟩])
 (.seq (.seq (.region [⟨.mov (.loc 3), (some 15), none⟩])
 (.cond (.loc 15)
  (.region [⟨.mov (.loc 1), none, none⟩, ⟨.un .neg (.reg 0), none, none⟩, ⟨.mov (.reg 1), (some 1), none⟩])
  .skip))
 (.seq (.seq (.region [⟨.mov (.loc 2), none, none⟩, ⟨.call true false 106 [(.reg 0)], (some 16), none⟩])
 (.cond (.loc 16)
  (.seq (.region [⟨.mov (.loc 2), none, none⟩, ⟨.conv (.toInt .u64) (.reg 0), none, none⟩, ⟨.call true false 107 [(.reg 1)], none, none⟩, ⟨.conv (.toInt .u64) (.reg 2), none, none⟩, ⟨.mov (.reg 3), (some 9), none⟩])
  (.seq (.region [⟨.mov (.loc 2), none, none⟩, ⟨.conv (.toInt .u64) (.reg 0), none, none⟩, ⟨.mov (.reg 1), (some 10), none⟩])
  (.seq (.region [⟨.mov (.loc 2), none, none⟩, ⟨.conv (.toInt .u64) (.reg 0), none, none⟩, ⟨.bin .sub (.reg 1) (.cst (.int .u64 1)), none, none⟩, ⟨.mov (.reg 2), (some 11), none⟩])
  (.seq (.block 0
   (.loop
    (.seq (.seq (.region [⟨.mov (.loc 1), none, none⟩, ⟨.mov (.loc 10), none, none⟩, ⟨.bin .geq (.reg 0) (.reg 1), (some 17), none⟩])
    (.cond (.loc 17)
     .skip
     (.exit 0)))
    (.block 1
     (.seq (.region [⟨.mov (.loc 8), none, none⟩, ⟨.bin .sub (.reg 0) (.cst (.int .i64 1)), none, none⟩, ⟨.mov (.reg 1), (some 8), none⟩])
     (.seq (.region [⟨.mov (.loc 8), none, none⟩, ⟨.mov (.loc 1), none, none⟩, ⟨.mov (.loc 11), none, none⟩, ⟨.bin .and (.reg 1) (.reg 2), none, none⟩, ⟨.indexS (.cst (.str [48, 49, 50, 51, 52, 53, 54, 55, 56, 57, 97, 98, 99, 100, 101, 102, 103, 104, 105, 106, 107, 108, 109, 110, 111, 112, 113, 114, 115, 116, 117, 118, 119, 120, 121, 122])) (.reg 3), none, none⟩, ⟨.indexAddrA 65 1 (.loc 7) (.reg 0), none, none⟩, ⟨.store 1 (.reg 5) (.reg 4), none, none⟩])
     (.region [⟨.mov (.loc 1), none, none⟩, ⟨.mov (.loc 9), none, none⟩, ⟨.bin .shr (.reg 0) (.reg 1), none, none⟩, ⟨.mov (.reg 2), (some 1), none⟩])))))))
  (.seq (.region [⟨.mov (.loc 8), none, none⟩, ⟨.bin .sub (.reg 0) (.cst (.int .i64 1)), none, none⟩, ⟨.mov (.reg 1), (some 8), none⟩])
  (.region [⟨.mov (.loc 8), none, none⟩, ⟨.mov (.loc 1), none, none⟩, ⟨.indexS (.cst (.str [48, 49, 50, 51, 52, 53, 54, 55, 56, 57, 97, 98, 99, 100, 101, 102, 103, 104, 105, 106, 107, 108, 109, 110, 111, 112, 113, 114, 115, 116, 117, 118, 119, 120, 121, 122])) (.reg 1), none, none⟩, ⟨.indexAddrA 65 1 (.loc 7) (.reg 0), none, none⟩, ⟨.store 1 (.reg 3) (.reg 2), none, none⟩]))))))
  (.seq (.region [⟨.mov (.loc 2), none, none⟩, ⟨.conv (.toInt .u64) (.reg 0), none, none⟩, ⟨.mov (.reg 1), (some 12), none⟩])
  (.seq (.block 2
   (.loop
    (.seq (.seq (.region [⟨.mov (.loc 1), none, none⟩, ⟨.mov (.loc 12), none, none⟩, ⟨.bin .geq (.reg 0) (.reg 1), (some 18), none⟩])
    (.cond (.loc 18)
     .skip
     (.exit 2)))
    (.block 3
     (.seq (.region [⟨.mov (.loc 8), none, none⟩, ⟨.bin .sub (.reg 0) (.cst (.int .i64 1)), none, none⟩, ⟨.mov (.reg 1), (some 8), none⟩])
     (.seq (.region [⟨.mov (.loc 1), none, none⟩, ⟨.mov (.loc 12), none, none⟩, ⟨.bin .quo (.reg 0) (.reg 1), none, none⟩, ⟨.mov (.reg 2), (some 13), none⟩])
     (.seq (.region [⟨.mov (.loc 8), none, none⟩, ⟨.mov (.loc 1), none, none⟩, ⟨.mov (.loc 13), none, none⟩, ⟨.mov (.loc 12), none, none⟩, ⟨.bin .mul (.reg 2) (.reg 3), none, none⟩, ⟨.bin .sub (.reg 1) (.reg 4), none, none⟩, ⟨.indexS (.cst (.str [48, 49, 50, 51, 52, 53, 54, 55, 56, 57, 97, 98, 99, 100, 101, 102, 103, 104, 105, 106, 107, 108, 109, 110, 111, 112, 113, 114, 115, 116, 117, 118, 119, 120, 121, 122])) (.reg 5), none, none⟩, ⟨.indexAddrA 65 1 (.loc 7) (.reg 0), none, none⟩, ⟨.store 1 (.reg 7) (.reg 6), none, none⟩])
     (.region [⟨.mov (.loc 13), none, none⟩, ⟨.mov (.reg 0), (some 1), none⟩]))))))))
  (.seq (.region [⟨.mov (.loc 8), none, none⟩, ⟨.bin .sub (.reg 0) (.cst (.int .i64 1)), none, none⟩, ⟨.mov (.reg 1), (some 8), none⟩])
  (.region [⟨.mov (.loc 8), none, none⟩, ⟨.mov (.loc 1), none, none⟩, ⟨.indexS (.cst (.str [48, 49, 50, 51, 52, 53, 54, 55, 56, 57, 97, 98, 99, 100, 101, 102, 103, 104, 105, 106, 107, 108, 109, 110, 111, 112, 113, 114, 115, 116, 117, 118, 119, 120, 121, 122])) (.reg 1), none, none⟩, ⟨.indexAddrA 65 1 (.loc 7) (.reg 0), none, none⟩, ⟨.store 1 (.reg 3) (.reg 2), none, none⟩]))))))
 (.seq (.seq (.region [⟨.mov (.loc 3), (some 19), none⟩])
 (.cond (.loc 19)
  (.seq (.region [⟨.mov (.loc 8), none, none⟩, ⟨.bin .sub (.reg 0) (.cst (.int .i64 1)), none, none⟩, ⟨.mov (.reg 1), (some 8), none⟩])
  (.region [⟨.mov (.loc 8), none, none⟩, ⟨.indexAddrA 65 1 (.loc 7) (.reg 0), none, none⟩, ⟨.store 1 (.reg 1) (.cst (.int .u8 45)), none, none⟩]))
  .skip))
 (.seq (.seq (.region [⟨.mov (.loc 4), (some 20), none⟩])
 (.cond (.loc 20)
  (.seq (.region [⟨.mov (.loc 0), none, none⟩, ⟨.mov (.loc 8), none, none⟩, ⟨.slice (.arr 65 1) (.loc 7) (some (.reg 1)) none none, none, none⟩, ⟨.append false 1 1 5 (.reg 0) (.reg 2), none, none⟩, ⟨.mov (.reg 3), (some 5), none⟩])
  .ret)
  .skip))
 (.seq (.region [⟨.mov (.loc 8), none, none⟩, ⟨.slice (.arr 65 1) (.loc 7) (some (.reg 0)) none none, none, none⟩, ⟨.conv .bytesStr (.reg 1), none, none⟩, ⟨.mov (.reg 2), (some 6), none⟩])
 .ret)))))))))⟩
theorem c96 : compFunc Tryd.prog opts a96 Tryd.f96 = some t96 := by kernel_rfl
/-- strings.IndexByte -/
def a99 : Ann := { slots := [0, 1, 4], lb := [], mu := [], trunc := [], draws := [] }
def t99 : TFunc := ⟨2, 3, [.loc 2],
 (.seq (.region [⟨.mov (.cst (.int .i64 0)), (some 2), none⟩])
 (.seq (.region [⟨.mov (.loc 0), none, none⟩, ⟨.mov (.loc 1), none, none⟩, ⟨.call true false 108 [(.reg 0), (.reg 1)], none, none⟩, ⟨.mov (.reg 2), (some 2), none⟩])
 .ret))⟩
theorem c99 : compFunc Tryd.prog opts a99 Tryd.f99 = some t99 := by kernel_rfl
/-- unicode/utf8.ValidRune -/
def a100 : Ann := { slots := [0, 2, 3, 10], lb := [], mu := [], trunc := [], draws := [] }
def t100 : TFunc := ⟨1, 4, [.loc 1],
 (.seq (.region [⟨.mov (.cst (.bool false)), (some 1), none⟩])
 (.seq (.block 0
  (.seq (.region [⟨.mov (.loc 0), none, none⟩, ⟨.bin .leq (.cst (.int .i32 0)) (.reg 0), none, none⟩, ⟨.mov (.reg 1), none, none⟩, ⟨.mov (.loc 0), none, (some (2, true))⟩, ⟨.bin .lss (.reg 3) (.cst (.int .i32 55296)), none, (some (2, true))⟩, ⟨.pick (.reg 2) (.reg 4) (.cst (.bool false)), none, none⟩, ⟨.mov (.reg 5), (some 2), none⟩])
  (.cond (.loc 2)
   (.seq (.region [⟨.mov (.cst (.bool true)), (some 1), none⟩])
   .ret)
   (.seq (.region [⟨.mov (.loc 0), none, none⟩, ⟨.bin .lss (.cst (.int .i32 57343)) (.reg 0), none, none⟩, ⟨.mov (.reg 1), none, none⟩, ⟨.mov (.loc 0), none, (some (2, true))⟩, ⟨.bin .leq (.reg 3) (.cst (.int .i32 1114111)), none, (some (2, true))⟩, ⟨.pick (.reg 2) (.reg 4) (.cst (.bool false)), none, none⟩, ⟨.mov (.reg 5), (some 3), none⟩])
   (.cond (.loc 3)
    (.seq (.region [⟨.mov (.cst (.bool true)), (some 1), none⟩])
    .ret)
    .skip)))))
 (.seq (.region [⟨.mov (.cst (.bool false)), (some 1), none⟩])
 .ret)))⟩
theorem c100 : compFunc Tryd.prog opts a100 Tryd.f100 = some t100 := by kernel_rfl
/-- internal/strconv.log10Pow2 -/
def a103 : Ann := { slots := [0, 2], lb := [], mu := [], trunc := [], draws := [] }
def t103 : TFunc := ⟨1, 2, [.loc 1],
 (.seq (.region [⟨.mov (.cst (.int .i64 0)), (some 1), none⟩])
 (.seq (.region [⟨.mov (.loc 0), none, none⟩, ⟨.bin .mul (.reg 0) (.cst (.int .i64 78913)), none, none⟩, ⟨.bin .shr (.reg 1) (.cst (.int .u64 18)), none, none⟩, ⟨.mov (.reg 2), (some 1), none⟩])
 .ret))⟩
theorem c103 : compFunc Tryd.prog opts a103 Tryd.f103 = some t103 := by kernel_rfl
/-- math/bits.Len64 -/
def a104 : Ann := { slots := [0, 2, 4, 8, 14], lb := [], mu := [], trunc := [], draws := [] }
def t104 : TFunc := ⟨1, 5, [.loc 1],
 (.seq (.region [⟨.mov (.cst (.int .i64 0)), (some 1), none⟩])
 (.seq (.seq (.region [⟨.mov (.loc 0), none, none⟩, ⟨.bin .geq (.reg 0) (.cst (.int .u64 4294967296)), (some 2), none⟩])
 (.cond (.loc 2)
  (.seq (.region [⟨.mov (.loc 0), none, none⟩, ⟨.bin .shr (.reg 0) (.cst (.int .u64 32)), none, none⟩, ⟨.mov (.reg 1), (some 0), none⟩])
  (.region [⟨.mov (.cst (.int .i64 32)), (some 1), none⟩]))
  .skip))
 (.seq (.seq (.region [⟨.mov (.loc 0), none, none⟩, ⟨.bin .geq (.reg 0) (.cst (.int .u64 65536)), (some 3), none⟩])
 (.cond (.loc 3)
  (.seq (.region [⟨.mov (.loc 0), none, none⟩, ⟨.bin .shr (.reg 0) (.cst (.int .u64 16)), none, none⟩, ⟨.mov (.reg 1), (some 0), none⟩])
  (.region [⟨.mov (.loc 1), none, none⟩, ⟨.bin .add (.reg 0) (.cst (.int .i64 16)), none, none⟩, ⟨.mov (.reg 1), (some 1), none⟩]))
  .skip))
 (.seq (.seq (.region [⟨.mov (.loc 0), none, none⟩, ⟨.bin .geq (.reg 0) (.cst (.int .u64 256)), (some 4), none⟩])
 (.cond (.loc 4)
  (.seq (.region [⟨.mov (.loc 0), none, none⟩, ⟨.bin .shr (.reg 0) (.cst (.int .u64 8)), none, none⟩, ⟨.mov (.reg 1), (some 0), none⟩])
  (.region [⟨.mov (.loc 1), none, none⟩, ⟨.bin .add (.reg 0) (.cst (.int .i64 8)), none, none⟩, ⟨.mov (.reg 1), (some 1), none⟩]))
  .skip))
 (.seq (.region [⟨.mov (.loc 1), none, none⟩, ⟨.mov (.loc 0), none, none⟩, ⟨.conv (.toInt .u8) (.reg 1), none, none⟩, ⟨.indexS (.cst (.str [0, 1, 2, 2, 3, 3, 3, 3, 4, 4, 4, 4, 4, 4, 4, 4, 5, 5, 5, 5, 5, 5, 5, 5, 5, 5, 5, 5, 5, 5, 5, 5, 6, 6, 6, 6, 6, 6, 6, 6, 6, 6, 6, 6, 6, 6, 6, 6, 6, 6, 6, 6, 6, 6, 6, 6, 6, 6, 6, 6, 6, 6, 6, 6, 7, 7, 7, 7, 7, 7, 7, 7, 7, 7, 7, 7, 7, 7, 7, 7, 7, 7, 7, 7, 7, 7, 7, 7, 7, 7, 7, 7, 7, 7, 7, 7, 7, 7, 7, 7, 7, 7, 7, 7, 7, 7, 7, 7, 7, 7, 7, 7, 7, 7, 7, 7, 7, 7, 7, 7, 7, 7, 7, 7, 7, 7, 7, 7, 8, 8, 8, 8, 8, 8, 8, 8, 8, 8, 8, 8, 8, 8, 8, 8, 8, 8, 8, 8, 8, 8, 8, 8, 8, 8, 8, 8, 8, 8, 8, 8, 8, 8, 8, 8, 8, 8, 8, 8, 8, 8, 8, 8, 8, 8, 8, 8, 8, 8, 8, 8, 8, 8, 8, 8, 8, 8, 8, 8, 8, 8, 8, 8, 8, 8, 8, 8, 8, 8, 8, 8, 8, 8, 8, 8, 8, 8, 8, 8, 8, 8, 8, 8, 8, 8, 8, 8, 8, 8, 8, 8, 8, 8, 8, 8, 8, 8, 8, 8, 8, 8, 8, 8, 8, 8, 8, 8, 8, 8, 8, 8, 8, 8, 8, 8, 8, 8, 8, 8, 8, 8, 8, 8, 8, 8, 8, 8])) (.reg 2), none, none⟩, ⟨.conv (.toInt .i64) (.reg 3), none, none⟩, ⟨.bin .add (.reg 0) (.reg 4), none, none⟩, ⟨.mov (.reg 5), (some 1), none⟩])
 .ret)))))⟩
theorem c104 : compFunc Tryd.prog opts a104 Tryd.f104 = some t104 := by kernel_rfl
/-- internal/strconv.bool2[int] -/
def a105 : Ann := { slots := [0, 2, 3], lb := [], mu := [], trunc := [], draws := [] }
def t105 : TFunc := ⟨1, 3, [.loc 1],
 (.seq (.region [⟨.mov (.cst (.int .i64 0)), (some 1), none⟩])
 (.seq (.seq (.region [⟨.mov (.loc 0), (some 2), none⟩])
 (.cond (.loc 2)
  (.seq (.region [⟨.mov (.cst (.int .i64 1)), (some 1), none⟩])
  .ret)
  .skip))
 (.seq (.region [⟨.mov (.cst (.int .i64 0)), (some 1), none⟩])
 .ret)))⟩
theorem c105 : compFunc Tryd.prog opts a105 Tryd.f105 = some t105 := by kernel_rfl
/-- internal/strconv.isPowerOfTwo -/
def a106 : Ann := { slots := [0, 2], lb := [], mu := [], trunc := [], draws := [] }
def t106 : TFunc := ⟨1, 2, [.loc 1],
 (.seq (.region [⟨.mov (.cst (.bool false)), (some 1), none⟩])
 (.seq (.region [⟨.mov (.loc 0), none, none⟩, ⟨.mov (.loc 0), none, none⟩, ⟨.bin .sub (.reg 1) (.cst (.int .i64 1)), none, none⟩, ⟨.bin .and (.reg 0) (.reg 2), none, none⟩, ⟨.bin .eql (.reg 3) (.cst (.int .i64 0)), none, none⟩, ⟨.mov (.reg 4), (some 1), none⟩])
 .ret))⟩
theorem c106 : compFunc Tryd.prog opts a106 Tryd.f106 = some t106 := by kernel_rfl
/-- math/bits.TrailingZeros -/
def a107 : Ann := { slots := [0, 2], lb := [], mu := [], trunc := [], draws := [] }
def t107 : TFunc := ⟨1, 2, [.loc 1],
 (.seq (.region [⟨.mov (.cst (.int .i64 0)), (some 1), none⟩])
 (.seq (.cond (.cst (.bool false))
  (.seq (.region [⟨.mov (.loc 0), none, none⟩, ⟨.conv (.toInt .u32) (.reg 0), none, none⟩, ⟨.call true false 109 [(.reg 1)], none, none⟩, ⟨.mov (.reg 2), (some 1), none⟩])
  .ret)
  .skip)
 (.seq (.region [⟨.mov (.loc 0), none, none⟩, ⟨.call true false 110 [(.reg 0)], none, none⟩, ⟨.mov (.reg 1), (some 1), none⟩])
 .ret)))⟩
theorem c107 : compFunc Tryd.prog opts a107 Tryd.f107 = some t107 := by kernel_rfl
/-- internal/stringslite.IndexByte -/
def a108 : Ann := { slots := [0, 1, 4], lb := [], mu := [], trunc := [], draws := [] }
def t108 : TFunc := ⟨2, 3, [.loc 2],
 (.seq (.region [⟨.mov (.cst (.int .i64 0)), (some 2), none⟩])
 (.seq (.region [⟨.mov (.loc 0), none, none⟩, ⟨.mov (.loc 1), none, none⟩, ⟨.prim 111 [(.reg 0), (.reg 1)], none, none⟩, ⟨.mov (.reg 2), (some 2), none⟩])
 .ret))⟩
theorem c108 : compFunc Tryd.prog opts a108 Tryd.f108 = some t108 := by kernel_rfl
/-- math/bits.TrailingZeros32 -/
def a109 : Ann := { slots := [0, 2, 4], lb := [], mu := [], trunc := [], draws := [] }
def t109 : TFunc := ⟨1, 3, [.loc 1],
 (.seq (.region [⟨.mov (.cst (.int .i64 0)), (some 1), none⟩])
 (.seq (.seq (.region [⟨.mov (.loc 0), none, none⟩, ⟨.bin .eql (.reg 0) (.cst (.int .u32 0)), (some 2), none⟩])
 (.cond (.loc 2)
  (.seq (.region [⟨.mov (.cst (.int .i64 32)), (some 1), none⟩])
  .ret)
  .skip))
 (.seq (.region [⟨.mov (.loc 0), none, none⟩, ⟨.mov (.loc 0), none, none⟩, ⟨.un .neg (.reg 1), none, none⟩, ⟨.bin .and (.reg 0) (.reg 2), none, none⟩, ⟨.bin .mul (.reg 3) (.cst (.int .u32 125613361)), none, none⟩, ⟨.bin .shr (.reg 4) (.cst (.int .u64 27)), none, none⟩, ⟨.indexAddrA 32 1 (.glob 4) (.reg 5), none, none⟩, ⟨.load1 (.reg 6), none, none⟩, ⟨.conv (.toInt .i64) (.reg 7), none, none⟩, ⟨.mov (.reg 8), (some 1), none⟩])
 .ret)))⟩
theorem c109 : compFunc Tryd.prog opts a109 Tryd.f109 = some t109 := by kernel_rfl
/-- math/bits.TrailingZeros64 -/
def a110 : Ann := { slots := [0, 2, 4], lb := [], mu := [], trunc := [], draws := [] }
def t110 : TFunc := ⟨1, 3, [.loc 1],
 (.seq (.region [⟨.mov (.cst (.int .i64 0)), (some 1), none⟩])
 (.seq (.seq (.region [⟨.mov (.loc 0), none, none⟩, ⟨.bin .eql (.reg 0) (.cst (.int .u64 0)), (some 2), none⟩])
 (.cond (.loc 2)
  (.seq (.region [⟨.mov (.cst (.int .i64 64)), (some 1), none⟩])
  .ret)
  .skip))
 (.seq (.region [⟨.mov (.loc 0), none, none⟩, ⟨.mov (.loc 0), none, none⟩, ⟨.un .neg (.reg 1), none, none⟩, ⟨.bin .and (.reg 0) (.reg 2), none, none⟩, ⟨.bin .mul (.reg 3) (.cst (.int .u64 285870213051353865)), none, none⟩, ⟨.bin .shr (.reg 4) (.cst (.int .u64 58)), none, none⟩, ⟨.indexAddrA 64 1 (.glob 5) (.reg 5), none, none⟩, ⟨.load1 (.reg 6), none, none⟩, ⟨.conv (.toInt .i64) (.reg 7), none, none⟩, ⟨.mov (.reg 8), (some 1), none⟩])
 .ret)))⟩
theorem c110 : compFunc Tryd.prog opts a110 Tryd.f110 = some t110 := by kernel_rfl
def g0 : List IV := [(.int .u8 240), (.int .u8 240), (.int .u8 240), (.int .u8 240), (.int .u8 240), (.int .u8 240), (.int .u8 240), (.int .u8 240), (.int .u8 240), (.int .u8 240), (.int .u8 240), (.int .u8 240), (.int .u8 240), (.int .u8 240), (.int .u8 240), (.int .u8 240), (.int .u8 240), (.int .u8 240), (.int .u8 240), (.int .u8 240), (.int .u8 240), (.int .u8 240), (.int .u8 240), (.int .u8 240), (.int .u8 240), (.int .u8 240), (.int .u8 240), (.int .u8 240), (.int .u8 240), (.int .u8 240), (.int .u8 240), (.int .u8 240), (.int .u8 240), (.int .u8 240), (.int .u8 240), (.int .u8 240), (.int .u8 240), (.int .u8 240), (.int .u8 240), (.int .u8 240), (.int .u8 240), (.int .u8 240), (.int .u8 240), (.int .u8 240), (.int .u8 240), (.int .u8 240), (.int .u8 240), (.int .u8 240), (.int .u8 240), (.int .u8 240), (.int .u8 240), (.int .u8 240), (.int .u8 240), (.int .u8 240), (.int .u8 240), (.int .u8 240), (.int .u8 240), (.int .u8 240), (.int .u8 240), (.int .u8 240), (.int .u8 240), (.int .u8 240), (.int .u8 240), (.int .u8 240), (.int .u8 240), (.int .u8 240), (.int .u8 240), (.int .u8 240), (.int .u8 240), (.int .u8 240), (.int .u8 240), (.int .u8 240), (.int .u8 240), (.int .u8 240), (.int .u8 240), (.int .u8 240), (.int .u8 240), (.int .u8 240), (.int .u8 240), (.int .u8 240), (.int .u8 240), (.int .u8 240), (.int .u8 240), (.int .u8 240), (.int .u8 240), (.int .u8 240), (.int .u8 240), (.int .u8 240), (.int .u8 240), (.int .u8 240), (.int .u8 240), (.int .u8 240), (.int .u8 240), (.int .u8 240), (.int .u8 240), (.int .u8 240), (.int .u8 240), (.int .u8 240), (.int .u8 240), (.int .u8 240), (.int .u8 240), (.int .u8 240), (.int .u8 240), (.int .u8 240), (.int .u8 240), (.int .u8 240), (.int .u8 240), (.int .u8 240), (.int .u8 240), (.int .u8 240), (.int .u8 240), (.int .u8 240), (.int .u8 240), (.int .u8 240), (.int .u8 240), (.int .u8 240), (.int .u8 240), (.int .u8 240), (.int .u8 240), (.int .u8 240), (.int .u8 240), (.int .u8 240), (.int .u8 240), (.int .u8 240), (.int .u8 240), (.int .u8 240), (.int .u8 240), (.int .u8 240), (.int .u8 241), (.int .u8 241), (.int .u8 241), (.int .u8 241), (.int .u8 241), (.int .u8 241), (.int .u8 241), (.int .u8 241), (.int .u8 241), (.int .u8 241), (.int .u8 241), (.int .u8 241), (.int .u8 241), (.int .u8 241), (.int .u8 241), (.int .u8 241), (.int .u8 241), (.int .u8 241), (.int .u8 241), (.int .u8 241), (.int .u8 241), (.int .u8 241), (.int .u8 241), (.int .u8 241), (.int .u8 241), (.int .u8 241), (.int .u8 241), (.int .u8 241), (.int .u8 241), (.int .u8 241), (.int .u8 241), (.int .u8 241), (.int .u8 241), (.int .u8 241), (.int .u8 241), (.int .u8 241), (.int .u8 241), (.int .u8 241), (.int .u8 241), (.int .u8 241), (.int .u8 241), (.int .u8 241), (.int .u8 241), (.int .u8 241), (.int .u8 241), (.int .u8 241), (.int .u8 241), (.int .u8 241), (.int .u8 241), (.int .u8 241), (.int .u8 241), (.int .u8 241), (.int .u8 241), (.int .u8 241), (.int .u8 241), (.int .u8 241), (.int .u8 241), (.int .u8 241), (.int .u8 241), (.int .u8 241), (.int .u8 241), (.int .u8 241), (.int .u8 241), (.int .u8 241), (.int .u8 241), (.int .u8 241), (.int .u8 2), (.int .u8 2), (.int .u8 2), (.int .u8 2), (.int .u8 2), (.int .u8 2), (.int .u8 2), (.int .u8 2), (.int .u8 2), (.int .u8 2), (.int .u8 2), (.int .u8 2), (.int .u8 2), (.int .u8 2), (.int .u8 2), (.int .u8 2), (.int .u8 2), (.int .u8 2), (.int .u8 2), (.int .u8 2), (.int .u8 2), (.int .u8 2), (.int .u8 2), (.int .u8 2), (.int .u8 2), (.int .u8 2), (.int .u8 2), (.int .u8 2), (.int .u8 2), (.int .u8 2), (.int .u8 19), (.int .u8 3), (.int .u8 3), (.int .u8 3), (.int .u8 3), (.int .u8 3), (.int .u8 3), (.int .u8 3), (.int .u8 3), (.int .u8 3), (.int .u8 3), (.int .u8 3), (.int .u8 3), (.int .u8 35), (.int .u8 3), (.int .u8 3), (.int .u8 52), (.int .u8 4), (.int .u8 4), (.int .u8 4), (.int .u8 68), (.int .u8 241), (.int .u8 241), (.int .u8 241), (.int .u8 241), (.int .u8 241), (.int .u8 241), (.int .u8 241), (.int .u8 241), (.int .u8 241), (.int .u8 241), (.int .u8 241)]
def g1 : List IV := [(.int .u8 128), (.int .u8 191), (.int .u8 160), (.int .u8 191), (.int .u8 128), (.int .u8 159), (.int .u8 144), (.int .u8 191), (.int .u8 128), (.int .u8 143), (.int .u8 0), (.int .u8 0), (.int .u8 0), (.int .u8 0), (.int .u8 0), (.int .u8 0), (.int .u8 0), (.int .u8 0), (.int .u8 0), (.int .u8 0), (.int .u8 0), (.int .u8 0), (.int .u8 0), (.int .u8 0), (.int .u8 0), (.int .u8 0), (.int .u8 0), (.int .u8 0), (.int .u8 0), (.int .u8 0), (.int .u8 0), (.int .u8 0)]
def g2 : List IV := [(.int .u64 1), (.int .u64 10), (.int .u64 100), (.int .u64 1000), (.int .u64 10000), (.int .u64 100000), (.int .u64 1000000), (.int .u64 10000000), (.int .u64 100000000), (.int .u64 1000000000), (.int .u64 10000000000), (.int .u64 100000000000), (.int .u64 1000000000000), (.int .u64 10000000000000), (.int .u64 100000000000000), (.int .u64 1000000000000000), (.int .u64 10000000000000000), (.int .u64 100000000000000000), (.int .u64 1000000000000000000), (.int .u64 10000000000000000000)]
def g4 : List IV := [(.int .u8 0), (.int .u8 1), (.int .u8 28), (.int .u8 2), (.int .u8 29), (.int .u8 14), (.int .u8 24), (.int .u8 3), (.int .u8 30), (.int .u8 22), (.int .u8 20), (.int .u8 15), (.int .u8 25), (.int .u8 17), (.int .u8 4), (.int .u8 8), (.int .u8 31), (.int .u8 27), (.int .u8 13), (.int .u8 23), (.int .u8 21), (.int .u8 19), (.int .u8 16), (.int .u8 7), (.int .u8 26), (.int .u8 12), (.int .u8 18), (.int .u8 6), (.int .u8 11), (.int .u8 5), (.int .u8 10), (.int .u8 9)]
def g5 : List IV := [(.int .u8 0), (.int .u8 1), (.int .u8 56), (.int .u8 2), (.int .u8 57), (.int .u8 49), (.int .u8 28), (.int .u8 3), (.int .u8 61), (.int .u8 58), (.int .u8 42), (.int .u8 50), (.int .u8 38), (.int .u8 29), (.int .u8 17), (.int .u8 4), (.int .u8 62), (.int .u8 47), (.int .u8 59), (.int .u8 36), (.int .u8 45), (.int .u8 43), (.int .u8 51), (.int .u8 22), (.int .u8 53), (.int .u8 39), (.int .u8 33), (.int .u8 30), (.int .u8 24), (.int .u8 18), (.int .u8 12), (.int .u8 5), (.int .u8 63), (.int .u8 55), (.int .u8 48), (.int .u8 27), (.int .u8 60), (.int .u8 41), (.int .u8 37), (.int .u8 16), (.int .u8 46), (.int .u8 35), (.int .u8 44), (.int .u8 21), (.int .u8 52), (.int .u8 32), (.int .u8 23), (.int .u8 11), (.int .u8 54), (.int .u8 26), (.int .u8 40), (.int .u8 15), (.int .u8 34), (.int .u8 20), (.int .u8 31), (.int .u8 10), (.int .u8 25), (.int .u8 14), (.int .u8 19), (.int .u8 9), (.int .u8 13), (.int .u8 8), (.int .u8 7), (.int .u8 6)]
def tbl : List (Option TFunc) := [none, none, none, none, none, none, none, none, none, none, some t10, some t11, some t12, none, none, none, some t16, none, none, none, none, some t21, none, some t23, none, some t25, some t26, some t27, some t28, none, none, none, none, none, some t34, none, none, some t37, some t38, some t39, some t40, some t41, some t42, none, none, some t45, some t46, some t47, some t48, some t49, some t50, none, some t52, some t53, some t54, some t55, none, none, none, none, none, some t61, none, some t63, some t64, some t65, some t66, none, some t68, some t69, some t70, some t71, some t72, some t73, none, some t75, some t76, some t77, some t78, none, some t80, some t81, some t82, some t83, some t84, some t85, some t86, none, some t88, some t89, some t90, some t91, some t92, some t93, some t94, some t95, some t96, none, none, some t99, some t100, none, none, some t103, some t104, some t105, some t106, some t107, some t108, some t109, some t110]
def gtbl : List (Option (List IV)) := [some g0, some g1, some g2, none, some g4, some g5]
def K : TM.Prog := ⟨fun k => tbl.getD k none, fun g => gtbl.getD g none, fun f => primAt prims f⟩
/-- A function that stands in the table. -/
def Good (k : Nat) (tf : TFunc) : Prop := ∃ (A : Ann) (fn : Func), Tryd.prog.funcs[k]? = some fn ∧ fn.name ≠ "runtime.NumGoroutine" ∧ compFunc Tryd.prog opts A fn = some tf
theorem n10 : (Tryd.f10.name == "runtime.NumGoroutine") = false := by kernel_rfl
theorem q10 : Good 10 t10 := ⟨a10, Tryd.f10, Tryd.func10, fun e => by have h := n10; rw [e] at h; simp at h, c10⟩
theorem n11 : (Tryd.f11.name == "runtime.NumGoroutine") = false := by kernel_rfl
theorem q11 : Good 11 t11 := ⟨a11, Tryd.f11, Tryd.func11, fun e => by have h := n11; rw [e] at h; simp at h, c11⟩
theorem n12 : (Tryd.f12.name == "runtime.NumGoroutine") = false := by kernel_rfl
theorem q12 : Good 12 t12 := ⟨a12, Tryd.f12, Tryd.func12, fun e => by have h := n12; rw [e] at h; simp at h, c12⟩
theorem n16 : (Tryd.f16.name == "runtime.NumGoroutine") = false := by kernel_rfl
theorem q16 : Good 16 t16 := ⟨a16, Tryd.f16, Tryd.func16, fun e => by have h := n16; rw [e] at h; simp at h, c16⟩
theorem n21 : (Tryd.f21.name == "runtime.NumGoroutine") = false := by kernel_rfl
theorem q21 : Good 21 t21 := ⟨a21, Tryd.f21, Tryd.func21, fun e => by have h := n21; rw [e] at h; simp at h, c21⟩
theorem n23 : (Tryd.f23.name == "runtime.NumGoroutine") = false := by kernel_rfl
theorem q23 : Good 23 t23 := ⟨a23, Tryd.f23, Tryd.func23, fun e => by have h := n23; rw [e] at h; simp at h, c23⟩
theorem n25 : (Tryd.f25.name == "runtime.NumGoroutine") = false := by kernel_rfl
theorem q25 : Good 25 t25 := ⟨a25, Tryd.f25, Tryd.func25, fun e => by have h := n25; rw [e] at h; simp at h, c25⟩
theorem n26 : (Tryd.f26.name == "runtime.NumGoroutine") = false := by kernel_rfl
theorem q26 : Good 26 t26 := ⟨a26, Tryd.f26, Tryd.func26, fun e => by have h := n26; rw [e] at h; simp at h, c26⟩
theorem n27 : (Tryd.f27.name == "runtime.NumGoroutine") = false := by kernel_rfl
theorem q27 : Good 27 t27 := ⟨a27, Tryd.f27, Tryd.func27, fun e => by have h := n27; rw [e] at h; simp at h, c27⟩
theorem n28 : (Tryd.f28.name == "runtime.NumGoroutine") = false := by kernel_rfl
theorem q28 : Good 28 t28 := ⟨a28, Tryd.f28, Tryd.func28, fun e => by have h := n28; rw [e] at h; simp at h, c28⟩
theorem n34 : (Tryd.f34.name == "runtime.NumGoroutine") = false := by kernel_rfl
theorem q34 : Good 34 t34 := ⟨a34, Tryd.f34, Tryd.func34, fun e => by have h := n34; rw [e] at h; simp at h, c34⟩
theorem n37 : (Tryd.f37.name == "runtime.NumGoroutine") = false := by kernel_rfl
theorem q37 : Good 37 t37 := ⟨a37, Tryd.f37, Tryd.func37, fun e => by have h := n37; rw [e] at h; simp at h, c37⟩
theorem n38 : (Tryd.f38.name == "runtime.NumGoroutine") = false := by kernel_rfl
theorem q38 : Good 38 t38 := ⟨a38, Tryd.f38, Tryd.func38, fun e => by have h := n38; rw [e] at h; simp at h, c38⟩
theorem n39 : (Tryd.f39.name == "runtime.NumGoroutine") = false := by kernel_rfl
theorem q39 : Good 39 t39 := ⟨a39, Tryd.f39, Tryd.func39, fun e => by have h := n39; rw [e] at h; simp at h, c39⟩
theorem n40 : (Tryd.f40.name == "runtime.NumGoroutine") = false := by kernel_rfl
theorem q40 : Good 40 t40 := ⟨a40, Tryd.f40, Tryd.func40, fun e => by have h := n40; rw [e] at h; simp at h, c40⟩
theorem n41 : (Tryd.f41.name == "runtime.NumGoroutine") = false := by kernel_rfl
theorem q41 : Good 41 t41 := ⟨a41, Tryd.f41, Tryd.func41, fun e => by have h := n41; rw [e] at h; simp at h, c41⟩
theorem n42 : (Tryd.f42.name == "runtime.NumGoroutine") = false := by kernel_rfl
theorem q42 : Good 42 t42 := ⟨a42, Tryd.f42, Tryd.func42, fun e => by have h := n42; rw [e] at h; simp at h, c42⟩
theorem n45 : (Tryd.f45.name == "runtime.NumGoroutine") = false := by kernel_rfl
theorem q45 : Good 45 t45 := ⟨a45, Tryd.f45, Tryd.func45, fun e => by have h := n45; rw [e] at h; simp at h, c45⟩
theorem n46 : (Tryd.f46.name == "runtime.NumGoroutine") = false := by kernel_rfl
theorem q46 : Good 46 t46 := ⟨a46, Tryd.f46, Tryd.func46, fun e => by have h := n46; rw [e] at h; simp at h, c46⟩
theorem n47 : (Tryd.f47.name == "runtime.NumGoroutine") = false := by kernel_rfl
theorem q47 : Good 47 t47 := ⟨a47, Tryd.f47, Tryd.func47, fun e => by have h := n47; rw [e] at h; simp at h, c47⟩
theorem n48 : (Tryd.f48.name == "runtime.NumGoroutine") = false := by kernel_rfl
theorem q48 : Good 48 t48 := ⟨a48, Tryd.f48, Tryd.func48, fun e => by have h := n48; rw [e] at h; simp at h, c48⟩
theorem n49 : (Tryd.f49.name == "runtime.NumGoroutine") = false := by kernel_rfl
theorem q49 : Good 49 t49 := ⟨a49, Tryd.f49, Tryd.func49, fun e => by have h := n49; rw [e] at h; simp at h, c49⟩
theorem n50 : (Tryd.f50.name == "runtime.NumGoroutine") = false := by kernel_rfl
theorem q50 : Good 50 t50 := ⟨a50, Tryd.f50, Tryd.func50, fun e => by have h := n50; rw [e] at h; simp at h, c50⟩
theorem n52 : (Tryd.f52.name == "runtime.NumGoroutine") = false := by kernel_rfl
theorem q52 : Good 52 t52 := ⟨a52, Tryd.f52, Tryd.func52, fun e => by have h := n52; rw [e] at h; simp at h, c52⟩
theorem n53 : (Tryd.f53.name == "runtime.NumGoroutine") = false := by kernel_rfl
theorem q53 : Good 53 t53 := ⟨a53, Tryd.f53, Tryd.func53, fun e => by have h := n53; rw [e] at h; simp at h, c53⟩
theorem n54 : (Tryd.f54.name == "runtime.NumGoroutine") = false := by kernel_rfl
theorem q54 : Good 54 t54 := ⟨a54, Tryd.f54, Tryd.func54, fun e => by have h := n54; rw [e] at h; simp at h, c54⟩
theorem n55 : (Tryd.f55.name == "runtime.NumGoroutine") = false := by kernel_rfl
theorem q55 : Good 55 t55 := ⟨a55, Tryd.f55, Tryd.func55, fun e => by have h := n55; rw [e] at h; simp at h, c55⟩
theorem n61 : (Tryd.f61.name == "runtime.NumGoroutine") = false := by kernel_rfl
theorem q61 : Good 61 t61 := ⟨a61, Tryd.f61, Tryd.func61, fun e => by have h := n61; rw [e] at h; simp at h, c61⟩
theorem n63 : (Tryd.f63.name == "runtime.NumGoroutine") = false := by kernel_rfl
theorem q63 : Good 63 t63 := ⟨a63, Tryd.f63, Tryd.func63, fun e => by have h := n63; rw [e] at h; simp at h, c63⟩
theorem n64 : (Tryd.f64.name == "runtime.NumGoroutine") = false := by kernel_rfl
theorem q64 : Good 64 t64 := ⟨a64, Tryd.f64, Tryd.func64, fun e => by have h := n64; rw [e] at h; simp at h, c64⟩
theorem n65 : (Tryd.f65.name == "runtime.NumGoroutine") = false := by kernel_rfl
theorem q65 : Good 65 t65 := ⟨a65, Tryd.f65, Tryd.func65, fun e => by have h := n65; rw [e] at h; simp at h, c65⟩
theorem n66 : (Tryd.f66.name == "runtime.NumGoroutine") = false := by kernel_rfl
theorem q66 : Good 66 t66 := ⟨a66, Tryd.f66, Tryd.func66, fun e => by have h := n66; rw [e] at h; simp at h, c66⟩
theorem n68 : (Tryd.f68.name == "runtime.NumGoroutine") = false := by kernel_rfl
theorem q68 : Good 68 t68 := ⟨a68, Tryd.f68, Tryd.func68, fun e => by have h := n68; rw [e] at h; simp at h, c68⟩
theorem n69 : (Tryd.f69.name == "runtime.NumGoroutine") = false := by kernel_rfl
theorem q69 : Good 69 t69 := ⟨a69, Tryd.f69, Tryd.func69, fun e => by have h := n69; rw [e] at h; simp at h, c69⟩
theorem n70 : (Tryd.f70.name == "runtime.NumGoroutine") = false := by kernel_rfl
theorem q70 : Good 70 t70 := ⟨a70, Tryd.f70, Tryd.func70, fun e => by have h := n70; rw [e] at h; simp at h, c70⟩
theorem n71 : (Tryd.f71.name == "runtime.NumGoroutine") = false := by kernel_rfl
theorem q71 : Good 71 t71 := ⟨a71, Tryd.f71, Tryd.func71, fun e => by have h := n71; rw [e] at h; simp at h, c71⟩
theorem n72 : (Tryd.f72.name == "runtime.NumGoroutine") = false := by kernel_rfl
theorem q72 : Good 72 t72 := ⟨a72, Tryd.f72, Tryd.func72, fun e => by have h := n72; rw [e] at h; simp at h, c72⟩
theorem n73 : (Tryd.f73.name == "runtime.NumGoroutine") = false := by kernel_rfl
theorem q73 : Good 73 t73 := ⟨a73, Tryd.f73, Tryd.func73, fun e => by have h := n73; rw [e] at h; simp at h, c73⟩
theorem n75 : (Tryd.f75.name == "runtime.NumGoroutine") = false := by kernel_rfl
theorem q75 : Good 75 t75 := ⟨a75, Tryd.f75, Tryd.func75, fun e => by have h := n75; rw [e] at h; simp at h, c75⟩
theorem n76 : (Tryd.f76.name == "runtime.NumGoroutine") = false := by kernel_rfl
theorem q76 : Good 76 t76 := ⟨a76, Tryd.f76, Tryd.func76, fun e => by have h := n76; rw [e] at h; simp at h, c76⟩
theorem n77 : (Tryd.f77.name == "runtime.NumGoroutine") = false := by kernel_rfl
theorem q77 : Good 77 t77 := ⟨a77, Tryd.f77, Tryd.func77, fun e => by have h := n77; rw [e] at h; simp at h, c77⟩
theorem n78 : (Tryd.f78.name == "runtime.NumGoroutine") = false := by kernel_rfl
theorem q78 : Good 78 t78 := ⟨a78, Tryd.f78, Tryd.func78, fun e => by have h := n78; rw [e] at h; simp at h, c78⟩
theorem n80 : (Tryd.f80.name == "runtime.NumGoroutine") = false := by kernel_rfl
theorem q80 : Good 80 t80 := ⟨a80, Tryd.f80, Tryd.func80, fun e => by have h := n80; rw [e] at h; simp at h, c80⟩
theorem n81 : (Tryd.f81.name == "runtime.NumGoroutine") = false := by kernel_rfl
theorem q81 : Good 81 t81 := ⟨a81, Tryd.f81, Tryd.func81, fun e => by have h := n81; rw [e] at h; simp at h, c81⟩
theorem n82 : (Tryd.f82.name == "runtime.NumGoroutine") = false := by kernel_rfl
theorem q82 : Good 82 t82 := ⟨a82, Tryd.f82, Tryd.func82, fun e => by have h := n82; rw [e] at h; simp at h, c82⟩
theorem n83 : (Tryd.f83.name == "runtime.NumGoroutine") = false := by kernel_rfl
theorem q83 : Good 83 t83 := ⟨a83, Tryd.f83, Tryd.func83, fun e => by have h := n83; rw [e] at h; simp at h, c83⟩
theorem n84 : (Tryd.f84.name == "runtime.NumGoroutine") = false := by kernel_rfl
theorem q84 : Good 84 t84 := ⟨a84, Tryd.f84, Tryd.func84, fun e => by have h := n84; rw [e] at h; simp at h, c84⟩
theorem n85 : (Tryd.f85.name == "runtime.NumGoroutine") = false := by kernel_rfl
theorem q85 : Good 85 t85 := ⟨a85, Tryd.f85, Tryd.func85, fun e => by have h := n85; rw [e] at h; simp at h, c85⟩
theorem n86 : (Tryd.f86.name == "runtime.NumGoroutine") = false := by kernel_rfl
theorem q86 : Good 86 t86 := ⟨a86, Tryd.f86, Tryd.func86, fun e => by have h := n86; rw [e] at h; simp at h, c86⟩
theorem n88 : (Tryd.f88.name == "runtime.NumGoroutine") = false := by kernel_rfl
theorem q88 : Good 88 t88 := ⟨a88, Tryd.f88, Tryd.func88, fun e => by have h := n88; rw [e] at h; simp at h, c88⟩
theorem n89 : (Tryd.f89.name == "runtime.NumGoroutine") = false := by kernel_rfl
theorem q89 : Good 89 t89 := ⟨a89, Tryd.f89, Tryd.func89, fun e => by have h := n89; rw [e] at h; simp at h, c89⟩
theorem n90 : (Tryd.f90.name == "runtime.NumGoroutine") = false := by kernel_rfl
theorem q90 : Good 90 t90 := ⟨a90, Tryd.f90, Tryd.func90, fun e => by have h := n90; rw [e] at h; simp at h, c90⟩
theorem n91 : (Tryd.f91.name == "runtime.NumGoroutine") = false := by kernel_rfl
theorem q91 : Good 91 t91 := ⟨a91, Tryd.f91, Tryd.func91, fun e => by have h := n91; rw [e] at h; simp at h, c91⟩
theorem n92 : (Tryd.f92.name == "runtime.NumGoroutine") = false := by kernel_rfl
theorem q92 : Good 92 t92 := ⟨a92, Tryd.f92, Tryd.func92, fun e => by have h := n92; rw [e] at h; simp at h, c92⟩
theorem n93 : (Tryd.f93.name == "runtime.NumGoroutine") = false := by kernel_rfl
theorem q93 : Good 93 t93 := ⟨a93, Tryd.f93, Tryd.func93, fun e => by have h := n93; rw [e] at h; simp at h, c93⟩
theorem n94 : (Tryd.f94.name == "runtime.NumGoroutine") = false := by kernel_rfl
theorem q94 : Good 94 t94 := ⟨a94, Tryd.f94, Tryd.func94, fun e => by have h := n94; rw [e] at h; simp at h, c94⟩
theorem n95 : (Tryd.f95.name == "runtime.NumGoroutine") = false := by kernel_rfl
theorem q95 : Good 95 t95 := ⟨a95, Tryd.f95, Tryd.func95, fun e => by have h := n95; rw [e] at h; simp at h, c95⟩
theorem n96 : (Tryd.f96.name == "runtime.NumGoroutine") = false := by kernel_rfl
theorem q96 : Good 96 t96 := ⟨a96, Tryd.f96, Tryd.func96, fun e => by have h := n96; rw [e] at h; simp at h, c96⟩
theorem n99 : (Tryd.f99.name == "runtime.NumGoroutine") = false := by kernel_rfl
theorem q99 : Good 99 t99 := ⟨a99, Tryd.f99, Tryd.func99, fun e => by have h := n99; rw [e] at h; simp at h, c99⟩
theorem n100 : (Tryd.f100.name == "runtime.NumGoroutine") = false := by kernel_rfl
theorem q100 : Good 100 t100 := ⟨a100, Tryd.f100, Tryd.func100, fun e => by have h := n100; rw [e] at h; simp at h, c100⟩
theorem n103 : (Tryd.f103.name == "runtime.NumGoroutine") = false := by kernel_rfl
theorem q103 : Good 103 t103 := ⟨a103, Tryd.f103, Tryd.func103, fun e => by have h := n103; rw [e] at h; simp at h, c103⟩
theorem n104 : (Tryd.f104.name == "runtime.NumGoroutine") = false := by kernel_rfl
theorem q104 : Good 104 t104 := ⟨a104, Tryd.f104, Tryd.func104, fun e => by have h := n104; rw [e] at h; simp at h, c104⟩
theorem n105 : (Tryd.f105.name == "runtime.NumGoroutine") = false := by kernel_rfl
theorem q105 : Good 105 t105 := ⟨a105, Tryd.f105, Tryd.func105, fun e => by have h := n105; rw [e] at h; simp at h, c105⟩
theorem n106 : (Tryd.f106.name == "runtime.NumGoroutine") = false := by kernel_rfl
theorem q106 : Good 106 t106 := ⟨a106, Tryd.f106, Tryd.func106, fun e => by have h := n106; rw [e] at h; simp at h, c106⟩
theorem n107 : (Tryd.f107.name == "runtime.NumGoroutine") = false := by kernel_rfl
theorem q107 : Good 107 t107 := ⟨a107, Tryd.f107, Tryd.func107, fun e => by have h := n107; rw [e] at h; simp at h, c107⟩
theorem n108 : (Tryd.f108.name == "runtime.NumGoroutine") = false := by kernel_rfl
theorem q108 : Good 108 t108 := ⟨a108, Tryd.f108, Tryd.func108, fun e => by have h := n108; rw [e] at h; simp at h, c108⟩
theorem n109 : (Tryd.f109.name == "runtime.NumGoroutine") = false := by kernel_rfl
theorem q109 : Good 109 t109 := ⟨a109, Tryd.f109, Tryd.func109, fun e => by have h := n109; rw [e] at h; simp at h, c109⟩
theorem n110 : (Tryd.f110.name == "runtime.NumGoroutine") = false := by kernel_rfl
theorem q110 : Good 110 t110 := ⟨a110, Tryd.f110, Tryd.func110, fun e => by have h := n110; rw [e] at h; simp at h, c110⟩
theorem good : AllAt Good 0 tbl := ⟨q10, q11, q12, q16, q21, q23, q25, q26, q27, q28, q34, q37, q38, q39, q40, q41, q42, q45, q46, q47, q48, q49, q50, q52, q53, q54, q55, q61, q63, q64, q65, q66, q68, q69, q70, q71, q72, q73, q75, q76, q77, q78, q80, q81, q82, q83, q84, q85, q86, q88, q89, q90, q91, q92, q93, q94, q95, q96, q99, q100, q103, q104, q105, q106, q107, q108, q109, q110, trivial⟩
theorem kok : KOK Tryd.prog opts K := ⟨fun k tf h => allAt_get good k tf h, fun f p h => primAt_ok (prims_ok opts K) h, by kernel_rfl⟩
end Go.Proofs.YtdbffhgfjmhaiaaDoor
