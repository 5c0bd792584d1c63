/- The functions of this seat, compiled for the evaluator TM; each held against the translation by the kernel. By program. Condition: none. -/
import Derived.Test.YtookmpaholmmfaaGreatDoorPrim
set_option maxRecDepth 100000
set_option linter.unusedVariables false
namespace Go.Proofs.YtookmpaholmmfaaGreatDoor
open Go Go.TM
def opts : Opts := ⟨fun f => ([3, 4, 5, 7, 9, 10, 12, 13, 14, 15, 17, 19, 20, 21, 23, 24, 25, 26, 27, 28, 29, 30, 31, 32, 33, 34, 35, 36, 37, 38, 39, 40, 41, 42, 43, 44, 45, 46, 47, 48, 49, 54, 55, 56, 58, 59, 60, 61, 63, 64, 65, 66, 67, 68, 69, 70, 71, 72, 73, 74, 76, 78, 79, 80, 81, 82, 83, 84, 85, 86, 87, 88, 89, 93, 94, 95, 96, 97, 98, 99, 100, 101, 102, 103, 105, 107, 112, 113, 114, 115, 120, 122, 123, 124, 129, 131, 132, 134, 135, 136, 139, 142, 143, 144, 145, 146, 147, 149, 153, 154, 155, 163, 167, 169, 171, 174, 175, 176, 177, 178, 179, 181, 182, 189, 191, 193, 195, 196, 197, 201, 210, 211, 212, 213, 214, 215, 216, 217] : List Nat).contains f, fun f => ([80, 113, 165] : List Nat).contains f⟩
def a4 : Ann := { slots := [0, 1, 2, 3, 4, 5, 11, 17, 26], lb := [3, 2], mu := [], trunc := [], draws := [(8, ⟨[0, 0, 3, 0, 0, 31, 63, 127, 255, 255, 1023, 2047, 4095, 8191, 16383, 32767], [0, 1, 3, 4], [(2, [3, 4], []), (5, [], [6, 7, 8, 9]), (10, [], [11, 12]), (13, [], [14, 15])]⟩)] }
def t4L0 : TCode := (.seq (.seq (.region [⟨.mov (.loc 5), none, none⟩, ⟨.fieldAddr 7 (.loc 2), none, none⟩, ⟨.load1 (.reg 1), none, none⟩, ⟨.len .sl (.reg 2), none, none⟩, ⟨.bin .lss (.reg 0) (.reg 3), (some 7), none⟩])
   (.cond (.loc 7)
    .skip
    (.exit 0)))
   (.seq (.block 1
    (.seq (.region [⟨.fieldAddr 7 (.loc 2), none, none⟩, ⟨.load1 (.reg 0), none, none⟩, ⟨.mov (.loc 5), none, none⟩, ⟨.indexAddrS 5 (.reg 1) (.reg 2), none, none⟩, ⟨.loadN 5 (.reg 3), none, none⟩, ⟨.call true false 18 [(.reg 4)], none, none⟩, ⟨.un .not (.reg 5), (some 8), none⟩])
    (.cond (.loc 8)
     (.seq (.region [⟨.call true false 11 [], none, none⟩, ⟨.mov (.reg 0), (some 4), none⟩])
     .ret)
     .skip)))
   (.region [⟨.mov (.loc 5), none, none⟩, ⟨.bin .add (.reg 0) (.cst (.int .i64 1)), none, none⟩, ⟨.mov (.reg 1), (some 5), none⟩])))
def t4 : TFunc := ⟨2, 9, [.loc 4],
 (.seq (.region [⟨.boxL 2 (.loc 0), none, none⟩, ⟨.boxL 3 (.loc 1), none, none⟩, ⟨.mov (.cst (.bool false)), (some 4), none⟩])
 (.seq (.seq (.region [⟨.loadN 8 (.loc 2), none, none⟩, ⟨.call false false 9 [(.reg 0)], none, none⟩, ⟨.mov (.reg 1), none, none⟩, ⟨.loadN 8 (.loc 3), none, (some (2, false))⟩, ⟨.call false false 9 [(.reg 3)], none, (some (2, false))⟩, ⟨.pick (.reg 2) (.cst (.bool true)) (.reg 4), (some 6), none⟩])
 (.cond (.loc 6)
  (.seq (.region [⟨.call true false 11 [], none, none⟩, ⟨.mov (.reg 0), (some 4), none⟩])
  .ret)
  .skip))
 (.seq (.seq (.region [⟨.mov (.cst (.int .i64 0)), (some 5), none⟩])
 (.block 0
  (.loop t4L0)))
 (.seq (.draw [0, 1, 3, 4] [(2, [3, 4], []), (5, [], [6, 7, 8, 9]), (10, [], [11, 12]), (13, [], [14, 15])] [⟨.loadN 8 (.loc 2), none, none⟩, ⟨.loadN 8 (.loc 3), none, none⟩, ⟨.call false false 19 [(.reg 0), (.reg 1)], none, none⟩, ⟨.loadN 8 (.loc 2), none, none⟩, ⟨.loadN 8 (.loc 3), none, none⟩, ⟨.call false false 20 [(.reg 3), (.reg 4)], none, none⟩, ⟨.eqB false .bool (.reg 2) (.reg 5), none, none⟩, ⟨.mov (.reg 6), none, none⟩, ⟨.loadN 8 (.loc 2), none, (some (7, true))⟩, ⟨.loadN 8 (.loc 2), none, (some (7, true))⟩, ⟨.call false false 19 [(.reg 8), (.reg 9)], none, (some (7, true))⟩, ⟨.pick (.reg 7) (.reg 10) (.cst (.bool false)), none, none⟩, ⟨.mov (.reg 11), none, none⟩, ⟨.call true false 11 [], none, (some (12, true))⟩, ⟨.pick (.reg 12) (.reg 13) (.cst (.bool false)), none, none⟩, ⟨.mov (.reg 14), (some 4), none⟩])
 .ret))))⟩
theorem c4 : compFunc Tryz.prog opts a4 Tryz.f4 = some t4 := by kernel_rfl
def a9 : Ann := { slots := [0, 1, 2, 3, 12, 21], lb := [1], mu := [], trunc := [], draws := [] }
def t9L0 : TCode := (.seq (.seq (.region [⟨.mov (.loc 3), none, none⟩, ⟨.fieldAddr 7 (.loc 1), none, none⟩, ⟨.load1 (.reg 1), none, none⟩, ⟨.len .sl (.reg 2), none, none⟩, ⟨.bin .lss (.reg 0) (.reg 3), none, none⟩, ⟨.mov (.reg 4), none, none⟩, ⟨.mov (.loc 3), none, (some (5, true))⟩, ⟨.bin .lss (.reg 6) (.cst (.int .i64 30)), none, (some (5, true))⟩, ⟨.pick (.reg 5) (.reg 7) (.cst (.bool false)), (some 4), none⟩])
   (.cond (.loc 4)
    .skip
    (.exit 0)))
   (.seq (.block 1
    (.seq (.region [⟨.fieldAddr 7 (.loc 1), none, none⟩, ⟨.load1 (.reg 0), none, none⟩, ⟨.mov (.loc 3), none, none⟩, ⟨.indexAddrS 5 (.reg 1) (.reg 2), none, none⟩, ⟨.loadN 5 (.reg 3), none, none⟩, ⟨.call false false 40 [(.reg 4), (.cst (.int .i64 60))], none, none⟩, ⟨.bin .gtr (.reg 5) (.cst (.int .i64 200)), (some 5), none⟩])
    (.cond (.loc 5)
     (.seq (.region [⟨.mov (.cst (.bool true)), (some 2), none⟩])
     .ret)
     .skip)))
   (.region [⟨.mov (.loc 3), none, none⟩, ⟨.bin .add (.reg 0) (.cst (.int .i64 1)), none, none⟩, ⟨.mov (.reg 1), (some 3), none⟩])))
def t9 : TFunc := ⟨1, 6, [.loc 2],
 (.seq (.region [⟨.boxL 1 (.loc 0), none, none⟩, ⟨.mov (.cst (.bool false)), (some 2), none⟩])
 (.seq (.seq (.region [⟨.mov (.cst (.int .i64 0)), (some 3), none⟩])
 (.block 0
  (.loop t9L0)))
 (.seq (.region [⟨.fieldAddr 0 (.loc 1), none, none⟩, ⟨.loadN 5 (.reg 0), none, none⟩, ⟨.call false false 10 [(.reg 1), (.cst (.int .i64 4100))], none, none⟩, ⟨.bin .gtr (.reg 2) (.cst (.int .i64 4500)), none, none⟩, ⟨.mov (.reg 3), none, none⟩, ⟨.fieldAddr 7 (.loc 1), none, (some (4, false))⟩, ⟨.load1 (.reg 5), none, (some (4, false))⟩, ⟨.len .sl (.reg 6), none, (some (4, false))⟩, ⟨.bin .gtr (.reg 7) (.cst (.int .i64 20)), none, (some (4, false))⟩, ⟨.pick (.reg 4) (.cst (.bool true)) (.reg 8), none, none⟩, ⟨.mov (.reg 9), (some 2), none⟩])
 .ret)))⟩
theorem c9 : compFunc Tryz.prog opts a9 Tryz.f9 = some t9 := by kernel_rfl
def a10 : Ann := { slots := [0, 1, 2, 4, 5, 6, 8, 21], lb := [2], mu := [], trunc := [], draws := [] }
def t10L0 : TCode := (.seq (.seq (.region [⟨.mov (.loc 5), none, none⟩, ⟨.fieldAddr 4 (.loc 2), none, none⟩, ⟨.load1 (.reg 1), none, none⟩, ⟨.len .sl (.reg 2), none, none⟩, ⟨.bin .lss (.reg 0) (.reg 3), none, none⟩, ⟨.mov (.reg 4), none, none⟩, ⟨.mov (.loc 4), none, (some (5, true))⟩, ⟨.bin .lss (.reg 6) (.cst (.int .i64 9000)), none, (some (5, true))⟩, ⟨.pick (.reg 5) (.reg 7) (.cst (.bool false)), (some 7), none⟩])
   (.cond (.loc 7)
    .skip
    (.exit 0)))
   (.seq (.block 1
    (.region [⟨.mov (.loc 4), none, none⟩, ⟨.fieldAddr 4 (.loc 2), none, none⟩, ⟨.load1 (.reg 1), none, none⟩, ⟨.mov (.loc 5), none, none⟩, ⟨.indexAddrS 5 (.reg 2) (.reg 3), none, none⟩, ⟨.loadN 5 (.reg 4), none, none⟩, ⟨.mov (.loc 1), none, none⟩, ⟨.bin .sub (.reg 6) (.cst (.int .i64 1)), none, none⟩, ⟨.call false false 10 [(.reg 5), (.reg 7)], none, none⟩, ⟨.bin .add (.reg 0) (.reg 8), none, none⟩, ⟨.mov (.reg 9), (some 4), none⟩]))
   (.region [⟨.mov (.loc 5), none, none⟩, ⟨.bin .add (.reg 0) (.cst (.int .i64 1)), none, none⟩, ⟨.mov (.reg 1), (some 5), none⟩])))
def t10 : TFunc := ⟨2, 8, [.loc 3],
 (.seq (.region [⟨.boxL 2 (.loc 0), none, none⟩, ⟨.mov (.cst (.int .i64 0)), (some 3), none⟩])
 (.seq (.seq (.region [⟨.mov (.loc 1), none, none⟩, ⟨.bin .eql (.reg 0) (.cst (.int .i64 0)), (some 6), none⟩])
 (.cond (.loc 6)
  (.seq (.region [⟨.mov (.cst (.int .i64 9000)), (some 3), none⟩])
  .ret)
  .skip))
 (.seq (.region [⟨.fieldAddr 2 (.loc 2), none, none⟩, ⟨.load1 (.reg 0), none, none⟩, ⟨.len .sl (.reg 1), none, none⟩, ⟨.bin .add (.cst (.int .i64 1)) (.reg 2), none, none⟩, ⟨.mov (.reg 3), (some 4), none⟩])
 (.seq (.seq (.region [⟨.mov (.cst (.int .i64 0)), (some 5), none⟩])
 (.block 0
  (.loop t10L0)))
 (.seq (.region [⟨.mov (.loc 4), none, none⟩, ⟨.mov (.reg 0), (some 3), none⟩])
 .ret)))))⟩
theorem c10 : compFunc Tryz.prog opts a10 Tryz.f10 = some t10 := by kernel_rfl
def a11 : Ann := { slots := [0, 1], lb := [1], mu := [], trunc := [], draws := [] }
def t11 : TFunc := ⟨0, 2, [.loc 0],
 (.seq (.region [⟨.mov (.cst (.bool false)), (some 0), none⟩])
 (.seq (.region [⟨.call false false 34 [(.cst (.int .i64 1))], none, none⟩, ⟨.call false false 33 [(.reg 0)], none, none⟩, ⟨.allocL 1 [(.int .i64 0), (.int .i64 0), (.sl .nil []), (.bool false), (.sl .nil []), (.int .i64 0), (.int .i64 0), (.sl .nil [])], none, none⟩, ⟨.store 8 (.reg 2) (.reg 1), none, none⟩])
 (.seq (.region [⟨.loadN 8 (.loc 1), none, none⟩, ⟨.call false false 13 [(.reg 0)], none, none⟩, ⟨.bin .eql (.reg 1) (.cst (.int .i64 0)), none, none⟩, ⟨.mov (.reg 2), none, none⟩, ⟨.fieldAddr 0 (.loc 1), none, (some (3, true))⟩, ⟨.loadN 5 (.reg 4), none, (some (3, true))⟩, ⟨.call false false 41 [(.reg 5)], none, (some (3, true))⟩, ⟨.bin .eql (.reg 6) (.cst (.int .i64 12)), none, (some (3, true))⟩, ⟨.pick (.reg 3) (.reg 7) (.cst (.bool false)), none, none⟩, ⟨.mov (.reg 8), none, none⟩, ⟨.call false false 36 [], none, (some (9, true))⟩, ⟨.call false false 38 [(.reg 10)], none, (some (9, true))⟩, ⟨.bin .eql (.reg 11) (.cst (.str [40, 108, 97, 109, 98, 100, 97, 32, 40, 118, 48, 32, 46, 32, 118, 49, 41, 32, 40, 105, 102, 32, 118, 48, 32, 40, 99, 97, 108, 108, 32, 103, 48, 32, 118, 49, 41, 32, 99, 48, 41, 41])), none, (some (9, true))⟩, ⟨.pick (.reg 9) (.reg 12) (.cst (.bool false)), none, none⟩, ⟨.mov (.reg 13), none, none⟩, ⟨.call false false 36 [], none, (some (14, true))⟩, ⟨.field 4 1 false (.reg 15), none, (some (14, true))⟩, ⟨.indexAddrS 5 (.reg 16) (.cst (.int .i64 0)), none, (some (14, true))⟩, ⟨.loadN 5 (.reg 17), none, (some (14, true))⟩, ⟨.call false false 17 [(.reg 18)], none, (some (14, true))⟩, ⟨.len .sl (.reg 19), none, (some (14, true))⟩, ⟨.bin .eql (.reg 20) (.cst (.int .i64 2)), none, (some (14, true))⟩, ⟨.pick (.reg 14) (.reg 21) (.cst (.bool false)), none, none⟩, ⟨.mov (.reg 22), (some 0), none⟩])
 .ret)))⟩
theorem c11 : compFunc Tryz.prog opts a11 Tryz.f11 = some t11 := by kernel_rfl
def a13 : Ann := { slots := [0, 1, 2, 4, 5, 18, 20, 21, 22, 23, 33], lb := [4, 1], mu := [], trunc := [], draws := [] }
def t13L0 : TCode := (.seq (.region [⟨.bin .lss (.loc 8) (.loc 7), (some 9), none⟩])
   (.seq (.cond (.loc 9)
    .skip
    (.exit 0))
   (.seq (.block 1
    (.seq (.region [⟨.indexAddrS 5 (.loc 6) (.loc 8), none, none⟩, ⟨.loadN 5 (.reg 0), none, none⟩, ⟨.allocL 3 [(.int .i64 0), (.int .i64 0), (.str []), (.sl .nil []), (.int .i64 0)], none, none⟩, ⟨.store 5 (.reg 2) (.reg 1), none, none⟩])
    (.seq (.region [⟨.loadN 5 (.loc 3), none, none⟩, ⟨.call false false 42 [(.reg 0)], none, none⟩, ⟨.un .not (.reg 1), none, none⟩, ⟨.mov (.reg 2), none, none⟩, ⟨.loadN 5 (.loc 3), none, (some (3, false))⟩, ⟨.call false false 43 [(.reg 4)], none, (some (3, false))⟩, ⟨.un .not (.reg 5), none, (some (3, false))⟩, ⟨.pick (.reg 3) (.cst (.bool true)) (.reg 6), (some 10), none⟩])
    (.cond (.loc 10)
     (.seq (.region [⟨.mov (.cst (.int .i64 2)), (some 2), none⟩])
     .ret)
     .skip))))
   (.region [⟨.bin .add (.loc 8) (.cst (.int .i64 1)), none, none⟩, ⟨.mov (.reg 0), (some 8), none⟩]))))
def t13 : TFunc := ⟨1, 11, [.loc 2],
 (.seq (.region [⟨.boxL 1 (.loc 0), none, none⟩, ⟨.mov (.cst (.int .i64 0)), (some 2), none⟩])
 (.seq (.seq (.region [⟨.fieldAddr 5 (.loc 1), none, none⟩, ⟨.load1 (.reg 0), none, none⟩, ⟨.bin .lss (.reg 1) (.cst (.int .i64 0)), none, none⟩, ⟨.mov (.reg 2), none, none⟩, ⟨.fieldAddr 5 (.loc 1), none, (some (3, false))⟩, ⟨.load1 (.reg 4), none, (some (3, false))⟩, ⟨.bin .gtr (.reg 5) (.cst (.int .i64 20000)), none, (some (3, false))⟩, ⟨.pick (.reg 3) (.cst (.bool true)) (.reg 6), none, none⟩, ⟨.mov (.reg 7), none, none⟩, ⟨.fieldAddr 6 (.loc 1), none, (some (8, false))⟩, ⟨.load1 (.reg 9), none, (some (8, false))⟩, ⟨.bin .lss (.reg 10) (.cst (.int .i64 0)), none, (some (8, false))⟩, ⟨.pick (.reg 8) (.cst (.bool true)) (.reg 11), (some 5), none⟩])
 (.cond (.loc 5)
  (.seq (.region [⟨.mov (.cst (.int .i64 2)), (some 2), none⟩])
  .ret)
  .skip))
 (.seq (.seq (.region [⟨.fieldAddr 7 (.loc 1), none, none⟩, ⟨.load1 (.reg 0), (some 6), none⟩, ⟨.len .sl (.reg 1), (some 7), none⟩, ⟨.mov (.cst (.int .i64 0)), (some 8), none⟩])
 (.block 0
  (.loop t13L0)))
 (.seq (.region [⟨.loadN 8 (.loc 1), none, none⟩, ⟨.mkMap, none, none⟩, ⟨.mkMap, none, none⟩, ⟨.mkMap, none, none⟩, ⟨.build [(.int .i64 0), (.int .i64 0), (.sl .nil []), (.bool false), (.sl .nil []), (.int .i64 0), (.int .i64 0), (.sl .nil []), .nilm, .nilm, .nilm] [(0, 8, (.reg 0)), (8, 1, (.reg 1)), (9, 1, (.reg 2)), (10, 1, (.reg 3))], none, none⟩, ⟨.boxH 58 (.reg 4), none, none⟩, ⟨.mov (.reg 5), (some 4), none⟩])
 (.seq (.region [⟨.mov (.loc 4), none, none⟩, ⟨.fieldAddr 0 (.loc 1), none, none⟩, ⟨.loadN 5 (.reg 1), none, none⟩, ⟨.call false false 44 [(.reg 0), (.reg 2), (.cst (.int .i64 0))], none, none⟩, ⟨.mov (.reg 3), (some 2), none⟩])
 .ret)))))⟩
theorem c13 : compFunc Tryz.prog opts a13 Tryz.f13 = some t13 := by kernel_rfl
def a17 : Ann := { slots := [0, 1, 2, 3], lb := [1], mu := [], trunc := [], draws := [] }
def t17 : TFunc := ⟨1, 4, [.loc 2],
 (.seq (.region [⟨.boxL 1 (.loc 0), none, none⟩, ⟨.mov (.cst (.sl .nil [])), (some 2), none⟩])
 (.seq (.region [⟨.mkMap, none, none⟩, ⟨.mov (.reg 0), (some 3), none⟩])
 (.seq (.region [⟨.loadN 5 (.loc 1), none, none⟩, ⟨.mkMap, none, none⟩, ⟨.mov (.loc 3), none, none⟩, ⟨.call false false 49 [(.reg 0), (.reg 1), (.reg 2)], none, none⟩])
 (.seq (.region [⟨.mov (.loc 3), none, none⟩, ⟨.call false false 47 [(.reg 0)], none, none⟩, ⟨.mov (.reg 1), (some 2), none⟩])
 .ret))))⟩
theorem c17 : compFunc Tryz.prog opts a17 Tryz.f17 = some t17 := by kernel_rfl
def a18 : Ann := { slots := [0, 1, 2, 3, 4, 5, 6, 8, 17, 25, 34, 39, 48, 56, 57, 63, 73, 78, 83, 87], lb := [4, 1], mu := [], trunc := [], draws := [] }
def t18L0 : TCode := (.seq (.seq (.region [⟨.mov (.loc 6), none, none⟩, ⟨.fieldAddr 3 (.loc 4), none, none⟩, ⟨.load1 (.reg 1), none, none⟩, ⟨.len .sl (.reg 2), none, none⟩, ⟨.bin .lss (.reg 0) (.reg 3), (some 11), none⟩])
   (.cond (.loc 11)
    .skip
    (.exit 2)))
   (.seq (.block 3
    (.seq (.region [⟨.fieldAddr 3 (.loc 4), none, none⟩, ⟨.load1 (.reg 0), none, none⟩, ⟨.mov (.loc 6), none, none⟩, ⟨.indexAddrS 5 (.reg 1) (.reg 2), none, none⟩, ⟨.loadN 5 (.reg 3), none, none⟩, ⟨.call true false 18 [(.reg 4)], none, none⟩, ⟨.un .not (.reg 5), (some 12), none⟩])
    (.cond (.loc 12)
     (.seq (.region [⟨.mov (.cst (.bool false)), (some 2), none⟩])
     .ret)
     .skip)))
   (.region [⟨.mov (.loc 6), none, none⟩, ⟨.bin .add (.reg 0) (.cst (.int .i64 1)), none, none⟩, ⟨.mov (.reg 1), (some 6), none⟩])))
def t18L1 : TCode := (.seq (.seq (.region [⟨.mov (.loc 5), none, none⟩, ⟨.mov (.loc 3), none, none⟩, ⟨.len .sl (.reg 1), none, none⟩, ⟨.bin .lss (.reg 0) (.reg 2), (some 8), none⟩])
   (.cond (.loc 8)
    .skip
    (.exit 0)))
   (.seq (.block 1
    (.seq (.region [⟨.mov (.loc 3), none, none⟩, ⟨.mov (.loc 5), none, none⟩, ⟨.indexAddrS 5 (.reg 0) (.reg 1), none, none⟩, ⟨.loadN 5 (.reg 2), none, none⟩, ⟨.call true false 18 [(.reg 3)], none, none⟩, ⟨.un .not (.reg 4), (some 9), none⟩])
    (.cond (.loc 9)
     (.seq (.region [⟨.mov (.cst (.bool false)), (some 2), none⟩])
     .ret)
     .skip)))
   (.region [⟨.mov (.loc 5), none, none⟩, ⟨.bin .add (.reg 0) (.cst (.int .i64 1)), none, none⟩, ⟨.mov (.reg 1), (some 5), none⟩])))
def t18 : TFunc := ⟨1, 20, [.loc 2],
 (.seq (.region [⟨.boxL 1 (.loc 0), none, none⟩, ⟨.mov (.cst (.bool false)), (some 2), none⟩])
 (.seq (.region [⟨.loadN 5 (.loc 1), none, none⟩, ⟨.call true false 50 [(.reg 0)], none, none⟩, ⟨.mov (.reg 1), none, none⟩, ⟨.extract 0 (.reg 2), none, none⟩, ⟨.extract 1 (.reg 2), none, none⟩, ⟨.allocL 4 [(.int .i64 0), (.int .i64 0), (.str []), (.sl .nil []), (.int .i64 0)], none, none⟩, ⟨.mov (.reg 3), (some 3), none⟩, ⟨.store 5 (.reg 5) (.reg 4), none, none⟩])
 (.seq (.seq (.region [⟨.mov (.cst (.int .i64 0)), (some 5), none⟩])
 (.block 0
  (.loop t18L1)))
 (.seq (.seq (.region [⟨.fieldAddr 0 (.loc 4), none, none⟩, ⟨.load1 (.reg 0), none, none⟩, ⟨.bin .neq (.reg 1) (.cst (.int .i64 7)), none, none⟩, ⟨.mov (.reg 2), none, none⟩, ⟨.fieldAddr 3 (.loc 4), none, (some (3, true))⟩, ⟨.load1 (.reg 4), none, (some (3, true))⟩, ⟨.len .sl (.reg 5), none, (some (3, true))⟩, ⟨.bin .gtr (.reg 6) (.cst (.int .i64 0)), none, (some (3, true))⟩, ⟨.pick (.reg 3) (.reg 7) (.cst (.bool false)), (some 10), none⟩])
 (.cond (.loc 10)
  (.seq (.region [⟨.mov (.cst (.bool false)), (some 2), none⟩])
  .ret)
  .skip))
 (.seq (.seq (.region [⟨.mov (.cst (.int .i64 0)), (some 6), none⟩])
 (.block 2
  (.loop t18L0)))
 (.seq (.region [⟨.fieldAddr 2 (.loc 4), none, none⟩, ⟨.load1 (.reg 0), none, none⟩, ⟨.call true false 51 [(.reg 1)], none, none⟩, ⟨.mov (.reg 2), none, none⟩, ⟨.extract 0 (.reg 3), none, none⟩, ⟨.extract 1 (.reg 3), none, none⟩, ⟨.mov (.reg 4), none, none⟩, ⟨.mov (.reg 5), (some 7), none⟩])
 (.seq (.seq (.region [⟨.fieldAddr 0 (.loc 4), none, none⟩, ⟨.load1 (.reg 0), (some 13), none⟩])
 (.block 4
  (.seq (.seq (.region [⟨.bin .eql (.loc 13) (.cst (.int .i64 0)), none, none⟩, ⟨.mov (.reg 0), (some 14), none⟩])
  (.cond (.loc 14)
   .skip
   (.seq (.region [⟨.bin .eql (.loc 13) (.cst (.int .i64 7)), none, none⟩, ⟨.mov (.reg 0), (some 14), none⟩])
   (.cond (.loc 14)
    .skip
    (.seq (.region [⟨.bin .eql (.loc 13) (.cst (.int .i64 8)), none, none⟩, ⟨.mov (.reg 0), (some 14), none⟩])
    (.cond (.loc 14)
     .skip
     (.seq (.region [⟨.bin .eql (.loc 13) (.cst (.int .i64 9)), none, none⟩, ⟨.mov (.reg 0), (some 14), none⟩])
     (.cond (.loc 14)
      .skip
      (.region [⟨.bin .eql (.loc 13) (.cst (.int .i64 10)), none, none⟩, ⟨.mov (.reg 0), (some 14), none⟩])))))))))
  (.cond (.loc 14)
   (.seq (.region [⟨.mov (.cst (.bool true)), (some 2), none⟩])
   .ret)
   (.seq (.region [⟨.bin .eql (.loc 13) (.cst (.int .i64 1)), none, none⟩, ⟨.mov (.reg 0), (some 15), none⟩])
   (.cond (.loc 15)
    (.seq (.region [⟨.fieldAddr 1 (.loc 4), none, none⟩, ⟨.load1 (.reg 0), none, none⟩, ⟨.bin .eql (.reg 1) (.cst (.int .i64 0)), none, none⟩, ⟨.mov (.reg 2), none, none⟩, ⟨.fieldAddr 1 (.loc 4), none, (some (3, false))⟩, ⟨.load1 (.reg 4), none, (some (3, false))⟩, ⟨.bin .eql (.reg 5) (.cst (.int .i64 1)), none, (some (3, false))⟩, ⟨.pick (.reg 3) (.cst (.bool true)) (.reg 6), none, none⟩, ⟨.mov (.reg 7), (some 2), none⟩])
    .ret)
    (.seq (.region [⟨.bin .eql (.loc 13) (.cst (.int .i64 2)), none, none⟩, ⟨.mov (.reg 0), (some 16), none⟩])
    (.cond (.loc 16)
     (.seq (.region [⟨.fieldAddr 2 (.loc 4), none, none⟩, ⟨.load1 (.reg 0), none, none⟩, ⟨.call true false 52 [(.reg 1)], none, none⟩, ⟨.mov (.reg 2), (some 2), none⟩])
     .ret)
     (.seq (.region [⟨.bin .eql (.loc 13) (.cst (.int .i64 3)), none, none⟩, ⟨.mov (.reg 0), (some 17), none⟩])
     (.cond (.loc 17)
      (.seq (.region [⟨.fieldAddr 1 (.loc 4), none, none⟩, ⟨.load1 (.reg 0), none, none⟩, ⟨.call true false 53 [(.reg 1)], none, none⟩, ⟨.mov (.reg 2), (some 2), none⟩])
      .ret)
      (.seq (.region [⟨.bin .eql (.loc 13) (.cst (.int .i64 4)), none, none⟩, ⟨.mov (.reg 0), (some 18), none⟩])
      (.cond (.loc 18)
       (.seq (.region [⟨.mov (.loc 7), none, none⟩, ⟨.bin .eql (.reg 0) (.cst (.int .i64 0)), none, none⟩, ⟨.mov (.reg 1), (some 2), none⟩])
       .ret)
       (.seq (.region [⟨.bin .eql (.loc 13) (.cst (.int .i64 5)), none, none⟩, ⟨.mov (.reg 0), (some 19), none⟩])
       (.cond (.loc 19)
        (.seq (.region [⟨.mov (.loc 7), none, none⟩, ⟨.bin .eql (.reg 0) (.cst (.int .i64 0)), none, none⟩, ⟨.mov (.reg 1), none, none⟩, ⟨.fieldAddr 2 (.loc 4), none, (some (2, true))⟩, ⟨.load1 (.reg 3), none, (some (2, true))⟩, ⟨.len .str (.reg 4), none, (some (2, true))⟩, ⟨.bin .gtr (.reg 5) (.cst (.int .i64 0)), none, (some (2, true))⟩, ⟨.pick (.reg 2) (.reg 6) (.cst (.bool false)), none, none⟩, ⟨.mov (.reg 7), (some 2), none⟩])
        .ret)
        .skip))))))))))))))
 (.seq (.region [⟨.mov (.cst (.bool false)), (some 2), none⟩])
 .ret))))))))⟩
theorem c18 : compFunc Tryz.prog opts a18 Tryz.f18 = some t18 := by kernel_rfl
def a19 : Ann := { slots := [0, 1, 2, 3, 4], lb := [3, 2], mu := [], trunc := [], draws := [] }
def t19 : TFunc := ⟨2, 5, [.loc 4],
 (.seq (.region [⟨.boxL 2 (.loc 0), none, none⟩, ⟨.boxL 3 (.loc 1), none, none⟩, ⟨.mov (.cst (.bool false)), (some 4), none⟩])
 (.seq (.region [⟨.fieldAddr 5 (.loc 2), none, none⟩, ⟨.load1 (.reg 0), none, none⟩, ⟨.fieldAddr 5 (.loc 3), none, none⟩, ⟨.load1 (.reg 2), none, none⟩, ⟨.bin .eql (.reg 1) (.reg 3), none, none⟩, ⟨.mov (.reg 4), none, none⟩, ⟨.fieldAddr 6 (.loc 2), none, (some (5, true))⟩, ⟨.load1 (.reg 6), none, (some (5, true))⟩, ⟨.fieldAddr 6 (.loc 3), none, (some (5, true))⟩, ⟨.load1 (.reg 8), none, (some (5, true))⟩, ⟨.bin .eql (.reg 7) (.reg 9), none, (some (5, true))⟩, ⟨.pick (.reg 5) (.reg 10) (.cst (.bool false)), none, none⟩, ⟨.mov (.reg 11), none, none⟩, ⟨.fieldAddr 7 (.loc 2), none, (some (12, true))⟩, ⟨.load1 (.reg 13), none, (some (12, true))⟩, ⟨.fieldAddr 7 (.loc 3), none, (some (12, true))⟩, ⟨.load1 (.reg 15), none, (some (12, true))⟩, ⟨.call false false 54 [(.reg 14), (.reg 16), (.fn 55)], none, (some (12, true))⟩, ⟨.pick (.reg 12) (.reg 17) (.cst (.bool false)), none, none⟩, ⟨.mov (.reg 18), none, none⟩, ⟨.fieldAddr 0 (.loc 2), none, (some (19, true))⟩, ⟨.loadN 5 (.reg 20), none, (some (19, true))⟩, ⟨.fieldAddr 0 (.loc 3), none, (some (19, true))⟩, ⟨.loadN 5 (.reg 22), none, (some (19, true))⟩, ⟨.call false false 56 [(.reg 21), (.reg 23)], none, (some (19, true))⟩, ⟨.pick (.reg 19) (.reg 24) (.cst (.bool false)), none, none⟩, ⟨.mov (.reg 25), (some 4), none⟩])
 .ret))⟩
theorem c19 : compFunc Tryz.prog opts a19 Tryz.f19 = some t19 := by kernel_rfl
def a20 : Ann := { slots := [0, 1, 2, 3, 4, 5, 26, 31, 45], lb := [3, 2], mu := [], trunc := [], draws := [(6, ⟨[0, 1, 0, 7, 15, 0, 32, 0, 224, 480, 1023, 2047], [0, 1, 2, 3, 4, 5, 6, 7, 8, 9], [(10, [], [11])]⟩)] }
def t20L0 : TCode := (.seq (.seq (.region [⟨.mov (.loc 5), none, none⟩, ⟨.fieldAddr 7 (.loc 2), none, none⟩, ⟨.load1 (.reg 1), none, none⟩, ⟨.len .sl (.reg 2), none, none⟩, ⟨.bin .lss (.reg 0) (.reg 3), (some 7), none⟩])
   (.cond (.loc 7)
    .skip
    (.exit 0)))
   (.seq (.block 1
    (.seq (.draw [0, 1, 2, 3, 4, 5, 6, 7, 8, 9] [(10, [], [11])] [⟨.fieldAddr 7 (.loc 2), none, none⟩, ⟨.load1 (.reg 0), none, none⟩, ⟨.mov (.loc 5), none, none⟩, ⟨.indexAddrS 5 (.reg 1) (.reg 2), none, none⟩, ⟨.loadN 5 (.reg 3), none, none⟩, ⟨.fieldAddr 7 (.loc 3), none, none⟩, ⟨.load1 (.reg 5), none, none⟩, ⟨.mov (.loc 5), none, none⟩, ⟨.indexAddrS 5 (.reg 6) (.reg 7), none, none⟩, ⟨.loadN 5 (.reg 8), none, none⟩, ⟨.call true false 57 [(.reg 4), (.reg 9)], none, none⟩, ⟨.un .not (.reg 10), (some 8), none⟩])
    (.cond (.loc 8)
     (.seq (.region [⟨.mov (.cst (.bool false)), (some 4), none⟩])
     .ret)
     .skip)))
   (.region [⟨.mov (.loc 5), none, none⟩, ⟨.bin .add (.reg 0) (.cst (.int .i64 1)), none, none⟩, ⟨.mov (.reg 1), (some 5), none⟩])))
def t20 : TFunc := ⟨2, 9, [.loc 4],
 (.seq (.region [⟨.boxL 2 (.loc 0), none, none⟩, ⟨.boxL 3 (.loc 1), none, none⟩, ⟨.mov (.cst (.bool false)), (some 4), none⟩])
 (.seq (.seq (.region [⟨.fieldAddr 5 (.loc 2), none, none⟩, ⟨.load1 (.reg 0), none, none⟩, ⟨.fieldAddr 5 (.loc 3), none, none⟩, ⟨.load1 (.reg 2), none, none⟩, ⟨.bin .neq (.reg 1) (.reg 3), none, none⟩, ⟨.mov (.reg 4), none, none⟩, ⟨.fieldAddr 6 (.loc 2), none, (some (5, false))⟩, ⟨.load1 (.reg 6), none, (some (5, false))⟩, ⟨.fieldAddr 6 (.loc 3), none, (some (5, false))⟩, ⟨.load1 (.reg 8), none, (some (5, false))⟩, ⟨.bin .neq (.reg 7) (.reg 9), none, (some (5, false))⟩, ⟨.pick (.reg 5) (.cst (.bool true)) (.reg 10), none, none⟩, ⟨.mov (.reg 11), none, none⟩, ⟨.fieldAddr 7 (.loc 2), none, (some (12, false))⟩, ⟨.load1 (.reg 13), none, (some (12, false))⟩, ⟨.len .sl (.reg 14), none, (some (12, false))⟩, ⟨.fieldAddr 7 (.loc 3), none, (some (12, false))⟩, ⟨.load1 (.reg 16), none, (some (12, false))⟩, ⟨.len .sl (.reg 17), none, (some (12, false))⟩, ⟨.bin .neq (.reg 15) (.reg 18), none, (some (12, false))⟩, ⟨.pick (.reg 12) (.cst (.bool true)) (.reg 19), (some 6), none⟩])
 (.cond (.loc 6)
  (.seq (.region [⟨.mov (.cst (.bool false)), (some 4), none⟩])
  .ret)
  .skip))
 (.seq (.seq (.region [⟨.mov (.cst (.int .i64 0)), (some 5), none⟩])
 (.block 0
  (.loop t20L0)))
 (.seq (.region [⟨.fieldAddr 0 (.loc 2), none, none⟩, ⟨.loadN 5 (.reg 0), none, none⟩, ⟨.fieldAddr 0 (.loc 3), none, none⟩, ⟨.loadN 5 (.reg 2), none, none⟩, ⟨.call false false 58 [(.reg 1), (.reg 3)], none, none⟩, ⟨.mov (.reg 4), (some 4), none⟩])
 .ret))))⟩
theorem c20 : compFunc Tryz.prog opts a20 Tryz.f20 = some t20 := by kernel_rfl
def a33 : Ann := { slots := [0, 1, 2, 3], lb := [3, 2, 1], mu := [(2, 5), (2, 9)], trunc := [], draws := [(2, ⟨[0, 0, 0, 6, 14, 31, 63, 0, 0, 384, 1023, 2047], [0, 2, 7, 8, 9], [(1, [0, 2], [3]), (4, [0], [5, 6, 10]), (11, [], [])]⟩)] }
def t33 : TFunc := ⟨1, 4, [.cell 2 8 true],
 (.seq (.region [⟨.boxL 1 (.loc 0), none, none⟩, ⟨.allocL 2 [(.int .i64 0), (.int .i64 0), (.sl .nil []), (.bool false), (.sl .nil []), (.int .i64 0), (.int .i64 0), (.sl .nil [])], none, none⟩])
 (.seq (.region [⟨.call false false 36 [], none, none⟩, ⟨.lit false [(.int .i64 0), (.int .i64 0), (.sl .nil []), (.bool false), (.sl .nil [])] 1 [(0, (.reg 0))], none, none⟩, ⟨.build [(.int .i64 0), (.int .i64 0), (.sl .nil []), (.bool false), (.sl .nil [])] [(0, 1, (.cst (.int .i64 5))), (4, 1, (.reg 1))], none, none⟩, ⟨.allocL 3 [(.int .i64 0), (.int .i64 0), (.sl .nil []), (.bool false), (.sl .nil [])], none, none⟩, ⟨.store 5 (.reg 3) (.reg 2), none, none⟩])
 (.seq (.draw [0, 2, 7, 8, 9] [(1, [0, 2], [3]), (4, [0], [5, 6, 10]), (11, [], [])] [⟨.loadN 5 (.loc 3), none, none⟩, ⟨.call false false 35 [(.cst (.int .i64 0))], none, none⟩, ⟨.loadN 5 (.loc 1), none, none⟩, ⟨.lit false [(.int .i64 0), (.int .i64 0), (.sl .nil []), (.bool false), (.sl .nil [])] 2 [(0, (.reg 1)), (1, (.reg 2))], none, none⟩, ⟨.call false false 73 [(.reg 3)], none, none⟩, ⟨.lit true [(.int .i64 0), (.int .i64 0), (.sl .nil []), (.bool false), (.sl .nil [])] 2 [(0, (.reg 0)), (1, (.reg 4))], none, none⟩, ⟨.build [(.int .i64 0), (.int .i64 0), (.sl .nil []), (.bool false), (.sl .nil [])] [(0, 1, (.cst (.int .i64 10))), (4, 1, (.reg 5))], none, none⟩, ⟨.build [(.int .i64 0), (.int .i64 0), (.str []), (.sl .nil []), (.int .i64 0)] [(0, 1, (.cst (.int .i64 2))), (2, 1, (.cst (.str [53])))], none, none⟩, ⟨.build [(.int .i64 0), (.int .i64 0), (.str []), (.sl .nil []), (.int .i64 0)] [(0, 1, (.cst (.int .i64 4))), (2, 1, (.cst (.str [97])))], none, none⟩, ⟨.lit true [(.int .i64 0), (.int .i64 0), (.str []), (.sl .nil []), (.int .i64 0)] 2 [(0, (.reg 7)), (1, (.reg 8))], none, none⟩, ⟨.build [(.int .i64 0), (.int .i64 0), (.sl .nil []), (.bool false), (.sl .nil []), (.int .i64 0), (.int .i64 0), (.sl .nil [])] [(0, 5, (.reg 6)), (5, 1, (.cst (.int .i64 1))), (6, 1, (.cst (.int .i64 2))), (7, 1, (.reg 9))], none, none⟩, ⟨.store 8 (.loc 2) (.reg 10), none, none⟩])
 .ret)))⟩
theorem c33 : compFunc Tryz.prog opts a33 Tryz.f33 = some t33 := by kernel_rfl
def a34 : Ann := { slots := [0, 2], lb := [2], mu := [], trunc := [], draws := [] }
def t34 : TFunc := ⟨1, 2, [.cell 1 5 true],
 (.seq (.region [⟨.allocL 1 [(.int .i64 0), (.int .i64 0), (.sl .nil []), (.bool false), (.sl .nil [])], none, none⟩])
 (.seq (.region [⟨.mov (.loc 0), none, none⟩, ⟨.build [(.int .i64 0), (.int .i64 0), (.sl .nil []), (.bool false), (.sl .nil [])] [(0, 1, (.cst (.int .i64 1))), (1, 1, (.reg 0))], none, none⟩, ⟨.store 5 (.loc 1) (.reg 1), none, none⟩])
 .ret))⟩
theorem c34 : compFunc Tryz.prog opts a34 Tryz.f34 = some t34 := by kernel_rfl
def a35 : Ann := { slots := [0, 2], lb := [2], mu := [], trunc := [], draws := [] }
def t35 : TFunc := ⟨1, 2, [.cell 1 5 true],
 (.seq (.region [⟨.allocL 1 [(.int .i64 0), (.int .i64 0), (.sl .nil []), (.bool false), (.sl .nil [])], none, none⟩])
 (.seq (.region [⟨.mov (.loc 0), none, none⟩, ⟨.build [(.int .i64 0), (.int .i64 0), (.sl .nil []), (.bool false), (.sl .nil [])] [(0, 1, (.cst (.int .i64 3))), (1, 1, (.reg 0))], none, none⟩, ⟨.store 5 (.loc 1) (.reg 1), none, none⟩])
 .ret))⟩
theorem c35 : compFunc Tryz.prog opts a35 Tryz.f35 = some t35 := by kernel_rfl
def a36 : Ann := { slots := [0, 1], lb := [1, 0], mu := [], trunc := [], draws := [] }
def t36 : TFunc := ⟨0, 2, [.cell 0 5 true],
 (.seq (.region [⟨.allocL 0 [(.int .i64 0), (.int .i64 0), (.sl .nil []), (.bool false), (.sl .nil [])], none, none⟩])
 (.seq (.region [⟨.call false false 37 [(.cst (.int .i64 0))], none, none⟩, ⟨.call false false 35 [(.cst (.int .i64 0))], none, none⟩, ⟨.call false false 37 [(.cst (.int .i64 1))], none, none⟩, ⟨.lit false [(.int .i64 0), (.int .i64 0), (.sl .nil []), (.bool false), (.sl .nil [])] 2 [(0, (.reg 1)), (1, (.reg 2))], none, none⟩, ⟨.call false false 73 [(.reg 3)], none, none⟩, ⟨.call false false 34 [(.cst (.int .i64 0))], none, none⟩, ⟨.lit false [(.int .i64 0), (.int .i64 0), (.sl .nil []), (.bool false), (.sl .nil [])] 3 [(0, (.reg 0)), (1, (.reg 4)), (2, (.reg 5))], none, none⟩, ⟨.build [(.int .i64 0), (.int .i64 0), (.sl .nil []), (.bool false), (.sl .nil [])] [(0, 1, (.cst (.int .i64 6))), (4, 1, (.reg 6))], none, none⟩, ⟨.allocL 1 [(.int .i64 0), (.int .i64 0), (.sl .nil []), (.bool false), (.sl .nil [])], none, none⟩, ⟨.store 5 (.reg 8) (.reg 7), none, none⟩])
 (.seq (.region [⟨.lit false [(.int .i64 0)] 2 [(0, (.cst (.int .i64 0))), (1, (.cst (.int .i64 1)))], none, none⟩, ⟨.loadN 5 (.loc 1), none, none⟩, ⟨.lit false [(.int .i64 0), (.int .i64 0), (.sl .nil []), (.bool false), (.sl .nil [])] 1 [(0, (.reg 1))], none, none⟩, ⟨.build [(.int .i64 0), (.int .i64 0), (.sl .nil []), (.bool false), (.sl .nil [])] [(0, 1, (.cst (.int .i64 7))), (2, 1, (.reg 0)), (3, 1, (.cst (.bool true))), (4, 1, (.reg 2))], none, none⟩, ⟨.store 5 (.loc 0) (.reg 3), none, none⟩])
 .ret)))⟩
theorem c36 : compFunc Tryz.prog opts a36 Tryz.f36 = some t36 := by kernel_rfl
def a37 : Ann := { slots := [0, 2], lb := [2], mu := [], trunc := [], draws := [] }
def t37 : TFunc := ⟨1, 2, [.cell 1 5 true],
 (.seq (.region [⟨.allocL 1 [(.int .i64 0), (.int .i64 0), (.sl .nil []), (.bool false), (.sl .nil [])], none, none⟩])
 (.seq (.region [⟨.mov (.loc 0), none, none⟩, ⟨.build [(.int .i64 0), (.int .i64 0), (.sl .nil []), (.bool false), (.sl .nil [])] [(0, 1, (.cst (.int .i64 2))), (1, 1, (.reg 0))], none, none⟩, ⟨.store 5 (.loc 1) (.reg 1), none, none⟩])
 .ret))⟩
theorem c37 : compFunc Tryz.prog opts a37 Tryz.f37 = some t37 := by kernel_rfl
def a38 : Ann := { slots := [0, 1, 2, 3, 4, 5, 6, 8, 38, 43, 44, 54, 65, 83, 86, 87, 88, 89], lb := [8, 3, 1], mu := [(4, 2)], trunc := [], draws := [(9, ⟨[0, 1, 0, 4, 12, 31, 63], [0, 1, 2, 3], [(4, [1], [5, 6])]⟩), (12, ⟨[0, 1, 3, 0, 8, 24, 63, 127, 255], [0, 1, 2, 3, 4], [(5, [2], [6, 7]), (8, [], [])]⟩)] }
def t38L0 : TCode := (.seq (.region [⟨.bin .lss (.loc 16) (.loc 15), (some 17), none⟩])
   (.seq (.cond (.loc 17)
    .skip
    (.exit 1))
   (.seq (.block 2
    (.seq (.region [⟨.indexAddrS 5 (.loc 14) (.loc 16), none, none⟩, ⟨.loadN 5 (.reg 0), none, none⟩, ⟨.allocL 7 [(.int .i64 0), (.int .i64 0), (.sl .nil []), (.bool false), (.sl .nil [])], none, none⟩, ⟨.store 5 (.reg 2) (.reg 1), none, none⟩])
    (.region [⟨.mov (.loc 5), none, none⟩, ⟨.loadN 5 (.loc 7), none, none⟩, ⟨.call false false 38 [(.reg 1)], none, none⟩, ⟨.lit false [(.str [])] 1 [(0, (.reg 2))], none, none⟩, ⟨.append false 1 16 9 (.reg 0) (.reg 3), none, none⟩, ⟨.mov (.reg 4), (some 5), none⟩])))
   (.region [⟨.bin .add (.loc 16) (.cst (.int .i64 1)), none, none⟩, ⟨.mov (.reg 0), (some 16), none⟩]))))
def t38 : TFunc := ⟨1, 18, [.loc 2],
 (.seq (.region [⟨.boxL 1 (.loc 0), none, none⟩, ⟨.mov (.cst (.str [])), (some 2), none⟩])
 (.seq (.region [⟨.loadN 5 (.loc 1), none, none⟩, ⟨.call false false 74 [(.reg 0)], none, none⟩, ⟨.mov (.reg 1), none, none⟩, ⟨.extract 0 (.reg 2), none, none⟩, ⟨.extract 1 (.reg 2), none, none⟩, ⟨.allocL 3 [(.bool false), (.int .i64 0), (.bool false), (.str [])], none, none⟩, ⟨.store 4 (.reg 5) (.reg 3), none, none⟩, ⟨.mov (.reg 4), (some 4), none⟩])
 (.seq (.seq (.region [⟨.mov (.loc 4), none, none⟩, ⟨.un .not (.reg 0), none, none⟩, ⟨.mov (.reg 1), none, none⟩, ⟨.fieldAddr 4 (.loc 1), none, (some (2, false))⟩, ⟨.load1 (.reg 3), none, (some (2, false))⟩, ⟨.len .sl (.reg 4), none, (some (2, false))⟩, ⟨.fieldAddr 1 (.loc 3), none, (some (2, false))⟩, ⟨.load1 (.reg 6), none, (some (2, false))⟩, ⟨.bin .lss (.reg 5) (.reg 7), none, (some (2, false))⟩, ⟨.pick (.reg 2) (.cst (.bool true)) (.reg 8), none, none⟩, ⟨.mov (.reg 9), none, none⟩, ⟨.fieldAddr 3 (.loc 1), none, (some (10, false))⟩, ⟨.load1 (.reg 11), none, (some (10, false))⟩, ⟨.mov (.reg 12), none, (some (10, false))⟩, ⟨.fieldAddr 0 (.loc 1), none, (some (13, true))⟩, ⟨.load1 (.reg 14), none, (some (13, true))⟩, ⟨.bin .eql (.reg 15) (.cst (.int .i64 7)), none, (some (13, true))⟩, ⟨.pick (.reg 13) (.reg 16) (.cst (.bool false)), none, (some (10, false))⟩, ⟨.mov (.reg 17), none, (some (10, false))⟩, ⟨.fieldAddr 2 (.loc 1), none, (some (18, true))⟩, ⟨.load1 (.reg 19), none, (some (18, true))⟩, ⟨.len .sl (.reg 20), none, (some (18, true))⟩, ⟨.bin .eql (.reg 21) (.cst (.int .i64 0)), none, (some (18, true))⟩, ⟨.pick (.reg 18) (.reg 22) (.cst (.bool false)), none, (some (10, false))⟩, ⟨.pick (.reg 10) (.cst (.bool true)) (.reg 23), (some 8), none⟩])
 (.cond (.loc 8)
  (.seq (.region [⟨.mov (.cst (.str [63])), (some 2), none⟩])
  .ret)
  .skip))
 (.seq (.region [⟨.fieldAddr 3 (.loc 3), none, none⟩, ⟨.load1 (.reg 0), none, none⟩, ⟨.lit true [(.str [])] 1 [(0, (.reg 1))], none, none⟩, ⟨.mov (.reg 2), (some 5), none⟩])
 (.seq (.seq (.region [⟨.fieldAddr 0 (.loc 1), none, none⟩, ⟨.load1 (.reg 0), (some 9), none⟩])
 (.block 0
  (.seq (.seq (.region [⟨.bin .eql (.loc 9) (.cst (.int .i64 1)), none, none⟩, ⟨.mov (.reg 0), (some 10), none⟩])
  (.cond (.loc 10)
   .skip
   (.seq (.region [⟨.bin .eql (.loc 9) (.cst (.int .i64 2)), none, none⟩, ⟨.mov (.reg 0), (some 10), none⟩])
   (.cond (.loc 10)
    .skip
    (.region [⟨.bin .eql (.loc 9) (.cst (.int .i64 3)), none, none⟩, ⟨.mov (.reg 0), (some 10), none⟩])))))
  (.cond (.loc 10)
   (.seq (.draw [0, 1, 2, 3] [(4, [1], [5, 6])] [⟨.fieldAddr 3 (.loc 3), none, none⟩, ⟨.load1 (.reg 0), none, none⟩, ⟨.fieldAddr 1 (.loc 1), none, none⟩, ⟨.load1 (.reg 2), none, none⟩, ⟨.call true false 75 [(.reg 3)], none, none⟩, ⟨.bin .add (.reg 1) (.reg 4), none, none⟩, ⟨.mov (.reg 5), (some 2), none⟩])
   .ret)
   (.seq (.seq (.region [⟨.bin .eql (.loc 9) (.cst (.int .i64 4)), none, none⟩, ⟨.mov (.reg 0), (some 11), none⟩])
   (.cond (.loc 11)
    .skip
    (.region [⟨.bin .eql (.loc 9) (.cst (.int .i64 5)), none, none⟩, ⟨.mov (.reg 0), (some 11), none⟩])))
   (.cond (.loc 11)
    (.draw [0, 1, 2, 3, 4] [(5, [2], [6, 7]), (8, [], [])] [⟨.mov (.loc 5), none, none⟩, ⟨.indexAddrS 1 (.reg 0) (.cst (.int .i64 0)), none, none⟩, ⟨.load1 (.reg 1), none, none⟩, ⟨.fieldAddr 1 (.loc 1), none, none⟩, ⟨.load1 (.reg 3), none, none⟩, ⟨.call true false 75 [(.reg 4)], none, none⟩, ⟨.bin .add (.reg 2) (.reg 5), none, none⟩, ⟨.indexAddrS 1 (.reg 0) (.cst (.int .i64 0)), none, none⟩, ⟨.store 1 (.reg 7) (.reg 6), none, none⟩])
    (.seq (.region [⟨.bin .eql (.loc 9) (.cst (.int .i64 7)), none, none⟩, ⟨.mov (.reg 0), (some 12), none⟩])
    (.cond (.loc 12)
     (.region [⟨.mov (.loc 5), none, none⟩, ⟨.loadN 5 (.loc 1), none, none⟩, ⟨.call false false 76 [(.reg 1)], none, none⟩, ⟨.lit false [(.str [])] 1 [(0, (.reg 2))], none, none⟩, ⟨.append false 1 16 9 (.reg 0) (.reg 3), none, none⟩, ⟨.mov (.reg 4), (some 5), none⟩])
     .skip))))))))
 (.seq (.region [⟨.fieldAddr 4 (.loc 1), none, none⟩, ⟨.load1 (.reg 0), none, none⟩, ⟨.fieldAddr 1 (.loc 3), none, none⟩, ⟨.load1 (.reg 2), none, none⟩, ⟨.slice (.sl 5) (.reg 1) none (some (.reg 3)) none, none, none⟩, ⟨.mov (.reg 4), (some 6), none⟩])
 (.seq (.seq (.region [⟨.fieldAddr 2 (.loc 3), none, none⟩, ⟨.load1 (.reg 0), none, none⟩, ⟨.mov (.reg 1), none, none⟩, ⟨.fieldAddr 0 (.loc 1), none, (some (2, false))⟩, ⟨.load1 (.reg 3), none, (some (2, false))⟩, ⟨.bin .eql (.reg 4) (.cst (.int .i64 9)), none, (some (2, false))⟩, ⟨.pick (.reg 2) (.cst (.bool true)) (.reg 5), (some 13), none⟩])
 (.cond (.loc 13)
  (.region [⟨.fieldAddr 4 (.loc 1), none, none⟩, ⟨.load1 (.reg 0), none, none⟩, ⟨.mov (.reg 1), (some 6), none⟩])
  .skip))
 (.seq (.seq (.region [⟨.mov (.loc 6), (some 14), none⟩, ⟨.len .sl (.reg 0), (some 15), none⟩, ⟨.mov (.cst (.int .i64 0)), (some 16), none⟩])
 (.block 1
  (.loop t38L0)))
 (.seq (.region [⟨.mov (.loc 5), none, none⟩, ⟨.call true false 77 [(.reg 0), (.cst (.str [32]))], none, none⟩, ⟨.bin .add (.cst (.str [40])) (.reg 1), none, none⟩, ⟨.bin .add (.reg 2) (.cst (.str [41])), none, none⟩, ⟨.mov (.reg 3), (some 2), none⟩])
 .ret)))))))))⟩
theorem c38 : compFunc Tryz.prog opts a38 Tryz.f38 = some t38 := by kernel_rfl
def a40 : Ann := { slots := [0, 1, 2, 4, 5, 6, 8, 17], lb := [2], mu := [], trunc := [], draws := [] }
def t40L0 : TCode := (.seq (.seq (.region [⟨.mov (.loc 5), none, none⟩, ⟨.fieldAddr 3 (.loc 2), none, none⟩, ⟨.load1 (.reg 1), none, none⟩, ⟨.len .sl (.reg 2), none, none⟩, ⟨.bin .lss (.reg 0) (.reg 3), none, none⟩, ⟨.mov (.reg 4), none, none⟩, ⟨.mov (.loc 4), none, (some (5, true))⟩, ⟨.bin .lss (.reg 6) (.cst (.int .i64 5000)), none, (some (5, true))⟩, ⟨.pick (.reg 5) (.reg 7) (.cst (.bool false)), (some 7), none⟩])
   (.cond (.loc 7)
    .skip
    (.exit 0)))
   (.seq (.block 1
    (.region [⟨.mov (.loc 4), none, none⟩, ⟨.fieldAddr 3 (.loc 2), none, none⟩, ⟨.load1 (.reg 1), none, none⟩, ⟨.mov (.loc 5), none, none⟩, ⟨.indexAddrS 5 (.reg 2) (.reg 3), none, none⟩, ⟨.loadN 5 (.reg 4), none, none⟩, ⟨.mov (.loc 1), none, none⟩, ⟨.bin .sub (.reg 6) (.cst (.int .i64 1)), none, none⟩, ⟨.call false false 40 [(.reg 5), (.reg 7)], none, none⟩, ⟨.bin .add (.reg 0) (.reg 8), none, none⟩, ⟨.mov (.reg 9), (some 4), none⟩]))
   (.region [⟨.mov (.loc 5), none, none⟩, ⟨.bin .add (.reg 0) (.cst (.int .i64 1)), none, none⟩, ⟨.mov (.reg 1), (some 5), none⟩])))
def t40 : TFunc := ⟨2, 8, [.loc 3],
 (.seq (.region [⟨.boxL 2 (.loc 0), none, none⟩, ⟨.mov (.cst (.int .i64 0)), (some 3), none⟩])
 (.seq (.seq (.region [⟨.mov (.loc 1), none, none⟩, ⟨.bin .eql (.reg 0) (.cst (.int .i64 0)), (some 6), none⟩])
 (.cond (.loc 6)
  (.seq (.region [⟨.mov (.cst (.int .i64 5000)), (some 3), none⟩])
  .ret)
  .skip))
 (.seq (.region [⟨.mov (.cst (.int .i64 1)), (some 4), none⟩])
 (.seq (.seq (.region [⟨.mov (.cst (.int .i64 0)), (some 5), none⟩])
 (.block 0
  (.loop t40L0)))
 (.seq (.region [⟨.mov (.loc 4), none, none⟩, ⟨.mov (.reg 0), (some 3), none⟩])
 .ret)))))⟩
theorem c40 : compFunc Tryz.prog opts a40 Tryz.f40 = some t40 := by kernel_rfl
def a41 : Ann := { slots := [0, 1, 2], lb := [1], mu := [], trunc := [], draws := [] }
def t41 : TFunc := ⟨1, 3, [.cell 2 1 false],
 (.seq (.region [⟨.boxL 1 (.loc 0), none, none⟩, ⟨.allocH 4 [(.int .i64 0)], (some 2), none⟩])
 (.seq (.region [⟨.loadN 5 (.loc 1), none, none⟩, ⟨.mkFn 81 [] [(.loc 2)], none, none⟩, ⟨.call false false 45 [(.reg 0), (.reg 1)], none, none⟩])
 (.seq (.region [⟨.load1 (.loc 2), none, none⟩, ⟨.store 1 (.loc 2) (.reg 0), none, none⟩])
 .ret)))⟩
theorem c41 : compFunc Tryz.prog opts a41 Tryz.f41 = some t41 := by kernel_rfl
def a42 : Ann := { slots := [0, 1, 2, 4, 10, 17], lb := [1], mu := [], trunc := [], draws := [] }
def t42L0 : TCode := (.seq (.seq (.region [⟨.loadN 5 (.loc 1), none, none⟩, ⟨.call false false 82 [(.reg 0)], (some 3), none⟩])
   (.cond (.loc 3)
    .skip
    (.exit 0)))
   (.block 1
    (.seq (.seq (.region [⟨.fieldAddr 3 (.loc 1), none, none⟩, ⟨.load1 (.reg 0), none, none⟩, ⟨.indexAddrS 5 (.reg 1) (.cst (.int .i64 0)), none, none⟩, ⟨.loadN 5 (.reg 2), none, none⟩, ⟨.call false false 42 [(.reg 3)], none, none⟩, ⟨.un .not (.reg 4), (some 4), none⟩])
    (.cond (.loc 4)
     (.seq (.region [⟨.mov (.cst (.bool false)), (some 2), none⟩])
     .ret)
     .skip))
    (.region [⟨.fieldAddr 3 (.loc 1), none, none⟩, ⟨.load1 (.reg 0), none, none⟩, ⟨.indexAddrS 5 (.reg 1) (.cst (.int .i64 1)), none, none⟩, ⟨.loadN 5 (.reg 2), none, none⟩, ⟨.store 5 (.loc 1) (.reg 3), none, none⟩]))))
def t42 : TFunc := ⟨1, 6, [.loc 2],
 (.seq (.region [⟨.boxL 1 (.loc 0), none, none⟩, ⟨.mov (.cst (.bool false)), (some 2), none⟩])
 (.seq (.block 0
  (.loop t42L0))
 (.seq (.seq (.region [⟨.fieldAddr 0 (.loc 1), none, none⟩, ⟨.load1 (.reg 0), none, none⟩, ⟨.bin .eql (.reg 1) (.cst (.int .i64 7)), (some 5), none⟩])
 (.cond (.loc 5)
  (.seq (.region [⟨.fieldAddr 3 (.loc 1), none, none⟩, ⟨.load1 (.reg 0), none, none⟩, ⟨.call false false 83 [(.reg 1), (.fn 84)], none, none⟩, ⟨.un .not (.reg 2), none, none⟩, ⟨.mov (.reg 3), (some 2), none⟩])
  .ret)
  .skip))
 (.seq (.region [⟨.fieldAddr 3 (.loc 1), none, none⟩, ⟨.load1 (.reg 0), none, none⟩, ⟨.len .sl (.reg 1), none, none⟩, ⟨.bin .eql (.reg 2) (.cst (.int .i64 0)), none, none⟩, ⟨.mov (.reg 3), none, none⟩, ⟨.loadN 5 (.loc 1), none, (some (4, true))⟩, ⟨.call false false 85 [(.reg 5)], none, (some (4, true))⟩, ⟨.pick (.reg 4) (.reg 6) (.cst (.bool false)), none, none⟩, ⟨.mov (.reg 7), (some 2), none⟩])
 .ret))))⟩
theorem c42 : compFunc Tryz.prog opts a42 Tryz.f42 = some t42 := by kernel_rfl
def a43 : Ann := { slots := [0, 1, 2, 11, 17, 29], lb := [1], mu := [], trunc := [], draws := [] }
def t43L0 : TCode := (.seq (.seq (.region [⟨.fieldAddr 0 (.loc 1), none, none⟩, ⟨.load1 (.reg 0), none, none⟩, ⟨.bin .eql (.reg 1) (.cst (.int .i64 6)), none, none⟩, ⟨.mov (.reg 2), none, none⟩, ⟨.fieldAddr 3 (.loc 1), none, (some (3, true))⟩, ⟨.load1 (.reg 4), none, (some (3, true))⟩, ⟨.len .sl (.reg 5), none, (some (3, true))⟩, ⟨.bin .eql (.reg 6) (.cst (.int .i64 2)), none, (some (3, true))⟩, ⟨.pick (.reg 3) (.reg 7) (.cst (.bool false)), (some 3), none⟩])
   (.cond (.loc 3)
    .skip
    (.exit 0)))
   (.block 1
    (.seq (.seq (.region [⟨.fieldAddr 3 (.loc 1), none, none⟩, ⟨.load1 (.reg 0), none, none⟩, ⟨.indexAddrS 5 (.reg 1) (.cst (.int .i64 0)), none, none⟩, ⟨.loadN 5 (.reg 2), none, none⟩, ⟨.call false false 43 [(.reg 3)], none, none⟩, ⟨.un .not (.reg 4), (some 4), none⟩])
    (.cond (.loc 4)
     (.seq (.region [⟨.mov (.cst (.bool false)), (some 2), none⟩])
     .ret)
     .skip))
    (.region [⟨.fieldAddr 3 (.loc 1), none, none⟩, ⟨.load1 (.reg 0), none, none⟩, ⟨.indexAddrS 5 (.reg 1) (.cst (.int .i64 1)), none, none⟩, ⟨.loadN 5 (.reg 2), none, none⟩, ⟨.store 5 (.loc 1) (.reg 3), none, none⟩]))))
def t43 : TFunc := ⟨1, 6, [.loc 2],
 (.seq (.region [⟨.boxL 1 (.loc 0), none, none⟩, ⟨.mov (.cst (.bool false)), (some 2), none⟩])
 (.seq (.block 0
  (.loop t43L0))
 (.seq (.seq (.region [⟨.fieldAddr 0 (.loc 1), none, none⟩, ⟨.load1 (.reg 0), none, none⟩, ⟨.bin .eql (.reg 1) (.cst (.int .i64 5)), none, none⟩, ⟨.mov (.reg 2), none, none⟩, ⟨.fieldAddr 1 (.loc 1), none, (some (3, true))⟩, ⟨.load1 (.reg 4), none, (some (3, true))⟩, ⟨.bin .neq (.reg 5) (.cst (.int .i64 0)), none, (some (3, true))⟩, ⟨.pick (.reg 3) (.reg 6) (.cst (.bool false)), (some 5), none⟩])
 (.cond (.loc 5)
  (.seq (.region [⟨.mov (.cst (.bool false)), (some 2), none⟩])
  .ret)
  .skip))
 (.seq (.region [⟨.fieldAddr 3 (.loc 1), none, none⟩, ⟨.load1 (.reg 0), none, none⟩, ⟨.call false false 83 [(.reg 1), (.fn 86)], none, none⟩, ⟨.un .not (.reg 2), none, none⟩, ⟨.mov (.reg 3), (some 2), none⟩])
 .ret))))⟩
theorem c43 : compFunc Tryz.prog opts a43 Tryz.f43 = some t43 := by kernel_rfl
def a44 : Ann := { slots := [0, 1, 2, 4, 6, 8, 10, 11, 13, 14, 17, 23, 24, 25, 26, 36, 52, 61, 87, 89, 90, 91, 92, 101, 105, 106, 107, 108], lb := [10, 4], mu := [], trunc := [], draws := [(14, ⟨[0, 1, 3, 7, 0, 16, 63, 127, 255], [0, 1, 2, 3, 4, 5, 6, 7, 8], []⟩), (16, ⟨[0, 1, 3, 7, 0, 16, 0, 127], [0, 1, 2, 3, 4, 5, 6], [(7, [], [])]⟩), (17, ⟨[0, 1, 3, 7, 15, 31, 63, 127, 255, 511, 1023, 2047, 4095, 511, 8703, 32767, 65535, 131071, 262143], [0, 1, 2, 3, 4, 5, 6, 7, 8, 9, 10, 11, 12, 13, 14, 15, 16, 17, 18], []⟩)] }
def t44L0 : TCode := (.seq (.region [⟨.bin .lss (.loc 26) (.loc 25), (some 27), none⟩])
   (.seq (.cond (.loc 27)
    .skip
    (.exit 5))
   (.seq (.block 6
    (.seq (.region [⟨.indexAddrS 1 (.loc 24) (.loc 26), none, none⟩, ⟨.load1 (.reg 0), none, none⟩, ⟨.mov (.reg 1), (some 8), none⟩])
    (.region [⟨.mov (.loc 0), none, none⟩, ⟨.nilCheck (.reg 0), none, none⟩, ⟨.fieldAddr 10 (.reg 1), none, none⟩, ⟨.load1 (.reg 2), none, none⟩, ⟨.mov (.loc 8), none, none⟩, ⟨.build [(.int .i64 0)] [], none, none⟩, ⟨.update (.leaf .int) (.reg 3) (.reg 4) (.reg 5), none, none⟩])))
   (.region [⟨.bin .add (.loc 26) (.cst (.int .i64 1)), none, none⟩, ⟨.mov (.reg 0), (some 26), none⟩]))))
def t44L1 : TCode := (.seq (.region [⟨.bin .lss (.loc 21) (.loc 20), (some 22), none⟩])
   (.seq (.cond (.loc 22)
    .skip
    (.exit 3))
   (.seq (.block 4
    (.seq (.region [⟨.indexAddrS 5 (.loc 19) (.loc 21), none, none⟩, ⟨.loadN 5 (.reg 0), none, none⟩, ⟨.allocL 6 [(.int .i64 0), (.int .i64 0), (.sl .nil []), (.bool false), (.sl .nil [])], none, none⟩, ⟨.store 5 (.reg 2) (.reg 1), none, none⟩])
    (.seq (.region [⟨.mov (.loc 0), none, none⟩, ⟨.loadN 5 (.loc 6), none, none⟩, ⟨.mov (.loc 2), none, none⟩, ⟨.bin .add (.reg 2) (.cst (.int .i64 1)), none, none⟩, ⟨.call false false 44 [(.reg 0), (.reg 1), (.reg 3)], none, none⟩, ⟨.mov (.reg 4), (some 7), none⟩])
    (.seq (.region [⟨.mov (.loc 7), none, none⟩, ⟨.bin .neq (.reg 0) (.cst (.int .i64 0)), (some 23), none⟩])
    (.cond (.loc 23)
     (.seq (.region [⟨.mov (.loc 7), none, none⟩, ⟨.mov (.reg 0), (some 4), none⟩])
     .ret)
     .skip)))))
   (.region [⟨.bin .add (.loc 21) (.cst (.int .i64 1)), none, none⟩, ⟨.mov (.reg 0), (some 21), none⟩]))))
def t44L2 : TCode := (.seq (.region [⟨.bin .lss (.loc 13) (.loc 12), (some 14), none⟩])
   (.seq (.cond (.loc 14)
    .skip
    (.exit 1))
   (.seq (.block 2
    (.seq (.region [⟨.indexAddrS 1 (.loc 11) (.loc 13), none, none⟩, ⟨.load1 (.reg 0), none, none⟩, ⟨.mov (.reg 1), (some 5), none⟩])
    (.seq (.seq (.region [⟨.mov (.loc 0), none, none⟩, ⟨.nilCheck (.reg 0), none, none⟩, ⟨.fieldAddr 8 (.reg 1), none, none⟩, ⟨.load1 (.reg 2), none, none⟩, ⟨.mov (.loc 5), none, none⟩, ⟨.lookup (.leaf .int) (.agg [(.int .i64 0)]) false (.reg 3) (.reg 4), none, none⟩, ⟨.field 0 1 false (.reg 5), none, none⟩, ⟨.bin .gtr (.reg 6) (.cst (.int .i64 0)), (some 15), none⟩])
    (.cond (.loc 15)
     (.seq (.region [⟨.mov (.cst (.int .i64 14)), (some 4), none⟩])
     .ret)
     .skip))
    (.seq (.region [⟨.mov (.loc 0), none, none⟩, ⟨.nilCheck (.reg 0), none, none⟩, ⟨.fieldAddr 8 (.reg 1), none, none⟩, ⟨.load1 (.reg 2), none, none⟩, ⟨.mov (.loc 5), none, none⟩, ⟨.build [(.int .i64 0)] [(0, 1, (.cst (.int .i64 1)))], none, none⟩, ⟨.update (.leaf .int) (.reg 3) (.reg 4) (.reg 5), none, none⟩])
    (.region [⟨.mov (.loc 0), none, none⟩, ⟨.nilCheck (.reg 0), none, none⟩, ⟨.fieldAddr 10 (.reg 1), none, none⟩, ⟨.load1 (.reg 2), none, none⟩, ⟨.mov (.loc 5), none, none⟩, ⟨.build [(.int .i64 0)] [(0, 1, (.cst (.int .i64 1)))], none, none⟩, ⟨.update (.leaf .int) (.reg 3) (.reg 4) (.reg 5), none, none⟩])))))
   (.region [⟨.bin .add (.loc 13) (.cst (.int .i64 1)), none, none⟩, ⟨.mov (.reg 0), (some 13), none⟩]))))
def t44 : TFunc := ⟨3, 28, [.loc 4],
 (.seq (.region [⟨.boxL 3 (.loc 1), none, none⟩, ⟨.mov (.cst (.int .i64 0)), (some 4), none⟩])
 (.seq (.block 0
  (.seq (.region [⟨.mov (.loc 2), none, none⟩, ⟨.bin .geq (.reg 0) (.cst (.int .i64 4000)), none, none⟩, ⟨.mov (.reg 1), (some 9), none⟩])
  (.cond (.loc 9)
   (.seq (.region [⟨.mov (.cst (.int .i64 5)), (some 4), none⟩])
   .ret)
   (.seq (.region [⟨.mov (.loc 0), none, none⟩, ⟨.loadN 5 (.loc 3), none, none⟩, ⟨.call false false 87 [(.reg 0), (.reg 1)], none, none⟩, ⟨.un .not (.reg 2), none, none⟩, ⟨.mov (.reg 3), (some 10), none⟩])
   (.cond (.loc 10)
    (.seq (.region [⟨.mov (.cst (.int .i64 4)), (some 4), none⟩])
    .ret)
    .skip)))))
 (.seq (.seq (.region [⟨.fieldAddr 2 (.loc 3), none, none⟩, ⟨.load1 (.reg 0), (some 11), none⟩, ⟨.len .sl (.reg 1), (some 12), none⟩, ⟨.mov (.cst (.int .i64 0)), (some 13), none⟩])
 (.block 1
  (.loop t44L2)))
 (.seq (.seq (.region [⟨.fieldAddr 0 (.loc 3), none, none⟩, ⟨.load1 (.reg 0), none, none⟩, ⟨.bin .eql (.reg 1) (.cst (.int .i64 1)), (some 16), none⟩])
 (.cond (.loc 16)
  (.seq (.seq (.draw [0, 1, 2, 3, 4, 5, 6, 7, 8] [] [⟨.mov (.loc 0), none, none⟩, ⟨.nilCheck (.reg 0), none, none⟩, ⟨.fieldAddr 9 (.reg 1), none, none⟩, ⟨.load1 (.reg 2), none, none⟩, ⟨.fieldAddr 1 (.loc 3), none, none⟩, ⟨.load1 (.reg 4), none, none⟩, ⟨.lookup (.leaf .int) (.agg [(.int .i64 0)]) false (.reg 3) (.reg 5), none, none⟩, ⟨.field 0 1 false (.reg 6), none, none⟩, ⟨.bin .gtr (.reg 7) (.cst (.int .i64 0)), (some 17), none⟩])
  (.cond (.loc 17)
   (.seq (.region [⟨.mov (.cst (.int .i64 14)), (some 4), none⟩])
   .ret)
   .skip))
  (.draw [0, 1, 2, 3, 4, 5, 6] [(7, [], [])] [⟨.mov (.loc 0), none, none⟩, ⟨.nilCheck (.reg 0), none, none⟩, ⟨.fieldAddr 9 (.reg 1), none, none⟩, ⟨.load1 (.reg 2), none, none⟩, ⟨.fieldAddr 1 (.loc 3), none, none⟩, ⟨.load1 (.reg 4), none, none⟩, ⟨.build [(.int .i64 0)] [(0, 1, (.cst (.int .i64 1)))], none, none⟩, ⟨.update (.leaf .int) (.reg 3) (.reg 5) (.reg 6), none, none⟩]))
  .skip))
 (.seq (.seq (.draw [0, 1, 2, 3, 4, 5, 6, 7, 8, 9, 10, 11, 12, 13, 14, 15, 16, 17, 18] [] [⟨.fieldAddr 0 (.loc 3), none, none⟩, ⟨.load1 (.reg 0), none, none⟩, ⟨.bin .eql (.reg 1) (.cst (.int .i64 2)), none, none⟩, ⟨.mov (.reg 2), none, none⟩, ⟨.fieldAddr 0 (.loc 3), none, (some (3, false))⟩, ⟨.load1 (.reg 4), none, (some (3, false))⟩, ⟨.bin .eql (.reg 5) (.cst (.int .i64 4)), none, (some (3, false))⟩, ⟨.pick (.reg 3) (.cst (.bool true)) (.reg 6), none, none⟩, ⟨.mov (.reg 7), none, none⟩, ⟨.mov (.loc 0), none, (some (8, true))⟩, ⟨.nilCheck (.reg 9), none, (some (8, true))⟩, ⟨.fieldAddr 10 (.reg 10), none, (some (8, true))⟩, ⟨.load1 (.reg 11), none, (some (8, true))⟩, ⟨.fieldAddr 1 (.loc 3), none, (some (8, true))⟩, ⟨.load1 (.reg 13), none, (some (8, true))⟩, ⟨.lookup (.leaf .int) (.agg [(.int .i64 0)]) false (.reg 12) (.reg 14), none, (some (8, true))⟩, ⟨.field 0 1 false (.reg 15), none, (some (8, true))⟩, ⟨.bin .eql (.reg 16) (.cst (.int .i64 0)), none, (some (8, true))⟩, ⟨.pick (.reg 8) (.reg 17) (.cst (.bool false)), (some 18), none⟩])
 (.cond (.loc 18)
  (.seq (.region [⟨.mov (.cst (.int .i64 6)), (some 4), none⟩])
  .ret)
  .skip))
 (.seq (.seq (.region [⟨.fieldAddr 4 (.loc 3), none, none⟩, ⟨.load1 (.reg 0), (some 19), none⟩, ⟨.len .sl (.reg 1), (some 20), none⟩, ⟨.mov (.cst (.int .i64 0)), (some 21), none⟩])
 (.block 3
  (.loop t44L1)))
 (.seq (.seq (.region [⟨.fieldAddr 2 (.loc 3), none, none⟩, ⟨.load1 (.reg 0), (some 24), none⟩, ⟨.len .sl (.reg 1), (some 25), none⟩, ⟨.mov (.cst (.int .i64 0)), (some 26), none⟩])
 (.block 5
  (.loop t44L0)))
 (.seq (.region [⟨.mov (.cst (.int .i64 0)), (some 4), none⟩])
 .ret))))))))⟩
theorem c44 : compFunc Tryz.prog opts a44 Tryz.f44 = some t44 := by kernel_rfl
def a45 : Ann := { slots := [0, 1, 2, 5, 10, 11, 12, 13], lb := [5, 2], mu := [], trunc := [], draws := [] }
def t45L0 : TCode := (.seq (.region [⟨.bin .lss (.loc 6) (.loc 5), (some 7), none⟩])
   (.seq (.cond (.loc 7)
    .skip
    (.exit 0))
   (.seq (.block 1
    (.seq (.region [⟨.indexAddrS 5 (.loc 4) (.loc 6), none, none⟩, ⟨.loadN 5 (.reg 0), none, none⟩, ⟨.allocL 3 [(.int .i64 0), (.int .i64 0), (.sl .nil []), (.bool false), (.sl .nil [])], none, none⟩, ⟨.store 5 (.reg 2) (.reg 1), none, none⟩])
    (.region [⟨.loadN 5 (.loc 3), none, none⟩, ⟨.mov (.loc 1), none, none⟩, ⟨.call false false 45 [(.reg 0), (.reg 1)], none, none⟩])))
   (.region [⟨.bin .add (.loc 6) (.cst (.int .i64 1)), none, none⟩, ⟨.mov (.reg 0), (some 6), none⟩]))))
def t45 : TFunc := ⟨2, 8, [],
 (.seq (.region [⟨.boxL 2 (.loc 0), none, none⟩])
 (.seq (.region [⟨.mov (.loc 1), none, none⟩, ⟨.loadN 5 (.loc 2), none, none⟩, ⟨.callv (.reg 0) [(.reg 1)], none, none⟩])
 (.seq (.region [⟨.fieldAddr 4 (.loc 2), none, none⟩, ⟨.load1 (.reg 0), (some 4), none⟩, ⟨.len .sl (.reg 1), (some 5), none⟩, ⟨.mov (.cst (.int .i64 0)), (some 6), none⟩])
 (.block 0
  (.loop t45L0)))))⟩
theorem c45 : compFunc Tryz.prog opts a45 Tryz.f45 = some t45 := by kernel_rfl
def a47 : Ann := { slots := [0, 2], lb := [], mu := [], trunc := [], draws := [] }
def t47 : TFunc := ⟨1, 2, [.loc 1],
 (.seq (.region [⟨.mov (.cst (.sl .nil [])), (some 1), none⟩])
 (.seq (.region [⟨.mov (.loc 0), none, none⟩, ⟨.call false false 89 [(.reg 0)], none, none⟩, ⟨.call false false 88 [(.reg 1)], none, none⟩, ⟨.mov (.reg 2), (some 1), none⟩])
 .ret))⟩
theorem c47 : compFunc Tryz.prog opts a47 Tryz.f47 = some t47 := by kernel_rfl
def a49 : Ann := { slots := [0, 1, 2, 3, 4, 6, 8, 24, 33, 34, 35, 36], lb := [8], mu := [], trunc := [], draws := [] }
def t49L0 : TCode := (.seq (.region [⟨.bin .lss (.loc 10) (.loc 9), (some 11), none⟩])
   (.seq (.cond (.loc 11)
    .skip
    (.exit 0))
   (.seq (.block 1
    (.seq (.region [⟨.indexAddrS 5 (.loc 8) (.loc 10), none, none⟩, ⟨.loadN 5 (.reg 0), none, none⟩, ⟨.allocL 6 [(.int .i64 0), (.int .i64 0), (.sl .nil []), (.bool false), (.sl .nil [])], none, none⟩, ⟨.store 5 (.reg 2) (.reg 1), none, none⟩])
    (.region [⟨.loadN 5 (.loc 6), none, none⟩, ⟨.load1 (.loc 4), none, none⟩, ⟨.mov (.loc 2), none, none⟩, ⟨.call false false 49 [(.reg 0), (.reg 1), (.reg 2)], none, none⟩])))
   (.region [⟨.bin .add (.loc 10) (.cst (.int .i64 1)), none, none⟩, ⟨.mov (.reg 0), (some 10), none⟩]))))
def t49 : TFunc := ⟨3, 12, [],
 (.seq (.region [⟨.boxH 26 (.loc 0), (some 3), none⟩, ⟨.boxH 56 (.loc 1), (some 4), none⟩])
 (.seq (.seq (.region [⟨.fieldAddr 0 (.loc 3), none, none⟩, ⟨.load1 (.reg 0), none, none⟩, ⟨.bin .eql (.reg 1) (.cst (.int .i64 2)), none, none⟩, ⟨.mov (.reg 2), none, none⟩, ⟨.fieldAddr 0 (.loc 3), none, (some (3, false))⟩, ⟨.load1 (.reg 4), none, (some (3, false))⟩, ⟨.bin .eql (.reg 5) (.cst (.int .i64 4)), none, (some (3, false))⟩, ⟨.pick (.reg 3) (.cst (.bool true)) (.reg 6), none, none⟩, ⟨.mov (.reg 7), none, none⟩, ⟨.load1 (.loc 4), none, (some (8, true))⟩, ⟨.fieldAddr 1 (.loc 3), none, (some (8, true))⟩, ⟨.load1 (.reg 10), none, (some (8, true))⟩, ⟨.lookup (.leaf .int) (.agg [(.int .i64 0)]) false (.reg 9) (.reg 11), none, (some (8, true))⟩, ⟨.field 0 1 false (.reg 12), none, (some (8, true))⟩, ⟨.bin .eql (.reg 13) (.cst (.int .i64 0)), none, (some (8, true))⟩, ⟨.pick (.reg 8) (.reg 14) (.cst (.bool false)), (some 7), none⟩])
 (.cond (.loc 7)
  (.region [⟨.mov (.loc 2), none, none⟩, ⟨.fieldAddr 1 (.loc 3), none, none⟩, ⟨.load1 (.reg 1), none, none⟩, ⟨.build [(.int .i64 0)] [], none, none⟩, ⟨.update (.leaf .int) (.reg 0) (.reg 2) (.reg 3), none, none⟩])
  .skip))
 (.seq (.region [⟨.mkFn 90 [] [(.loc 3), (.loc 4)], none, none⟩, ⟨.mov (.reg 0), (some 5), none⟩])
 (.seq (.region [⟨.mov (.loc 5), none, none⟩, ⟨.callv (.reg 0) [(.cst (.int .i64 1))], none, none⟩])
 (.seq (.seq (.region [⟨.fieldAddr 4 (.loc 3), none, none⟩, ⟨.load1 (.reg 0), (some 8), none⟩, ⟨.len .sl (.reg 1), (some 9), none⟩, ⟨.mov (.cst (.int .i64 0)), (some 10), none⟩])
 (.block 0
  (.loop t49L0)))
 (.region [⟨.mov (.loc 5), none, none⟩, ⟨.callv (.reg 0) [(.cst (.int .i64 (-1)))], none, none⟩]))))))⟩
theorem c49 : compFunc Tryz.prog opts a49 Tryz.f49 = some t49 := by kernel_rfl
def a50 : Ann := { slots := [0, 1, 2, 3, 4, 13], lb := [3, 1], mu := [], trunc := [], draws := [(5, ⟨[0, 0, 1, 7], [0, 1, 2], [(3, [], [])]⟩)] }
def t50L0 : TCode := (.seq (.seq (.region [⟨.fieldAddr 0 (.loc 1), none, none⟩, ⟨.load1 (.reg 0), none, none⟩, ⟨.bin .eql (.reg 1) (.cst (.int .i64 6)), none, none⟩, ⟨.mov (.reg 2), none, none⟩, ⟨.fieldAddr 3 (.loc 1), none, (some (3, true))⟩, ⟨.load1 (.reg 4), none, (some (3, true))⟩, ⟨.len .sl (.reg 5), none, (some (3, true))⟩, ⟨.bin .eql (.reg 6) (.cst (.int .i64 2)), none, (some (3, true))⟩, ⟨.pick (.reg 3) (.reg 7) (.cst (.bool false)), (some 5), none⟩])
   (.cond (.loc 5)
    .skip
    (.exit 0)))
   (.block 1
    (.seq (.region [⟨.mov (.loc 4), none, none⟩, ⟨.fieldAddr 3 (.loc 1), none, none⟩, ⟨.load1 (.reg 1), none, none⟩, ⟨.indexAddrS 5 (.reg 2) (.cst (.int .i64 0)), none, none⟩, ⟨.loadN 5 (.reg 3), none, none⟩, ⟨.lit false [(.int .i64 0), (.int .i64 0), (.str []), (.sl .nil []), (.int .i64 0)] 1 [(0, (.reg 4))], none, none⟩, ⟨.append false 5 64 39 (.reg 0) (.reg 5), none, none⟩, ⟨.mov (.reg 6), (some 4), none⟩])
    (.region [⟨.fieldAddr 3 (.loc 1), none, none⟩, ⟨.load1 (.reg 0), none, none⟩, ⟨.indexAddrS 5 (.reg 1) (.cst (.int .i64 1)), none, none⟩, ⟨.loadN 5 (.reg 2), none, none⟩, ⟨.store 5 (.loc 1) (.reg 3), none, none⟩]))))
def t50 : TFunc := ⟨1, 6, [.loc 2, .cell 3 5 true],
 (.seq (.region [⟨.boxL 1 (.loc 0), none, none⟩, ⟨.mov (.cst (.sl .nil [])), (some 2), none⟩, ⟨.allocL 3 [(.int .i64 0), (.int .i64 0), (.str []), (.sl .nil []), (.int .i64 0)], none, none⟩])
 (.seq (.region [⟨.mov (.cst (.sl .nil [])), (some 4), none⟩])
 (.seq (.block 0
  (.loop t50L0))
 (.seq (.draw [0, 1, 2] [(3, [], [])] [⟨.mov (.loc 4), none, none⟩, ⟨.loadN 5 (.loc 1), none, none⟩, ⟨.mov (.reg 0), (some 2), none⟩, ⟨.store 5 (.loc 3) (.reg 1), none, none⟩])
 .ret))))⟩
theorem c50 : compFunc Tryz.prog opts a50 Tryz.f50 = some t50 := by kernel_rfl
def a51 : Ann := { slots := [0, 2, 3, 4, 5, 7, 8, 17, 22], lb := [], mu := [], trunc := [], draws := [] }
def t51L0 : TCode := (.seq (.seq (.region [⟨.mov (.loc 6), none, none⟩, ⟨.mov (.loc 3), none, none⟩, ⟨.len .sl (.reg 1), none, none⟩, ⟨.bin .lss (.reg 0) (.reg 2), (some 8), none⟩])
   (.cond (.loc 8)
    .skip
    (.exit 0)))
   (.seq (.block 1
    (.region [⟨.mov (.loc 5), none, none⟩, ⟨.mov (.loc 3), none, none⟩, ⟨.mov (.loc 6), none, none⟩, ⟨.indexAddrS 2 (.reg 1) (.reg 2), none, none⟩, ⟨.fieldAddr 0 (.reg 3), none, none⟩, ⟨.load1 (.reg 4), none, none⟩, ⟨.lit false [(.int .i64 0)] 1 [(0, (.reg 5))], none, none⟩, ⟨.append false 1 8 3 (.reg 0) (.reg 6), none, none⟩, ⟨.mov (.reg 7), (some 5), none⟩]))
   (.region [⟨.mov (.loc 6), none, none⟩, ⟨.bin .add (.reg 0) (.cst (.int .i64 1)), none, none⟩, ⟨.mov (.reg 1), (some 6), none⟩])))
def t51 : TFunc := ⟨1, 9, [.loc 1, .loc 2],
 (.seq (.region [⟨.mov (.cst (.sl .nil [])), (some 1), none⟩, ⟨.mov (.cst (.int .i64 0)), (some 2), none⟩])
 (.seq (.region [⟨.mov (.loc 0), none, none⟩, ⟨.conv .strBytes (.reg 0), none, none⟩, ⟨.call true false 91 [(.reg 1)], none, none⟩, ⟨.mov (.reg 2), none, none⟩, ⟨.extract 0 (.reg 3), none, none⟩, ⟨.extract 1 (.reg 3), none, none⟩, ⟨.extract 2 (.reg 3), none, none⟩, ⟨.mov (.reg 4), (some 3), none⟩, ⟨.mov (.reg 5), (some 4), none⟩, ⟨.mov (.reg 6), none, none⟩])
 (.seq (.seq (.region [⟨.mov (.loc 4), none, none⟩, ⟨.bin .neq (.reg 0) (.cst (.int .i64 0)), (some 7), none⟩])
 (.cond (.loc 7)
  (.seq (.region [⟨.mov (.loc 4), none, none⟩, ⟨.mov (.cst (.sl .nil [])), (some 1), none⟩, ⟨.mov (.reg 0), (some 2), none⟩])
  .ret)
  .skip))
 (.seq (.region [⟨.mov (.cst (.sl .nil [])), (some 5), none⟩])
 (.seq (.seq (.region [⟨.mov (.cst (.int .i64 0)), (some 6), none⟩])
 (.block 0
  (.loop t51L0)))
 (.seq (.region [⟨.mov (.loc 5), none, none⟩, ⟨.mov (.reg 0), (some 1), none⟩, ⟨.mov (.cst (.int .i64 0)), (some 2), none⟩])
 .ret))))))⟩
theorem c51 : compFunc Tryz.prog opts a51 Tryz.f51 = some t51 := by kernel_rfl
def a52 : Ann := { slots := [0, 2, 3, 5, 13, 23, 27, 39], lb := [], mu := [], trunc := [], draws := [] }
def t52L0 : TCode := (.seq (.seq (.region [⟨.mov (.loc 2), none, none⟩, ⟨.mov (.loc 0), none, none⟩, ⟨.len .str (.reg 1), none, none⟩, ⟨.bin .lss (.reg 0) (.reg 2), (some 6), none⟩])
   (.cond (.loc 6)
    .skip
    (.exit 0)))
   (.seq (.block 1
    (.seq (.region [⟨.mov (.loc 0), none, none⟩, ⟨.mov (.loc 2), none, none⟩, ⟨.indexS (.reg 0) (.reg 1), none, none⟩, ⟨.bin .lss (.reg 2) (.cst (.int .u8 48)), none, none⟩, ⟨.mov (.reg 3), none, none⟩, ⟨.mov (.loc 0), none, (some (4, false))⟩, ⟨.mov (.loc 2), none, (some (4, false))⟩, ⟨.indexS (.reg 5) (.reg 6), none, (some (4, false))⟩, ⟨.bin .gtr (.reg 7) (.cst (.int .u8 57)), none, (some (4, false))⟩, ⟨.pick (.reg 4) (.cst (.bool true)) (.reg 8), (some 7), none⟩])
    (.cond (.loc 7)
     (.seq (.region [⟨.mov (.cst (.bool false)), (some 1), none⟩])
     .ret)
     .skip)))
   (.region [⟨.mov (.loc 2), none, none⟩, ⟨.bin .add (.reg 0) (.cst (.int .i64 1)), none, none⟩, ⟨.mov (.reg 1), (some 2), none⟩])))
def t52 : TFunc := ⟨1, 8, [.loc 1],
 (.seq (.region [⟨.mov (.cst (.bool false)), (some 1), none⟩])
 (.seq (.seq (.region [⟨.mov (.loc 0), none, none⟩, ⟨.bin .eql (.reg 0) (.cst (.str [48])), (some 3), none⟩])
 (.cond (.loc 3)
  (.seq (.region [⟨.mov (.cst (.bool true)), (some 1), none⟩])
  .ret)
  .skip))
 (.seq (.seq (.region [⟨.mov (.loc 0), none, none⟩, ⟨.len .str (.reg 0), none, none⟩, ⟨.bin .gtr (.reg 1) (.cst (.int .i64 0)), none, none⟩, ⟨.mov (.reg 2), none, none⟩, ⟨.mov (.loc 0), none, (some (3, true))⟩, ⟨.indexS (.reg 4) (.cst (.int .i64 0)), none, (some (3, true))⟩, ⟨.bin .eql (.reg 5) (.cst (.int .u8 45)), none, (some (3, true))⟩, ⟨.pick (.reg 3) (.reg 6) (.cst (.bool false)), (some 4), none⟩])
 (.cond (.loc 4)
  (.region [⟨.mov (.loc 0), none, none⟩, ⟨.slice .str (.reg 0) (some (.cst (.int .i64 1))) none none, none, none⟩, ⟨.mov (.reg 1), (some 0), none⟩])
  .skip))
 (.seq (.seq (.region [⟨.mov (.loc 0), none, none⟩, ⟨.len .str (.reg 0), none, none⟩, ⟨.bin .eql (.reg 1) (.cst (.int .i64 0)), none, none⟩, ⟨.mov (.reg 2), none, none⟩, ⟨.mov (.loc 0), none, (some (3, false))⟩, ⟨.indexS (.reg 4) (.cst (.int .i64 0)), none, (some (3, false))⟩, ⟨.bin .eql (.reg 5) (.cst (.int .u8 48)), none, (some (3, false))⟩, ⟨.pick (.reg 3) (.cst (.bool true)) (.reg 6), (some 5), none⟩])
 (.cond (.loc 5)
  (.seq (.region [⟨.mov (.cst (.bool false)), (some 1), none⟩])
  .ret)
  .skip))
 (.seq (.seq (.region [⟨.mov (.cst (.int .i64 0)), (some 2), none⟩])
 (.block 0
  (.loop t52L0)))
 (.seq (.region [⟨.mov (.cst (.bool true)), (some 1), none⟩])
 .ret))))))⟩
theorem c52 : compFunc Tryz.prog opts a52 Tryz.f52 = some t52 := by kernel_rfl
def a53 : Ann := { slots := [0, 2], lb := [], mu := [], trunc := [], draws := [] }
def t53 : TFunc := ⟨1, 2, [.loc 1],
 (.seq (.region [⟨.mov (.cst (.bool false)), (some 1), none⟩])
 (.seq (.region [⟨.mov (.loc 0), none, none⟩, ⟨.bin .geq (.reg 0) (.cst (.int .i64 0)), none, none⟩, ⟨.mov (.reg 1), none, none⟩, ⟨.mov (.loc 0), none, (some (2, true))⟩, ⟨.bin .leq (.reg 3) (.cst (.int .i64 1114111)), none, (some (2, true))⟩, ⟨.pick (.reg 2) (.reg 4) (.cst (.bool false)), none, none⟩, ⟨.mov (.reg 5), none, none⟩, ⟨.mov (.loc 0), none, (some (6, true))⟩, ⟨.bin .lss (.reg 7) (.cst (.int .i64 55296)), none, (some (6, true))⟩, ⟨.mov (.reg 8), none, (some (6, true))⟩, ⟨.mov (.loc 0), none, (some (9, false))⟩, ⟨.bin .gtr (.reg 10) (.cst (.int .i64 57343)), none, (some (9, false))⟩, ⟨.pick (.reg 9) (.cst (.bool true)) (.reg 11), none, (some (6, true))⟩, ⟨.pick (.reg 6) (.reg 12) (.cst (.bool false)), none, none⟩, ⟨.mov (.reg 13), (some 1), none⟩])
 .ret))⟩
theorem c53 : compFunc Tryz.prog opts a53 Tryz.f53 = some t53 := by kernel_rfl
def a54 : Ann := { slots := [0, 1, 2, 6, 7, 8, 9, 14, 15, 16, 17, 18, 30], lb := [9, 8], mu := [], trunc := [], draws := [] }
def t54L0 : TCode := (.seq (.region [⟨.bin .lss (.loc 10) (.loc 9), (some 11), none⟩])
   (.seq (.cond (.loc 11)
    .skip
    (.exit 0))
   (.seq (.block 1
    (.seq (.region [⟨.mov (.loc 10), none, none⟩, ⟨.indexAddrS 5 (.loc 8) (.loc 10), none, none⟩, ⟨.loadN 5 (.reg 1), none, none⟩, ⟨.allocL 5 [(.int .i64 0), (.int .i64 0), (.str []), (.sl .nil []), (.int .i64 0)], none, none⟩, ⟨.mov (.reg 0), (some 4), none⟩, ⟨.store 5 (.reg 3) (.reg 2), none, none⟩])
    (.seq (.region [⟨.mov (.loc 1), none, none⟩, ⟨.mov (.loc 4), none, none⟩, ⟨.indexAddrS 5 (.reg 0) (.reg 1), none, none⟩, ⟨.loadN 5 (.reg 2), none, none⟩, ⟨.allocL 6 [(.int .i64 0), (.int .i64 0), (.str []), (.sl .nil []), (.int .i64 0)], none, none⟩, ⟨.store 5 (.reg 4) (.reg 3), none, none⟩])
    (.seq (.region [⟨.mov (.loc 2), none, none⟩, ⟨.loadN 5 (.loc 5), none, none⟩, ⟨.loadN 5 (.loc 6), none, none⟩, ⟨.callv (.reg 0) [(.reg 1), (.reg 2)], none, none⟩, ⟨.un .not (.reg 3), (some 12), none⟩])
    (.cond (.loc 12)
     (.seq (.region [⟨.mov (.cst (.bool false)), (some 3), none⟩])
     .ret)
     .skip)))))
   (.region [⟨.bin .add (.loc 10) (.cst (.int .i64 1)), none, none⟩, ⟨.mov (.reg 0), (some 10), none⟩]))))
def t54 : TFunc := ⟨3, 13, [.loc 3],
 (.seq (.region [⟨.mov (.cst (.bool false)), (some 3), none⟩])
 (.seq (.seq (.region [⟨.mov (.loc 0), none, none⟩, ⟨.len .sl (.reg 0), none, none⟩, ⟨.mov (.loc 1), none, none⟩, ⟨.len .sl (.reg 2), none, none⟩, ⟨.bin .neq (.reg 1) (.reg 3), (some 7), none⟩])
 (.cond (.loc 7)
  (.seq (.region [⟨.mov (.cst (.bool false)), (some 3), none⟩])
  .ret)
  .skip))
 (.seq (.seq (.region [⟨.mov (.loc 0), (some 8), none⟩, ⟨.len .sl (.reg 0), (some 9), none⟩, ⟨.mov (.cst (.int .i64 0)), (some 10), none⟩])
 (.block 0
  (.loop t54L0)))
 (.seq (.region [⟨.mov (.cst (.bool true)), (some 3), none⟩])
 .ret))))⟩
theorem c54 : compFunc Tryz.prog opts a54 Tryz.f54 = some t54 := by kernel_rfl
def a55 : Ann := { slots := [0, 1, 2, 3, 4, 10, 20], lb := [3, 2], mu := [], trunc := [], draws := [(2, ⟨[0, 1, 3, 7, 0, 16, 48, 112, 255, 511], [0, 1, 2, 3, 4, 5, 6, 7], [(8, [], [9])]⟩), (4, ⟨[0, 1, 3, 7, 0, 16, 48, 112, 15, 511], [0, 1, 2, 3, 4, 5, 6, 7], [(8, [5, 7], []), (9, [], [])]⟩)] }
def t55L0 : TCode := (.seq (.seq (.region [⟨.loadN 5 (.loc 2), none, none⟩, ⟨.call false false 82 [(.reg 0)], none, none⟩, ⟨.mov (.reg 1), none, none⟩, ⟨.loadN 5 (.loc 3), none, (some (2, true))⟩, ⟨.call false false 82 [(.reg 3)], none, (some (2, true))⟩, ⟨.pick (.reg 2) (.reg 4) (.cst (.bool false)), (some 5), none⟩])
   (.cond (.loc 5)
    .skip
    (.exit 0)))
   (.block 1
    (.seq (.seq (.draw [0, 1, 2, 3, 4, 5, 6, 7] [(8, [], [9])] [⟨.fieldAddr 3 (.loc 2), none, none⟩, ⟨.load1 (.reg 0), none, none⟩, ⟨.indexAddrS 5 (.reg 1) (.cst (.int .i64 0)), none, none⟩, ⟨.loadN 5 (.reg 2), none, none⟩, ⟨.fieldAddr 3 (.loc 3), none, none⟩, ⟨.load1 (.reg 4), none, none⟩, ⟨.indexAddrS 5 (.reg 5) (.cst (.int .i64 0)), none, none⟩, ⟨.loadN 5 (.reg 6), none, none⟩, ⟨.call false false 55 [(.reg 3), (.reg 7)], none, none⟩, ⟨.un .not (.reg 8), (some 6), none⟩])
    (.cond (.loc 6)
     (.seq (.region [⟨.mov (.cst (.bool false)), (some 4), none⟩])
     .ret)
     .skip))
    (.draw [0, 1, 2, 3, 4, 5, 6, 7] [(8, [5, 7], []), (9, [], [])] [⟨.fieldAddr 3 (.loc 2), none, none⟩, ⟨.load1 (.reg 0), none, none⟩, ⟨.indexAddrS 5 (.reg 1) (.cst (.int .i64 1)), none, none⟩, ⟨.loadN 5 (.reg 2), none, none⟩, ⟨.fieldAddr 3 (.loc 3), none, none⟩, ⟨.load1 (.reg 4), none, none⟩, ⟨.indexAddrS 5 (.reg 5) (.cst (.int .i64 1)), none, none⟩, ⟨.loadN 5 (.reg 6), none, none⟩, ⟨.store 5 (.loc 2) (.reg 3), none, none⟩, ⟨.store 5 (.loc 3) (.reg 7), none, none⟩]))))
def t55 : TFunc := ⟨2, 7, [.loc 4],
 (.seq (.region [⟨.boxL 2 (.loc 0), none, none⟩, ⟨.boxL 3 (.loc 1), none, none⟩, ⟨.mov (.cst (.bool false)), (some 4), none⟩])
 (.seq (.block 0
  (.loop t55L0))
 (.seq (.region [⟨.fieldAddr 0 (.loc 2), none, none⟩, ⟨.load1 (.reg 0), none, none⟩, ⟨.fieldAddr 0 (.loc 3), none, none⟩, ⟨.load1 (.reg 2), none, none⟩, ⟨.bin .eql (.reg 1) (.reg 3), none, none⟩, ⟨.mov (.reg 4), none, none⟩, ⟨.fieldAddr 1 (.loc 2), none, (some (5, true))⟩, ⟨.load1 (.reg 6), none, (some (5, true))⟩, ⟨.fieldAddr 1 (.loc 3), none, (some (5, true))⟩, ⟨.load1 (.reg 8), none, (some (5, true))⟩, ⟨.bin .eql (.reg 7) (.reg 9), none, (some (5, true))⟩, ⟨.pick (.reg 5) (.reg 10) (.cst (.bool false)), none, none⟩, ⟨.mov (.reg 11), none, none⟩, ⟨.fieldAddr 2 (.loc 2), none, (some (12, true))⟩, ⟨.load1 (.reg 13), none, (some (12, true))⟩, ⟨.fieldAddr 2 (.loc 3), none, (some (12, true))⟩, ⟨.load1 (.reg 15), none, (some (12, true))⟩, ⟨.bin .eql (.reg 14) (.reg 16), none, (some (12, true))⟩, ⟨.pick (.reg 12) (.reg 17) (.cst (.bool false)), none, none⟩, ⟨.mov (.reg 18), none, none⟩, ⟨.fieldAddr 3 (.loc 2), none, (some (19, true))⟩, ⟨.load1 (.reg 20), none, (some (19, true))⟩, ⟨.fieldAddr 3 (.loc 3), none, (some (19, true))⟩, ⟨.load1 (.reg 22), none, (some (19, true))⟩, ⟨.call false false 54 [(.reg 21), (.reg 23), (.fn 55)], none, (some (19, true))⟩, ⟨.pick (.reg 19) (.reg 24) (.cst (.bool false)), none, none⟩, ⟨.mov (.reg 25), (some 4), none⟩])
 .ret)))⟩
theorem c55 : compFunc Tryz.prog opts a55 Tryz.f55 = some t55 := by kernel_rfl
def a56 : Ann := { slots := [0, 1, 2, 3, 4], lb := [3, 2], mu := [], trunc := [], draws := [] }
def t56 : TFunc := ⟨2, 5, [.loc 4],
 (.seq (.region [⟨.boxL 2 (.loc 0), none, none⟩, ⟨.boxL 3 (.loc 1), none, none⟩, ⟨.mov (.cst (.bool false)), (some 4), none⟩])
 (.seq (.region [⟨.fieldAddr 0 (.loc 2), none, none⟩, ⟨.load1 (.reg 0), none, none⟩, ⟨.fieldAddr 0 (.loc 3), none, none⟩, ⟨.load1 (.reg 2), none, none⟩, ⟨.bin .eql (.reg 1) (.reg 3), none, none⟩, ⟨.mov (.reg 4), none, none⟩, ⟨.fieldAddr 1 (.loc 2), none, (some (5, true))⟩, ⟨.load1 (.reg 6), none, (some (5, true))⟩, ⟨.fieldAddr 1 (.loc 3), none, (some (5, true))⟩, ⟨.load1 (.reg 8), none, (some (5, true))⟩, ⟨.bin .eql (.reg 7) (.reg 9), none, (some (5, true))⟩, ⟨.pick (.reg 5) (.reg 10) (.cst (.bool false)), none, none⟩, ⟨.mov (.reg 11), none, none⟩, ⟨.fieldAddr 3 (.loc 2), none, (some (12, true))⟩, ⟨.load1 (.reg 13), none, (some (12, true))⟩, ⟨.fieldAddr 3 (.loc 3), none, (some (12, true))⟩, ⟨.load1 (.reg 15), none, (some (12, true))⟩, ⟨.eqB false .bool (.reg 14) (.reg 16), none, (some (12, true))⟩, ⟨.pick (.reg 12) (.reg 17) (.cst (.bool false)), none, none⟩, ⟨.mov (.reg 18), none, none⟩, ⟨.fieldAddr 2 (.loc 2), none, (some (19, true))⟩, ⟨.load1 (.reg 20), none, (some (19, true))⟩, ⟨.fieldAddr 2 (.loc 3), none, (some (19, true))⟩, ⟨.load1 (.reg 22), none, (some (19, true))⟩, ⟨.call true false 92 [(.reg 21), (.reg 23)], none, (some (19, true))⟩, ⟨.pick (.reg 19) (.reg 24) (.cst (.bool false)), none, none⟩, ⟨.mov (.reg 25), none, none⟩, ⟨.fieldAddr 4 (.loc 2), none, (some (26, true))⟩, ⟨.load1 (.reg 27), none, (some (26, true))⟩, ⟨.fieldAddr 4 (.loc 3), none, (some (26, true))⟩, ⟨.load1 (.reg 29), none, (some (26, true))⟩, ⟨.call false false 93 [(.reg 28), (.reg 30), (.fn 56)], none, (some (26, true))⟩, ⟨.pick (.reg 26) (.reg 31) (.cst (.bool false)), none, none⟩, ⟨.mov (.reg 32), (some 4), none⟩])
 .ret))⟩
theorem c56 : compFunc Tryz.prog opts a56 Tryz.f56 = some t56 := by kernel_rfl
def a57 : Ann := { slots := [0, 1, 2, 3, 4, 5, 6, 7, 8, 9, 10, 55, 59, 71, 76, 90], lb := [8, 6, 3, 2], mu := [], trunc := [], draws := [(8, ⟨[0, 0, 3, 7, 0, 0, 48, 112, 255, 511], [0, 1, 2, 3, 4, 5, 6, 7], [(8, [], [9])]⟩), (13, ⟨[0, 1, 0, 7, 15, 0, 32, 0, 224, 480, 1023, 2047], [0, 1, 2, 3, 4, 5, 6, 7, 8, 9], [(10, [], [11])]⟩)] }
def t57L0 : TCode := (.seq (.seq (.region [⟨.mov (.loc 10), none, none⟩, ⟨.fieldAddr 3 (.loc 6), none, none⟩, ⟨.load1 (.reg 1), none, none⟩, ⟨.len .sl (.reg 2), none, none⟩, ⟨.bin .lss (.reg 0) (.reg 3), (some 14), none⟩])
   (.cond (.loc 14)
    .skip
    (.exit 2)))
   (.seq (.block 3
    (.seq (.draw [0, 1, 2, 3, 4, 5, 6, 7, 8, 9] [(10, [], [11])] [⟨.fieldAddr 3 (.loc 6), none, none⟩, ⟨.load1 (.reg 0), none, none⟩, ⟨.mov (.loc 10), none, none⟩, ⟨.indexAddrS 5 (.reg 1) (.reg 2), none, none⟩, ⟨.loadN 5 (.reg 3), none, none⟩, ⟨.fieldAddr 3 (.loc 8), none, none⟩, ⟨.load1 (.reg 5), none, none⟩, ⟨.mov (.loc 10), none, none⟩, ⟨.indexAddrS 5 (.reg 6) (.reg 7), none, none⟩, ⟨.loadN 5 (.reg 8), none, none⟩, ⟨.call true false 57 [(.reg 4), (.reg 9)], none, none⟩, ⟨.un .not (.reg 10), (some 15), none⟩])
    (.cond (.loc 15)
     (.seq (.region [⟨.mov (.cst (.bool false)), (some 4), none⟩])
     .ret)
     .skip)))
   (.region [⟨.mov (.loc 10), none, none⟩, ⟨.bin .add (.reg 0) (.cst (.int .i64 1)), none, none⟩, ⟨.mov (.reg 1), (some 10), none⟩])))
def t57L1 : TCode := (.seq (.seq (.region [⟨.mov (.loc 9), none, none⟩, ⟨.mov (.loc 5), none, none⟩, ⟨.len .sl (.reg 1), none, none⟩, ⟨.bin .lss (.reg 0) (.reg 2), (some 12), none⟩])
   (.cond (.loc 12)
    .skip
    (.exit 0)))
   (.seq (.block 1
    (.seq (.draw [0, 1, 2, 3, 4, 5, 6, 7] [(8, [], [9])] [⟨.mov (.loc 5), none, none⟩, ⟨.mov (.loc 9), none, none⟩, ⟨.indexAddrS 5 (.reg 0) (.reg 1), none, none⟩, ⟨.loadN 5 (.reg 2), none, none⟩, ⟨.mov (.loc 7), none, none⟩, ⟨.mov (.loc 9), none, none⟩, ⟨.indexAddrS 5 (.reg 4) (.reg 5), none, none⟩, ⟨.loadN 5 (.reg 6), none, none⟩, ⟨.call true false 57 [(.reg 3), (.reg 7)], none, none⟩, ⟨.un .not (.reg 8), (some 13), none⟩])
    (.cond (.loc 13)
     (.seq (.region [⟨.mov (.cst (.bool false)), (some 4), none⟩])
     .ret)
     .skip)))
   (.region [⟨.mov (.loc 9), none, none⟩, ⟨.bin .add (.reg 0) (.cst (.int .i64 1)), none, none⟩, ⟨.mov (.reg 1), (some 9), none⟩])))
def t57 : TFunc := ⟨2, 16, [.loc 4],
 (.seq (.region [⟨.boxL 2 (.loc 0), none, none⟩, ⟨.boxL 3 (.loc 1), none, none⟩, ⟨.mov (.cst (.bool false)), (some 4), none⟩])
 (.seq (.region [⟨.loadN 5 (.loc 2), none, none⟩, ⟨.call true false 50 [(.reg 0)], none, none⟩, ⟨.mov (.reg 1), none, none⟩, ⟨.extract 0 (.reg 2), none, none⟩, ⟨.extract 1 (.reg 2), none, none⟩, ⟨.allocL 6 [(.int .i64 0), (.int .i64 0), (.str []), (.sl .nil []), (.int .i64 0)], none, none⟩, ⟨.mov (.reg 3), (some 5), none⟩, ⟨.store 5 (.reg 5) (.reg 4), none, none⟩])
 (.seq (.region [⟨.loadN 5 (.loc 3), none, none⟩, ⟨.call true false 50 [(.reg 0)], none, none⟩, ⟨.mov (.reg 1), none, none⟩, ⟨.extract 0 (.reg 2), none, none⟩, ⟨.extract 1 (.reg 2), none, none⟩, ⟨.allocL 8 [(.int .i64 0), (.int .i64 0), (.str []), (.sl .nil []), (.int .i64 0)], none, none⟩, ⟨.mov (.reg 3), (some 7), none⟩, ⟨.store 5 (.reg 5) (.reg 4), none, none⟩])
 (.seq (.seq (.region [⟨.mov (.loc 5), none, none⟩, ⟨.len .sl (.reg 0), none, none⟩, ⟨.mov (.loc 7), none, none⟩, ⟨.len .sl (.reg 2), none, none⟩, ⟨.bin .neq (.reg 1) (.reg 3), none, none⟩, ⟨.mov (.reg 4), none, none⟩, ⟨.fieldAddr 0 (.loc 6), none, (some (5, false))⟩, ⟨.load1 (.reg 6), none, (some (5, false))⟩, ⟨.fieldAddr 0 (.loc 8), none, (some (5, false))⟩, ⟨.load1 (.reg 8), none, (some (5, false))⟩, ⟨.bin .neq (.reg 7) (.reg 9), none, (some (5, false))⟩, ⟨.pick (.reg 5) (.cst (.bool true)) (.reg 10), none, none⟩, ⟨.mov (.reg 11), none, none⟩, ⟨.fieldAddr 1 (.loc 6), none, (some (12, false))⟩, ⟨.load1 (.reg 13), none, (some (12, false))⟩, ⟨.fieldAddr 1 (.loc 8), none, (some (12, false))⟩, ⟨.load1 (.reg 15), none, (some (12, false))⟩, ⟨.bin .neq (.reg 14) (.reg 16), none, (some (12, false))⟩, ⟨.pick (.reg 12) (.cst (.bool true)) (.reg 17), none, none⟩, ⟨.mov (.reg 18), none, none⟩, ⟨.fieldAddr 2 (.loc 6), none, (some (19, false))⟩, ⟨.load1 (.reg 20), none, (some (19, false))⟩, ⟨.fieldAddr 2 (.loc 8), none, (some (19, false))⟩, ⟨.load1 (.reg 22), none, (some (19, false))⟩, ⟨.bin .neq (.reg 21) (.reg 23), none, (some (19, false))⟩, ⟨.pick (.reg 19) (.cst (.bool true)) (.reg 24), none, none⟩, ⟨.mov (.reg 25), none, none⟩, ⟨.fieldAddr 3 (.loc 6), none, (some (26, false))⟩, ⟨.load1 (.reg 27), none, (some (26, false))⟩, ⟨.len .sl (.reg 28), none, (some (26, false))⟩, ⟨.fieldAddr 3 (.loc 8), none, (some (26, false))⟩, ⟨.load1 (.reg 30), none, (some (26, false))⟩, ⟨.len .sl (.reg 31), none, (some (26, false))⟩, ⟨.bin .neq (.reg 29) (.reg 32), none, (some (26, false))⟩, ⟨.pick (.reg 26) (.cst (.bool true)) (.reg 33), (some 11), none⟩])
 (.cond (.loc 11)
  (.seq (.region [⟨.mov (.cst (.bool false)), (some 4), none⟩])
  .ret)
  .skip))
 (.seq (.seq (.region [⟨.mov (.cst (.int .i64 0)), (some 9), none⟩])
 (.block 0
  (.loop t57L1)))
 (.seq (.seq (.region [⟨.mov (.cst (.int .i64 0)), (some 10), none⟩])
 (.block 2
  (.loop t57L0)))
 (.seq (.region [⟨.mov (.cst (.bool true)), (some 4), none⟩])
 .ret)))))))⟩
theorem c57 : compFunc Tryz.prog opts a57 Tryz.f57 = some t57 := by kernel_rfl
def a58 : Ann := { slots := [0, 1, 2, 3, 4, 5, 6, 43, 48, 61, 66, 80], lb := [3, 2], mu := [], trunc := [], draws := [(6, ⟨[0, 1, 0, 7, 15, 0, 32, 0, 224, 480, 1023], [0, 1, 2, 3, 4, 5, 6, 7, 8, 9, 10], []⟩), (11, ⟨[0, 1, 0, 7, 15, 0, 32, 0, 224, 480, 1023, 2047], [0, 1, 2, 3, 4, 5, 6, 7, 8, 9], [(10, [], [11])]⟩)] }
def t58L0 : TCode := (.seq (.seq (.region [⟨.mov (.loc 6), none, none⟩, ⟨.fieldAddr 4 (.loc 2), none, none⟩, ⟨.load1 (.reg 1), none, none⟩, ⟨.len .sl (.reg 2), none, none⟩, ⟨.bin .lss (.reg 0) (.reg 3), (some 10), none⟩])
   (.cond (.loc 10)
    .skip
    (.exit 2)))
   (.seq (.block 3
    (.seq (.draw [0, 1, 2, 3, 4, 5, 6, 7, 8, 9] [(10, [], [11])] [⟨.fieldAddr 4 (.loc 2), none, none⟩, ⟨.load1 (.reg 0), none, none⟩, ⟨.mov (.loc 6), none, none⟩, ⟨.indexAddrS 5 (.reg 1) (.reg 2), none, none⟩, ⟨.loadN 5 (.reg 3), none, none⟩, ⟨.fieldAddr 4 (.loc 3), none, none⟩, ⟨.load1 (.reg 5), none, none⟩, ⟨.mov (.loc 6), none, none⟩, ⟨.indexAddrS 5 (.reg 6) (.reg 7), none, none⟩, ⟨.loadN 5 (.reg 8), none, none⟩, ⟨.call false false 58 [(.reg 4), (.reg 9)], none, none⟩, ⟨.un .not (.reg 10), (some 11), none⟩])
    (.cond (.loc 11)
     (.seq (.region [⟨.mov (.cst (.bool false)), (some 4), none⟩])
     .ret)
     .skip)))
   (.region [⟨.mov (.loc 6), none, none⟩, ⟨.bin .add (.reg 0) (.cst (.int .i64 1)), none, none⟩, ⟨.mov (.reg 1), (some 6), none⟩])))
def t58L1 : TCode := (.seq (.seq (.region [⟨.mov (.loc 5), none, none⟩, ⟨.fieldAddr 2 (.loc 2), none, none⟩, ⟨.load1 (.reg 1), none, none⟩, ⟨.len .sl (.reg 2), none, none⟩, ⟨.bin .lss (.reg 0) (.reg 3), (some 8), none⟩])
   (.cond (.loc 8)
    .skip
    (.exit 0)))
   (.seq (.block 1
    (.seq (.draw [0, 1, 2, 3, 4, 5, 6, 7, 8, 9, 10] [] [⟨.fieldAddr 2 (.loc 2), none, none⟩, ⟨.load1 (.reg 0), none, none⟩, ⟨.mov (.loc 5), none, none⟩, ⟨.indexAddrS 1 (.reg 1) (.reg 2), none, none⟩, ⟨.load1 (.reg 3), none, none⟩, ⟨.fieldAddr 2 (.loc 3), none, none⟩, ⟨.load1 (.reg 5), none, none⟩, ⟨.mov (.loc 5), none, none⟩, ⟨.indexAddrS 1 (.reg 6) (.reg 7), none, none⟩, ⟨.load1 (.reg 8), none, none⟩, ⟨.bin .neq (.reg 4) (.reg 9), (some 9), none⟩])
    (.cond (.loc 9)
     (.seq (.region [⟨.mov (.cst (.bool false)), (some 4), none⟩])
     .ret)
     .skip)))
   (.region [⟨.mov (.loc 5), none, none⟩, ⟨.bin .add (.reg 0) (.cst (.int .i64 1)), none, none⟩, ⟨.mov (.reg 1), (some 5), none⟩])))
def t58 : TFunc := ⟨2, 12, [.loc 4],
 (.seq (.region [⟨.boxL 2 (.loc 0), none, none⟩, ⟨.boxL 3 (.loc 1), none, none⟩, ⟨.mov (.cst (.bool false)), (some 4), none⟩])
 (.seq (.seq (.region [⟨.fieldAddr 0 (.loc 2), none, none⟩, ⟨.load1 (.reg 0), none, none⟩, ⟨.fieldAddr 0 (.loc 3), none, none⟩, ⟨.load1 (.reg 2), none, none⟩, ⟨.bin .neq (.reg 1) (.reg 3), none, none⟩, ⟨.mov (.reg 4), none, none⟩, ⟨.fieldAddr 1 (.loc 2), none, (some (5, false))⟩, ⟨.load1 (.reg 6), none, (some (5, false))⟩, ⟨.fieldAddr 1 (.loc 3), none, (some (5, false))⟩, ⟨.load1 (.reg 8), none, (some (5, false))⟩, ⟨.bin .neq (.reg 7) (.reg 9), none, (some (5, false))⟩, ⟨.pick (.reg 5) (.cst (.bool true)) (.reg 10), none, none⟩, ⟨.mov (.reg 11), none, none⟩, ⟨.fieldAddr 3 (.loc 2), none, (some (12, false))⟩, ⟨.load1 (.reg 13), none, (some (12, false))⟩, ⟨.fieldAddr 3 (.loc 3), none, (some (12, false))⟩, ⟨.load1 (.reg 15), none, (some (12, false))⟩, ⟨.eqB true .bool (.reg 14) (.reg 16), none, (some (12, false))⟩, ⟨.pick (.reg 12) (.cst (.bool true)) (.reg 17), none, none⟩, ⟨.mov (.reg 18), none, none⟩, ⟨.fieldAddr 2 (.loc 2), none, (some (19, false))⟩, ⟨.load1 (.reg 20), none, (some (19, false))⟩, ⟨.len .sl (.reg 21), none, (some (19, false))⟩, ⟨.fieldAddr 2 (.loc 3), none, (some (19, false))⟩, ⟨.load1 (.reg 23), none, (some (19, false))⟩, ⟨.len .sl (.reg 24), none, (some (19, false))⟩, ⟨.bin .neq (.reg 22) (.reg 25), none, (some (19, false))⟩, ⟨.pick (.reg 19) (.cst (.bool true)) (.reg 26), none, none⟩, ⟨.mov (.reg 27), none, none⟩, ⟨.fieldAddr 4 (.loc 2), none, (some (28, false))⟩, ⟨.load1 (.reg 29), none, (some (28, false))⟩, ⟨.len .sl (.reg 30), none, (some (28, false))⟩, ⟨.fieldAddr 4 (.loc 3), none, (some (28, false))⟩, ⟨.load1 (.reg 32), none, (some (28, false))⟩, ⟨.len .sl (.reg 33), none, (some (28, false))⟩, ⟨.bin .neq (.reg 31) (.reg 34), none, (some (28, false))⟩, ⟨.pick (.reg 28) (.cst (.bool true)) (.reg 35), (some 7), none⟩])
 (.cond (.loc 7)
  (.seq (.region [⟨.mov (.cst (.bool false)), (some 4), none⟩])
  .ret)
  .skip))
 (.seq (.seq (.region [⟨.mov (.cst (.int .i64 0)), (some 5), none⟩])
 (.block 0
  (.loop t58L1)))
 (.seq (.seq (.region [⟨.mov (.cst (.int .i64 0)), (some 6), none⟩])
 (.block 2
  (.loop t58L0)))
 (.seq (.region [⟨.mov (.cst (.bool true)), (some 4), none⟩])
 .ret)))))⟩
theorem c58 : compFunc Tryz.prog opts a58 Tryz.f58 = some t58 := by kernel_rfl
def a73 : Ann := { slots := [0, 2], lb := [2], mu := [], trunc := [], draws := [] }
def t73 : TFunc := ⟨1, 2, [.cell 1 5 true],
 (.seq (.region [⟨.allocL 1 [(.int .i64 0), (.int .i64 0), (.sl .nil []), (.bool false), (.sl .nil [])], none, none⟩])
 (.seq (.region [⟨.mov (.loc 0), none, none⟩, ⟨.build [(.int .i64 0), (.int .i64 0), (.sl .nil []), (.bool false), (.sl .nil [])] [(0, 1, (.cst (.int .i64 8))), (4, 1, (.reg 0))], none, none⟩, ⟨.store 5 (.loc 1) (.reg 1), none, none⟩])
 .ret))⟩
theorem c73 : compFunc Tryz.prog opts a73 Tryz.f73 = some t73 := by kernel_rfl
def a74 : Ann := { slots := [0, 1, 2, 3, 5, 6, 9, 12, 15, 18, 21, 24, 27, 30, 44, 47, 56, 67, 70, 73], lb := [2, 1], mu := [], trunc := [], draws := [(19, ⟨[0, 1, 3, 7, 0, 16, 55, 127, 0, 256, 887, 1911, 2047, 8191], [0, 1, 4, 5, 8, 9], [(2, [5, 9], [3]), (6, [9], [7]), (10, [], [11]), (12, [], [13])]⟩), (25, ⟨[0, 1, 3, 7, 0, 0, 32, 112, 255, 511, 1023], [0, 1, 2, 3, 4, 5, 6, 7, 8], [(9, [], [10])]⟩)] }
def t74 : TFunc := ⟨1, 20, [.cell 2 4 true, .loc 3],
 (.seq (.region [⟨.boxL 1 (.loc 0), none, none⟩, ⟨.allocL 2 [(.bool false), (.int .i64 0), (.bool false), (.str [])], none, none⟩, ⟨.mov (.cst (.bool false)), (some 3), none⟩])
 (.seq (.seq (.region [⟨.fieldAddr 0 (.loc 1), none, none⟩, ⟨.load1 (.reg 0), (some 4), none⟩])
 (.block 0
  (.seq (.region [⟨.bin .eql (.loc 4) (.cst (.int .i64 1)), none, none⟩, ⟨.mov (.reg 0), (some 5), none⟩])
  (.cond (.loc 5)
   (.seq (.region [⟨.build [(.bool false), (.int .i64 0), (.bool false), (.str [])] [(0, 1, (.cst (.bool true))), (1, 1, (.cst (.int .i64 0))), (2, 1, (.cst (.bool false))), (3, 1, (.cst (.str [99])))], none, none⟩, ⟨.store 4 (.loc 2) (.reg 0), none, none⟩, ⟨.mov (.cst (.bool true)), (some 3), none⟩])
   .ret)
   (.seq (.region [⟨.bin .eql (.loc 4) (.cst (.int .i64 2)), none, none⟩, ⟨.mov (.reg 0), (some 6), none⟩])
   (.cond (.loc 6)
    (.seq (.region [⟨.build [(.bool false), (.int .i64 0), (.bool false), (.str [])] [(0, 1, (.cst (.bool true))), (1, 1, (.cst (.int .i64 0))), (2, 1, (.cst (.bool false))), (3, 1, (.cst (.str [118])))], none, none⟩, ⟨.store 4 (.loc 2) (.reg 0), none, none⟩, ⟨.mov (.cst (.bool true)), (some 3), none⟩])
    .ret)
    (.seq (.region [⟨.bin .eql (.loc 4) (.cst (.int .i64 3)), none, none⟩, ⟨.mov (.reg 0), (some 7), none⟩])
    (.cond (.loc 7)
     (.seq (.region [⟨.build [(.bool false), (.int .i64 0), (.bool false), (.str [])] [(0, 1, (.cst (.bool true))), (1, 1, (.cst (.int .i64 0))), (2, 1, (.cst (.bool false))), (3, 1, (.cst (.str [103])))], none, none⟩, ⟨.store 4 (.loc 2) (.reg 0), none, none⟩, ⟨.mov (.cst (.bool true)), (some 3), none⟩])
     .ret)
     (.seq (.region [⟨.bin .eql (.loc 4) (.cst (.int .i64 4)), none, none⟩, ⟨.mov (.reg 0), (some 8), none⟩])
     (.cond (.loc 8)
      (.seq (.region [⟨.build [(.bool false), (.int .i64 0), (.bool false), (.str [])] [(0, 1, (.cst (.bool true))), (1, 1, (.cst (.int .i64 1))), (2, 1, (.cst (.bool false))), (3, 1, (.cst (.str [115, 101, 116, 33, 32, 118])))], none, none⟩, ⟨.store 4 (.loc 2) (.reg 0), none, none⟩, ⟨.mov (.cst (.bool true)), (some 3), none⟩])
      .ret)
      (.seq (.region [⟨.bin .eql (.loc 4) (.cst (.int .i64 5)), none, none⟩, ⟨.mov (.reg 0), (some 9), none⟩])
      (.cond (.loc 9)
       (.seq (.region [⟨.build [(.bool false), (.int .i64 0), (.bool false), (.str [])] [(0, 1, (.cst (.bool true))), (1, 1, (.cst (.int .i64 1))), (2, 1, (.cst (.bool false))), (3, 1, (.cst (.str [115, 101, 116, 33, 32, 103])))], none, none⟩, ⟨.store 4 (.loc 2) (.reg 0), none, none⟩, ⟨.mov (.cst (.bool true)), (some 3), none⟩])
       .ret)
       (.seq (.region [⟨.bin .eql (.loc 4) (.cst (.int .i64 6)), none, none⟩, ⟨.mov (.reg 0), (some 10), none⟩])
       (.cond (.loc 10)
        (.seq (.region [⟨.build [(.bool false), (.int .i64 0), (.bool false), (.str [])] [(0, 1, (.cst (.bool false))), (1, 1, (.cst (.int .i64 3))), (2, 1, (.cst (.bool false))), (3, 1, (.cst (.str [105, 102])))], none, none⟩, ⟨.store 4 (.loc 2) (.reg 0), none, none⟩, ⟨.mov (.cst (.bool true)), (some 3), none⟩])
        .ret)
        (.seq (.region [⟨.bin .eql (.loc 4) (.cst (.int .i64 7)), none, none⟩, ⟨.mov (.reg 0), (some 11), none⟩])
        (.cond (.loc 11)
         (.seq (.region [⟨.build [(.bool false), (.int .i64 0), (.bool false), (.str [])] [(0, 1, (.cst (.bool false))), (1, 1, (.cst (.int .i64 1))), (2, 1, (.cst (.bool false))), (3, 1, (.cst (.str [108, 97, 109, 98, 100, 97])))], none, none⟩, ⟨.store 4 (.loc 2) (.reg 0), none, none⟩, ⟨.mov (.cst (.bool true)), (some 3), none⟩])
         .ret)
         (.seq (.region [⟨.bin .eql (.loc 4) (.cst (.int .i64 8)), none, none⟩, ⟨.mov (.reg 0), (some 12), none⟩])
         (.cond (.loc 12)
          (.seq (.region [⟨.build [(.bool false), (.int .i64 0), (.bool false), (.str [])] [(0, 1, (.cst (.bool false))), (1, 1, (.cst (.int .i64 1))), (2, 1, (.cst (.bool true))), (3, 1, (.cst (.str [99, 97, 108, 108])))], none, none⟩, ⟨.store 4 (.loc 2) (.reg 0), none, none⟩, ⟨.mov (.cst (.bool true)), (some 3), none⟩])
          .ret)
          (.seq (.region [⟨.bin .eql (.loc 4) (.cst (.int .i64 9)), none, none⟩, ⟨.mov (.reg 0), (some 13), none⟩])
          (.cond (.loc 13)
           (.seq (.draw [0, 1, 4, 5, 8, 9] [(2, [5, 9], [3]), (6, [9], [7]), (10, [], [11]), (12, [], [13])] [⟨.fieldAddr 1 (.loc 1), none, none⟩, ⟨.load1 (.reg 0), none, none⟩, ⟨.call true false 108 [(.reg 1)], none, none⟩, ⟨.minmax true [(.cst (.int .i64 0)), (.reg 2)], none, none⟩, ⟨.fieldAddr 1 (.loc 1), none, none⟩, ⟨.load1 (.reg 4), none, none⟩, ⟨.call true false 109 [(.reg 5)], none, none⟩, ⟨.build [(.bool false), (.int .i64 0), (.bool false), (.str [])] [(0, 1, (.cst (.bool true))), (1, 1, (.reg 3)), (2, 1, (.cst (.bool false))), (3, 1, (.reg 6))], none, none⟩, ⟨.fieldAddr 1 (.loc 1), none, none⟩, ⟨.load1 (.reg 8), none, none⟩, ⟨.call true false 108 [(.reg 9)], none, none⟩, ⟨.bin .geq (.reg 10) (.cst (.int .i64 0)), none, none⟩, ⟨.store 4 (.loc 2) (.reg 7), none, none⟩, ⟨.mov (.reg 11), (some 3), none⟩])
           .ret)
           (.seq (.region [⟨.bin .eql (.loc 4) (.cst (.int .i64 10)), none, none⟩, ⟨.mov (.reg 0), (some 14), none⟩])
           (.cond (.loc 14)
            (.seq (.region [⟨.build [(.bool false), (.int .i64 0), (.bool false), (.str [])] [(0, 1, (.cst (.bool false))), (1, 1, (.cst (.int .i64 1))), (2, 1, (.cst (.bool true))), (3, 1, (.cst (.str [98, 101, 103, 105, 110])))], none, none⟩, ⟨.store 4 (.loc 2) (.reg 0), none, none⟩, ⟨.mov (.cst (.bool true)), (some 3), none⟩])
            .ret)
            (.seq (.region [⟨.bin .eql (.loc 4) (.cst (.int .i64 11)), none, none⟩, ⟨.mov (.reg 0), (some 15), none⟩])
            (.cond (.loc 15)
             (.seq (.seq (.region [⟨.fieldAddr 1 (.loc 1), none, none⟩, ⟨.load1 (.reg 0), none, none⟩, ⟨.bin .lss (.reg 1) (.cst (.int .i64 0)), none, none⟩, ⟨.mov (.reg 2), none, none⟩, ⟨.fieldAddr 1 (.loc 1), none, (some (3, false))⟩, ⟨.load1 (.reg 4), none, (some (3, false))⟩, ⟨.bin .gtr (.reg 5) (.cst (.int .i64 2)), none, (some (3, false))⟩, ⟨.pick (.reg 3) (.cst (.bool true)) (.reg 6), (some 16), none⟩])
             (.cond (.loc 16)
              (.seq (.region [⟨.build [(.bool false), (.int .i64 0), (.bool false), (.str [])] [], none, none⟩, ⟨.store 4 (.loc 2) (.reg 0), none, none⟩, ⟨.mov (.cst (.bool false)), (some 3), none⟩])
              .ret)
              .skip))
             (.seq (.draw [0, 1, 2, 3, 4, 5, 6, 7, 8] [(9, [], [10])] [⟨.fieldAddr 1 (.loc 1), none, none⟩, ⟨.load1 (.reg 0), none, none⟩, ⟨.bin .add (.reg 1) (.cst (.int .i64 1)), none, none⟩, ⟨.minmax false [(.reg 2), (.cst (.int .i64 2))], none, none⟩, ⟨.build [(.str []), (.str []), (.str [])] [(0, 1, (.cst (.str [99, 97, 108, 108, 47, 99, 99]))), (1, 1, (.cst (.str [97, 112, 112, 108, 121]))), (2, 1, (.cst (.str [99, 97, 108, 108, 45, 119, 105, 116, 104, 45, 118, 97, 108, 117, 101, 115])))], none, none⟩, ⟨.fieldAddr 1 (.loc 1), none, none⟩, ⟨.load1 (.reg 5), none, none⟩, ⟨.indexA 3 1 false (.reg 4) (.reg 6), none, none⟩, ⟨.build [(.bool false), (.int .i64 0), (.bool false), (.str [])] [(0, 1, (.cst (.bool true))), (1, 1, (.reg 3)), (2, 1, (.cst (.bool false))), (3, 1, (.reg 7))], none, none⟩, ⟨.store 4 (.loc 2) (.reg 8), none, none⟩, ⟨.mov (.cst (.bool true)), (some 3), none⟩])
             .ret))
             (.seq (.region [⟨.bin .eql (.loc 4) (.cst (.int .i64 12)), none, none⟩, ⟨.mov (.reg 0), (some 17), none⟩])
             (.cond (.loc 17)
              (.seq (.region [⟨.build [(.bool false), (.int .i64 0), (.bool false), (.str [])] [(0, 1, (.cst (.bool false))), (1, 1, (.cst (.int .i64 1))), (2, 1, (.cst (.bool false))), (3, 1, (.cst (.str [98, 111, 120])))], none, none⟩, ⟨.store 4 (.loc 2) (.reg 0), none, none⟩, ⟨.mov (.cst (.bool true)), (some 3), none⟩])
              .ret)
              (.seq (.region [⟨.bin .eql (.loc 4) (.cst (.int .i64 13)), none, none⟩, ⟨.mov (.reg 0), (some 18), none⟩])
              (.cond (.loc 18)
               (.seq (.region [⟨.build [(.bool false), (.int .i64 0), (.bool false), (.str [])] [(0, 1, (.cst (.bool false))), (1, 1, (.cst (.int .i64 1))), (2, 1, (.cst (.bool false))), (3, 1, (.cst (.str [117, 110, 98, 111, 120])))], none, none⟩, ⟨.store 4 (.loc 2) (.reg 0), none, none⟩, ⟨.mov (.cst (.bool true)), (some 3), none⟩])
               .ret)
               (.seq (.region [⟨.bin .eql (.loc 4) (.cst (.int .i64 14)), none, none⟩, ⟨.mov (.reg 0), (some 19), none⟩])
               (.cond (.loc 19)
                (.seq (.region [⟨.build [(.bool false), (.int .i64 0), (.bool false), (.str [])] [(0, 1, (.cst (.bool false))), (1, 1, (.cst (.int .i64 2))), (2, 1, (.cst (.bool false))), (3, 1, (.cst (.str [115, 101, 116, 45, 98, 111, 120, 33])))], none, none⟩, ⟨.store 4 (.loc 2) (.reg 0), none, none⟩, ⟨.mov (.cst (.bool true)), (some 3), none⟩])
                .ret)
                .skip))))))))))))))))))))))))))))))
 (.seq (.region [⟨.build [(.bool false), (.int .i64 0), (.bool false), (.str [])] [], none, none⟩, ⟨.store 4 (.loc 2) (.reg 0), none, none⟩, ⟨.mov (.cst (.bool false)), (some 3), none⟩])
 .ret)))⟩
theorem c74 : compFunc Tryz.prog opts a74 Tryz.f74 = some t74 := by kernel_rfl
def a75 : Ann := { slots := [0, 2], lb := [], mu := [], trunc := [], draws := [] }
def t75 : TFunc := ⟨1, 2, [.loc 1],
 (.seq (.region [⟨.mov (.cst (.str [])), (some 1), none⟩])
 (.seq (.region [⟨.mov (.loc 0), none, none⟩, ⟨.call true false 110 [(.reg 0)], none, none⟩, ⟨.mov (.reg 1), (some 1), none⟩])
 .ret))⟩
theorem c75 : compFunc Tryz.prog opts a75 Tryz.f75 = some t75 := by kernel_rfl
def a76 : Ann := { slots := [0, 1, 2, 3, 5, 6, 8, 9, 10, 11, 22, 32], lb := [1], mu := [(5, 4)], trunc := [], draws := [(11, ⟨[0, 0, 2, 7, 0, 0, 32, 112, 240, 496, 1023, 2047], [0, 1, 2, 3, 4, 5, 6, 7, 8, 9], [(10, [], [11])]⟩)] }
def t76L0 : TCode := (.seq (.region [⟨.bin .lss (.loc 8) (.loc 7), (some 9), none⟩])
   (.seq (.cond (.loc 9)
    .skip
    (.exit 0))
   (.seq (.block 1
    (.seq (.region [⟨.indexAddrS 1 (.loc 6) (.loc 8), none, none⟩, ⟨.load1 (.reg 0), none, none⟩, ⟨.mov (.reg 1), (some 4), none⟩])
    (.region [⟨.mov (.loc 3), none, none⟩, ⟨.mov (.loc 4), none, none⟩, ⟨.call true false 111 [(.reg 1)], none, none⟩, ⟨.lit false [(.str [])] 1 [(0, (.reg 2))], none, none⟩, ⟨.append true 1 16 9 (.reg 0) (.reg 3), none, none⟩, ⟨.mov (.reg 4), (some 3), none⟩])))
   (.region [⟨.bin .add (.loc 8) (.cst (.int .i64 1)), none, none⟩, ⟨.mov (.reg 0), (some 8), none⟩]))))
def t76 : TFunc := ⟨1, 12, [.loc 2],
 (.seq (.region [⟨.boxL 1 (.loc 0), none, none⟩, ⟨.mov (.cst (.str [])), (some 2), none⟩])
 (.seq (.region [⟨.mov (.cst (.sl .nil [])), (some 3), none⟩])
 (.seq (.seq (.region [⟨.fieldAddr 2 (.loc 1), none, none⟩, ⟨.load1 (.reg 0), (some 6), none⟩, ⟨.len .sl (.reg 1), (some 7), none⟩, ⟨.mov (.cst (.int .i64 0)), (some 8), none⟩])
 (.block 0
  (.loop t76L0)))
 (.seq (.seq (.region [⟨.mov (.loc 3), none, none⟩, ⟨.len .sl (.reg 0), none, none⟩, ⟨.mov (.reg 1), (some 5), none⟩])
 (.block 2
  (.seq (.region [⟨.fieldAddr 3 (.loc 1), none, none⟩, ⟨.load1 (.reg 0), none, none⟩, ⟨.mov (.reg 1), none, none⟩, ⟨.mov (.loc 5), none, (some (2, true))⟩, ⟨.bin .eql (.reg 3) (.cst (.int .i64 1)), none, (some (2, true))⟩, ⟨.pick (.reg 2) (.reg 4) (.cst (.bool false)), none, none⟩, ⟨.mov (.reg 5), (some 10), none⟩])
  (.cond (.loc 10)
   (.seq (.region [⟨.mov (.loc 3), none, none⟩, ⟨.indexAddrS 1 (.reg 0) (.cst (.int .i64 0)), none, none⟩, ⟨.load1 (.reg 1), none, none⟩, ⟨.mov (.reg 2), (some 2), none⟩])
   .ret)
   (.seq (.region [⟨.fieldAddr 3 (.loc 1), none, none⟩, ⟨.load1 (.reg 0), none, none⟩, ⟨.mov (.reg 1), (some 11), none⟩])
   (.cond (.loc 11)
    (.draw [0, 1, 2, 3, 4, 5, 6, 7, 8, 9] [(10, [], [11])] [⟨.mov (.loc 3), none, none⟩, ⟨.mov (.loc 5), none, none⟩, ⟨.bin .sub (.reg 1) (.cst (.int .i64 1)), none, none⟩, ⟨.slice (.sl 1) (.reg 0) none (some (.reg 2)) none, none, none⟩, ⟨.mov (.loc 3), none, none⟩, ⟨.mov (.loc 5), none, none⟩, ⟨.bin .sub (.reg 5) (.cst (.int .i64 1)), none, none⟩, ⟨.indexAddrS 1 (.reg 4) (.reg 6), none, none⟩, ⟨.load1 (.reg 7), none, none⟩, ⟨.lit false [(.str [])] 2 [(0, (.cst (.str [46]))), (1, (.reg 8))], none, none⟩, ⟨.append false 1 16 9 (.reg 3) (.reg 9), none, none⟩, ⟨.mov (.reg 10), (some 3), none⟩])
    .skip))))))
 (.seq (.region [⟨.mov (.loc 3), none, none⟩, ⟨.call true false 77 [(.reg 0), (.cst (.str [32]))], none, none⟩, ⟨.bin .add (.cst (.str [40])) (.reg 1), none, none⟩, ⟨.bin .add (.reg 2) (.cst (.str [41])), none, none⟩, ⟨.mov (.reg 3), (some 2), none⟩])
 .ret)))))⟩
theorem c76 : compFunc Tryz.prog opts a76 Tryz.f76 = some t76 := by kernel_rfl
def a77 : Ann := { slots := [0, 1, 4, 5, 7, 8, 10, 12, 13, 15, 22, 29, 39, 40, 41, 42, 49, 63, 64, 65, 66], lb := [], mu := [], trunc := [], draws := [] }
def t77L0 : TCode := (.seq (.region [⟨.bin .lss (.loc 19) (.loc 18), (some 20), none⟩])
   (.seq (.cond (.loc 20)
    .skip
    (.exit 3))
   (.seq (.block 4
    (.seq (.region [⟨.indexAddrS 1 (.loc 17) (.loc 19), none, none⟩, ⟨.load1 (.reg 0), none, none⟩, ⟨.mov (.reg 1), (some 6), none⟩])
    (.seq (.region [⟨.mov (.loc 1), none, none⟩, ⟨.call false false 78 [(.loc 5), (.reg 0)], none, none⟩])
    (.region [⟨.mov (.loc 6), none, none⟩, ⟨.call false false 78 [(.loc 5), (.reg 0)], none, none⟩]))))
   (.region [⟨.bin .add (.loc 19) (.cst (.int .i64 1)), none, none⟩, ⟨.mov (.reg 0), (some 19), none⟩]))))
def t77L1 : TCode := (.seq (.region [⟨.bin .lss (.loc 14) (.loc 13), (some 15), none⟩])
   (.seq (.cond (.loc 15)
    .skip
    (.exit 1))
   (.seq (.block 2
    (.seq (.region [⟨.indexAddrS 1 (.loc 12) (.loc 14), none, none⟩, ⟨.load1 (.reg 0), none, none⟩, ⟨.mov (.reg 1), (some 4), none⟩])
    (.seq (.seq (.region [⟨.mov (.loc 4), none, none⟩, ⟨.len .str (.reg 0), none, none⟩, ⟨.mov (.loc 3), none, none⟩, ⟨.bin .sub (.cst (.int .i64 9223372036854775807)) (.reg 2), none, none⟩, ⟨.bin .gtr (.reg 1) (.reg 3), (some 16), none⟩])
    (.cond (.loc 16)
     (.region [⟨.bad, none, none⟩, ⟨.bad, none, none⟩])
     .skip))
    (.region [⟨.mov (.loc 3), none, none⟩, ⟨.mov (.loc 4), none, none⟩, ⟨.len .str (.reg 1), none, none⟩, ⟨.bin .add (.reg 0) (.reg 2), none, none⟩, ⟨.mov (.reg 3), (some 3), none⟩]))))
   (.region [⟨.bin .add (.loc 14) (.cst (.int .i64 1)), none, none⟩, ⟨.mov (.reg 0), (some 14), none⟩]))))
def t77 : TFunc := ⟨2, 21, [.loc 2],
 (.seq (.region [⟨.mov (.cst (.str [])), (some 2), none⟩])
 (.seq (.seq (.region [⟨.mov (.loc 0), none, none⟩, ⟨.len .sl (.reg 0), (some 7), none⟩])
 (.block 0
  (.seq (.region [⟨.bin .eql (.loc 7) (.cst (.int .i64 0)), none, none⟩, ⟨.mov (.reg 0), (some 8), none⟩])
  (.cond (.loc 8)
   (.seq (.region [⟨.mov (.cst (.str [])), (some 2), none⟩])
   .ret)
   (.seq (.region [⟨.bin .eql (.loc 7) (.cst (.int .i64 1)), none, none⟩, ⟨.mov (.reg 0), (some 9), none⟩])
   (.cond (.loc 9)
    (.seq (.region [⟨.mov (.loc 0), none, none⟩, ⟨.indexAddrS 1 (.reg 0) (.cst (.int .i64 0)), none, none⟩, ⟨.load1 (.reg 1), none, none⟩, ⟨.mov (.reg 2), (some 2), none⟩])
    .ret)
    .skip))))))
 (.seq (.region [⟨.mov (.cst (.int .i64 0)), (some 3), none⟩])
 (.seq (.seq (.region [⟨.mov (.loc 1), none, none⟩, ⟨.len .str (.reg 0), none, none⟩, ⟨.bin .gtr (.reg 1) (.cst (.int .i64 0)), (some 10), none⟩])
 (.cond (.loc 10)
  (.seq (.seq (.region [⟨.mov (.loc 1), none, none⟩, ⟨.len .str (.reg 0), none, none⟩, ⟨.mov (.loc 0), none, none⟩, ⟨.len .sl (.reg 2), none, none⟩, ⟨.bin .sub (.reg 3) (.cst (.int .i64 1)), none, none⟩, ⟨.bin .quo (.cst (.int .i64 9223372036854775807)) (.reg 4), none, none⟩, ⟨.bin .geq (.reg 1) (.reg 5), (some 11), none⟩])
  (.cond (.loc 11)
   (.region [⟨.bad, none, none⟩, ⟨.bad, none, none⟩])
   .skip))
  (.region [⟨.mov (.loc 3), none, none⟩, ⟨.mov (.loc 1), none, none⟩, ⟨.len .str (.reg 1), none, none⟩, ⟨.mov (.loc 0), none, none⟩, ⟨.len .sl (.reg 3), none, none⟩, ⟨.bin .sub (.reg 4) (.cst (.int .i64 1)), none, none⟩, ⟨.bin .mul (.reg 2) (.reg 5), none, none⟩, ⟨.bin .add (.reg 0) (.reg 6), none, none⟩, ⟨.mov (.reg 7), (some 3), none⟩]))
  .skip))
 (.seq (.seq (.region [⟨.mov (.loc 0), (some 12), none⟩, ⟨.len .sl (.reg 0), (some 13), none⟩, ⟨.mov (.cst (.int .i64 0)), (some 14), none⟩])
 (.block 1
  (.loop t77L1)))
 (.seq (.region [⟨.allocH 98 [.nilp, (.sl .nil [])], (some 5), none⟩])
 (.seq (.region [⟨.mov (.loc 3), none, none⟩, ⟨.call false false 112 [(.loc 5), (.reg 0)], none, none⟩])
 (.seq (.region [⟨.mov (.loc 0), none, none⟩, ⟨.indexAddrS 1 (.reg 0) (.cst (.int .i64 0)), none, none⟩, ⟨.load1 (.reg 1), none, none⟩, ⟨.call false false 78 [(.loc 5), (.reg 2)], none, none⟩])
 (.seq (.seq (.region [⟨.mov (.loc 0), none, none⟩, ⟨.slice (.sl 1) (.reg 0) (some (.cst (.int .i64 1))) none none, (some 17), none⟩, ⟨.len .sl (.reg 1), (some 18), none⟩, ⟨.mov (.cst (.int .i64 0)), (some 19), none⟩])
 (.block 3
  (.loop t77L0)))
 (.seq (.region [⟨.prim 80 [(.loc 5)], none, none⟩, ⟨.mov (.reg 0), (some 2), none⟩])
 .ret))))))))))⟩
theorem c77 : compFunc Tryz.prog opts a77 Tryz.f77 = some t77 := by kernel_rfl
def a78 : Ann := { slots := [0, 1, 4, 5], lb := [], mu := [], trunc := [], draws := [] }
def t78 : TFunc := ⟨2, 4, [.loc 2, .loc 3],
 (.seq (.region [⟨.mov (.cst (.int .i64 0)), (some 2), none⟩, ⟨.mov (.cst .nili), (some 3), none⟩])
 (.seq (.region [⟨.mov (.loc 0), none, none⟩, ⟨.prim 113 [(.reg 0)], none, none⟩])
 (.seq (.region [⟨.mov (.loc 0), none, none⟩, ⟨.mov (.loc 0), none, none⟩, ⟨.nilCheck (.reg 1), none, none⟩, ⟨.fieldAddr 1 (.reg 2), none, none⟩, ⟨.load1 (.reg 3), none, none⟩, ⟨.mov (.loc 1), none, none⟩, ⟨.append false 1 1 5 (.reg 4) (.reg 5), none, none⟩, ⟨.nilCheck (.reg 0), none, none⟩, ⟨.fieldAddr 1 (.reg 7), none, none⟩, ⟨.store 1 (.reg 8) (.reg 6), none, none⟩])
 (.seq (.region [⟨.mov (.loc 1), none, none⟩, ⟨.len .str (.reg 0), none, none⟩, ⟨.mov (.reg 1), (some 2), none⟩, ⟨.mov (.cst .nili), (some 3), none⟩])
 .ret))))⟩
theorem c78 : compFunc Tryz.prog opts a78 Tryz.f78 = some t78 := by kernel_rfl
def a81 : Ann := { slots := [0, 1, 2], lb := [2], mu := [], trunc := [], draws := [] }
def t81 : TFunc := ⟨2, 3, [],
 (.seq (.region [⟨.boxL 2 (.loc 0), none, none⟩])
 (.region [⟨.load1 (.loc 1), none, none⟩, ⟨.bin .add (.reg 0) (.cst (.int .i64 1)), none, none⟩, ⟨.store 1 (.loc 1) (.reg 1), none, none⟩]))⟩
theorem c81 : compFunc Tryz.prog opts a81 Tryz.f81 = some t81 := by kernel_rfl
def a82 : Ann := { slots := [0, 1, 2], lb := [1], mu := [], trunc := [], draws := [] }
def t82 : TFunc := ⟨1, 3, [.loc 2],
 (.seq (.region [⟨.boxL 1 (.loc 0), none, none⟩, ⟨.mov (.cst (.bool false)), (some 2), none⟩])
 (.seq (.region [⟨.fieldAddr 0 (.loc 1), none, none⟩, ⟨.load1 (.reg 0), none, none⟩, ⟨.bin .eql (.reg 1) (.cst (.int .i64 6)), none, none⟩, ⟨.mov (.reg 2), none, none⟩, ⟨.fieldAddr 3 (.loc 1), none, (some (3, true))⟩, ⟨.load1 (.reg 4), none, (some (3, true))⟩, ⟨.len .sl (.reg 5), none, (some (3, true))⟩, ⟨.bin .eql (.reg 6) (.cst (.int .i64 2)), none, (some (3, true))⟩, ⟨.pick (.reg 3) (.reg 7) (.cst (.bool false)), none, none⟩, ⟨.mov (.reg 8), (some 2), none⟩])
 .ret))⟩
theorem c82 : compFunc Tryz.prog opts a82 Tryz.f82 = some t82 := by kernel_rfl
def a83 : Ann := { slots := [0, 1, 4], lb := [], mu := [], trunc := [], draws := [] }
def t83 : TFunc := ⟨2, 3, [.loc 2],
 (.seq (.region [⟨.mov (.cst (.bool false)), (some 2), none⟩])
 (.seq (.region [⟨.mov (.loc 0), none, none⟩, ⟨.mov (.loc 1), none, none⟩, ⟨.call false false 115 [(.reg 0), (.reg 1)], none, none⟩, ⟨.bin .geq (.reg 2) (.cst (.int .i64 0)), none, none⟩, ⟨.mov (.reg 3), (some 2), none⟩])
 .ret))⟩
theorem c83 : compFunc Tryz.prog opts a83 Tryz.f83 = some t83 := by kernel_rfl
def a84 : Ann := { slots := [0, 1, 2], lb := [1], mu := [], trunc := [], draws := [] }
def t84 : TFunc := ⟨1, 3, [.loc 2],
 (.seq (.region [⟨.boxL 1 (.loc 0), none, none⟩, ⟨.mov (.cst (.bool false)), (some 2), none⟩])
 (.seq (.region [⟨.loadN 5 (.loc 1), none, none⟩, ⟨.call false false 42 [(.reg 0)], none, none⟩, ⟨.un .not (.reg 1), none, none⟩, ⟨.mov (.reg 2), (some 2), none⟩])
 .ret))⟩
theorem c84 : compFunc Tryz.prog opts a84 Tryz.f84 = some t84 := by kernel_rfl
def a85 : Ann := { slots := [0, 1, 2, 4, 6, 7, 12, 22, 27, 32], lb := [1], mu := [], trunc := [], draws := [] }
def t85 : TFunc := ⟨1, 10, [.loc 2],
 (.seq (.region [⟨.boxL 1 (.loc 0), none, none⟩, ⟨.mov (.cst (.bool false)), (some 2), none⟩])
 (.seq (.seq (.region [⟨.fieldAddr 0 (.loc 1), none, none⟩, ⟨.load1 (.reg 0), (some 4), none⟩])
 (.block 0
  (.seq (.seq (.region [⟨.bin .eql (.loc 4) (.cst (.int .i64 0)), none, none⟩, ⟨.mov (.reg 0), (some 5), none⟩])
  (.cond (.loc 5)
   .skip
   (.seq (.region [⟨.bin .eql (.loc 4) (.cst (.int .i64 8)), none, none⟩, ⟨.mov (.reg 0), (some 5), none⟩])
   (.cond (.loc 5)
    .skip
    (.seq (.region [⟨.bin .eql (.loc 4) (.cst (.int .i64 9)), none, none⟩, ⟨.mov (.reg 0), (some 5), none⟩])
    (.cond (.loc 5)
     .skip
     (.region [⟨.bin .eql (.loc 4) (.cst (.int .i64 10)), none, none⟩, ⟨.mov (.reg 0), (some 5), none⟩])))))))
  (.cond (.loc 5)
   (.seq (.region [⟨.mov (.cst (.bool true)), (some 2), none⟩])
   .ret)
   (.seq (.region [⟨.bin .eql (.loc 4) (.cst (.int .i64 1)), none, none⟩, ⟨.mov (.reg 0), (some 6), none⟩])
   (.cond (.loc 6)
    (.seq (.region [⟨.fieldAddr 1 (.loc 1), none, none⟩, ⟨.load1 (.reg 0), none, none⟩, ⟨.bin .eql (.reg 1) (.cst (.int .i64 0)), none, none⟩, ⟨.mov (.reg 2), none, none⟩, ⟨.fieldAddr 1 (.loc 1), none, (some (3, false))⟩, ⟨.load1 (.reg 4), none, (some (3, false))⟩, ⟨.bin .eql (.reg 5) (.cst (.int .i64 1)), none, (some (3, false))⟩, ⟨.pick (.reg 3) (.cst (.bool true)) (.reg 6), none, none⟩, ⟨.mov (.reg 7), (some 2), none⟩])
    .ret)
    (.seq (.region [⟨.bin .eql (.loc 4) (.cst (.int .i64 2)), none, none⟩, ⟨.mov (.reg 0), (some 7), none⟩])
    (.cond (.loc 7)
     (.seq (.region [⟨.fieldAddr 2 (.loc 1), none, none⟩, ⟨.load1 (.reg 0), none, none⟩, ⟨.call true false 116 [(.reg 1)], none, none⟩, ⟨.mov (.reg 2), (some 2), none⟩])
     .ret)
     (.seq (.region [⟨.bin .eql (.loc 4) (.cst (.int .i64 3)), none, none⟩, ⟨.mov (.reg 0), (some 8), none⟩])
     (.cond (.loc 8)
      (.seq (.region [⟨.fieldAddr 1 (.loc 1), none, none⟩, ⟨.load1 (.reg 0), none, none⟩, ⟨.call true false 117 [(.reg 1)], none, none⟩, ⟨.mov (.reg 2), (some 2), none⟩])
      .ret)
      (.seq (.seq (.region [⟨.bin .eql (.loc 4) (.cst (.int .i64 4)), none, none⟩, ⟨.mov (.reg 0), (some 9), none⟩])
      (.cond (.loc 9)
       .skip
       (.region [⟨.bin .eql (.loc 4) (.cst (.int .i64 5)), none, none⟩, ⟨.mov (.reg 0), (some 9), none⟩])))
      (.cond (.loc 9)
       (.seq (.region [⟨.fieldAddr 2 (.loc 1), none, none⟩, ⟨.load1 (.reg 0), none, none⟩, ⟨.call true false 118 [(.reg 1)], none, none⟩, ⟨.mov (.reg 2), none, none⟩, ⟨.extract 0 (.reg 3), none, none⟩, ⟨.extract 1 (.reg 3), none, none⟩, ⟨.mov (.reg 4), none, none⟩, ⟨.mov (.reg 5), (some 3), none⟩])
       (.seq (.region [⟨.mov (.loc 3), none, none⟩, ⟨.bin .eql (.reg 0) (.cst (.int .i64 0)), none, none⟩, ⟨.mov (.reg 1), none, none⟩, ⟨.fieldAddr 0 (.loc 1), none, (some (2, true))⟩, ⟨.load1 (.reg 3), none, (some (2, true))⟩, ⟨.bin .eql (.reg 4) (.cst (.int .i64 4)), none, (some (2, true))⟩, ⟨.mov (.reg 5), none, (some (2, true))⟩, ⟨.fieldAddr 2 (.loc 1), none, (some (6, false))⟩, ⟨.load1 (.reg 7), none, (some (6, false))⟩, ⟨.bin .neq (.reg 8) (.cst (.str [])), none, (some (6, false))⟩, ⟨.pick (.reg 6) (.cst (.bool true)) (.reg 9), none, (some (2, true))⟩, ⟨.pick (.reg 2) (.reg 10) (.cst (.bool false)), none, none⟩, ⟨.mov (.reg 11), (some 2), none⟩])
       .ret))
       .skip))))))))))))
 (.seq (.region [⟨.mov (.cst (.bool false)), (some 2), none⟩])
 .ret)))⟩
theorem c85 : compFunc Tryz.prog opts a85 Tryz.f85 = some t85 := by kernel_rfl
def a86 : Ann := { slots := [0, 1, 2], lb := [1], mu := [], trunc := [], draws := [] }
def t86 : TFunc := ⟨1, 3, [.loc 2],
 (.seq (.region [⟨.boxL 1 (.loc 0), none, none⟩, ⟨.mov (.cst (.bool false)), (some 2), none⟩])
 (.seq (.region [⟨.loadN 5 (.loc 1), none, none⟩, ⟨.call false false 43 [(.reg 0)], none, none⟩, ⟨.un .not (.reg 1), none, none⟩, ⟨.mov (.reg 2), (some 2), none⟩])
 .ret))⟩
theorem c86 : compFunc Tryz.prog opts a86 Tryz.f86 = some t86 := by kernel_rfl
def a87 : Ann := { slots := [0, 1, 2, 3, 4, 5, 6, 7, 8, 73, 75, 76, 88, 100], lb := [5, 3], mu := [], trunc := [], draws := [(8, ⟨[0, 0, 2, 0, 8, 24, 56, 120, 248, 511, 1023], [0, 1, 2, 3, 4, 5, 6, 7, 8], [(9, [], [10])]⟩), (11, ⟨[0, 0, 2, 0, 8, 24, 56, 120, 255, 511], [0, 1, 2, 3, 4, 5, 6, 7], [(8, [], [9])]⟩), (14, ⟨[0, 0, 2, 0, 8, 24, 56, 120, 255, 511], [0, 1, 2, 3, 4, 5, 6, 7], [(8, [], [9])]⟩)] }
def t87 : TFunc := ⟨2, 14, [.loc 4],
 (.seq (.region [⟨.boxH 55 (.loc 0), (some 2), none⟩, ⟨.boxL 3 (.loc 1), none, none⟩, ⟨.mov (.cst (.bool false)), (some 4), none⟩])
 (.seq (.region [⟨.loadN 5 (.loc 3), none, none⟩, ⟨.call false false 74 [(.reg 0)], none, none⟩, ⟨.mov (.reg 1), none, none⟩, ⟨.extract 0 (.reg 2), none, none⟩, ⟨.extract 1 (.reg 2), none, none⟩, ⟨.allocL 5 [(.bool false), (.int .i64 0), (.bool false), (.str [])], none, none⟩, ⟨.store 4 (.reg 5) (.reg 3), none, none⟩, ⟨.mov (.reg 4), (some 6), none⟩])
 (.seq (.region [⟨.fieldAddr 0 (.loc 3), none, none⟩, ⟨.load1 (.reg 0), none, none⟩, ⟨.bin .eql (.reg 1) (.cst (.int .i64 7)), none, none⟩, ⟨.mov (.reg 2), (some 7), none⟩])
 (.seq (.seq (.region [⟨.mov (.loc 6), none, none⟩, ⟨.un .not (.reg 0), none, none⟩, ⟨.mov (.reg 1), none, none⟩, ⟨.fieldAddr 4 (.loc 3), none, (some (2, false))⟩, ⟨.load1 (.reg 3), none, (some (2, false))⟩, ⟨.len .sl (.reg 4), none, (some (2, false))⟩, ⟨.fieldAddr 1 (.loc 5), none, (some (2, false))⟩, ⟨.load1 (.reg 6), none, (some (2, false))⟩, ⟨.bin .lss (.reg 5) (.reg 7), none, (some (2, false))⟩, ⟨.pick (.reg 2) (.cst (.bool true)) (.reg 8), none, none⟩, ⟨.mov (.reg 9), none, none⟩, ⟨.fieldAddr 4 (.loc 3), none, (some (10, false))⟩, ⟨.load1 (.reg 11), none, (some (10, false))⟩, ⟨.len .sl (.reg 12), none, (some (10, false))⟩, ⟨.fieldAddr 1 (.loc 5), none, (some (10, false))⟩, ⟨.load1 (.reg 14), none, (some (10, false))⟩, ⟨.bin .gtr (.reg 13) (.reg 15), none, (some (10, false))⟩, ⟨.mov (.reg 16), none, (some (10, false))⟩, ⟨.fieldAddr 2 (.loc 5), none, (some (17, true))⟩, ⟨.load1 (.reg 18), none, (some (17, true))⟩, ⟨.un .not (.reg 19), none, (some (17, true))⟩, ⟨.pick (.reg 17) (.reg 20) (.cst (.bool false)), none, (some (10, false))⟩, ⟨.pick (.reg 10) (.cst (.bool true)) (.reg 21), none, none⟩, ⟨.mov (.reg 22), none, none⟩, ⟨.fieldAddr 0 (.loc 5), none, (some (23, false))⟩, ⟨.load1 (.reg 24), none, (some (23, false))⟩, ⟨.un .not (.reg 25), none, (some (23, false))⟩, ⟨.mov (.reg 26), none, (some (23, false))⟩, ⟨.fieldAddr 1 (.loc 3), none, (some (27, true))⟩, ⟨.load1 (.reg 28), none, (some (27, true))⟩, ⟨.bin .neq (.reg 29) (.cst (.int .i64 0)), none, (some (27, true))⟩, ⟨.pick (.reg 27) (.reg 30) (.cst (.bool false)), none, (some (23, false))⟩, ⟨.pick (.reg 23) (.cst (.bool true)) (.reg 31), none, none⟩, ⟨.mov (.reg 32), none, none⟩, ⟨.mov (.loc 7), none, (some (33, false))⟩, ⟨.un .not (.reg 34), none, (some (33, false))⟩, ⟨.mov (.reg 35), none, (some (33, false))⟩, ⟨.fieldAddr 2 (.loc 3), none, (some (36, true))⟩, ⟨.load1 (.reg 37), none, (some (36, true))⟩, ⟨.len .sl (.reg 38), none, (some (36, true))⟩, ⟨.bin .gtr (.reg 39) (.cst (.int .i64 0)), none, (some (36, true))⟩, ⟨.mov (.reg 40), none, (some (36, true))⟩, ⟨.fieldAddr 3 (.loc 3), none, (some (41, false))⟩, ⟨.load1 (.reg 42), none, (some (41, false))⟩, ⟨.pick (.reg 41) (.cst (.bool true)) (.reg 43), none, (some (36, true))⟩, ⟨.pick (.reg 36) (.reg 44) (.cst (.bool false)), none, (some (33, false))⟩, ⟨.pick (.reg 33) (.cst (.bool true)) (.reg 45), none, none⟩, ⟨.mov (.reg 46), none, none⟩, ⟨.fieldAddr 3 (.loc 3), none, (some (47, false))⟩, ⟨.load1 (.reg 48), none, (some (47, false))⟩, ⟨.mov (.reg 49), none, (some (47, false))⟩, ⟨.fieldAddr 2 (.loc 3), none, (some (50, true))⟩, ⟨.load1 (.reg 51), none, (some (50, true))⟩, ⟨.len .sl (.reg 52), none, (some (50, true))⟩, ⟨.bin .eql (.reg 53) (.cst (.int .i64 0)), none, (some (50, true))⟩, ⟨.pick (.reg 50) (.reg 54) (.cst (.bool false)), none, (some (47, false))⟩, ⟨.pick (.reg 47) (.cst (.bool true)) (.reg 55), (some 9), none⟩])
 (.cond (.loc 9)
  (.seq (.region [⟨.mov (.cst (.bool false)), (some 4), none⟩])
  .ret)
  .skip))
 (.seq (.region [⟨.allocH 135 [.nilf], (some 8), none⟩, ⟨.store 1 (.reg 0) (.fn 119), none, none⟩])
 (.seq (.seq (.region [⟨.fieldAddr 0 (.loc 3), none, none⟩, ⟨.load1 (.reg 0), (some 10), none⟩])
 (.block 0
  (.seq (.region [⟨.bin .eql (.loc 10) (.cst (.int .i64 1)), none, none⟩, ⟨.mov (.reg 0), (some 11), none⟩])
  (.cond (.loc 11)
   (.seq (.draw [0, 1, 2, 3, 4, 5, 6, 7, 8] [(9, [], [10])] [⟨.load1 (.loc 8), none, none⟩, ⟨.fieldAddr 1 (.loc 3), none, none⟩, ⟨.load1 (.reg 1), none, none⟩, ⟨.load1 (.loc 2), none, none⟩, ⟨.nilCheck (.reg 3), none, none⟩, ⟨.fieldAddr 0 (.reg 4), none, none⟩, ⟨.fieldAddr 7 (.reg 5), none, none⟩, ⟨.load1 (.reg 6), none, none⟩, ⟨.len .sl (.reg 7), none, none⟩, ⟨.callv (.reg 0) [(.reg 2), (.reg 8)], none, none⟩, ⟨.mov (.reg 9), (some 4), none⟩])
   .ret)
   (.seq (.seq (.region [⟨.bin .eql (.loc 10) (.cst (.int .i64 2)), none, none⟩, ⟨.mov (.reg 0), (some 12), none⟩])
   (.cond (.loc 12)
    .skip
    (.region [⟨.bin .eql (.loc 10) (.cst (.int .i64 4)), none, none⟩, ⟨.mov (.reg 0), (some 12), none⟩])))
   (.cond (.loc 12)
    (.seq (.draw [0, 1, 2, 3, 4, 5, 6, 7] [(8, [], [9])] [⟨.load1 (.loc 8), none, none⟩, ⟨.fieldAddr 1 (.loc 3), none, none⟩, ⟨.load1 (.reg 1), none, none⟩, ⟨.load1 (.loc 2), none, none⟩, ⟨.nilCheck (.reg 3), none, none⟩, ⟨.fieldAddr 0 (.reg 4), none, none⟩, ⟨.fieldAddr 6 (.reg 5), none, none⟩, ⟨.load1 (.reg 6), none, none⟩, ⟨.callv (.reg 0) [(.reg 2), (.reg 7)], none, none⟩, ⟨.mov (.reg 8), (some 4), none⟩])
    .ret)
    (.seq (.seq (.region [⟨.bin .eql (.loc 10) (.cst (.int .i64 3)), none, none⟩, ⟨.mov (.reg 0), (some 13), none⟩])
    (.cond (.loc 13)
     .skip
     (.region [⟨.bin .eql (.loc 10) (.cst (.int .i64 5)), none, none⟩, ⟨.mov (.reg 0), (some 13), none⟩])))
    (.cond (.loc 13)
     (.seq (.draw [0, 1, 2, 3, 4, 5, 6, 7] [(8, [], [9])] [⟨.load1 (.loc 8), none, none⟩, ⟨.fieldAddr 1 (.loc 3), none, none⟩, ⟨.load1 (.reg 1), none, none⟩, ⟨.load1 (.loc 2), none, none⟩, ⟨.nilCheck (.reg 3), none, none⟩, ⟨.fieldAddr 0 (.reg 4), none, none⟩, ⟨.fieldAddr 5 (.reg 5), none, none⟩, ⟨.load1 (.reg 6), none, none⟩, ⟨.callv (.reg 0) [(.reg 2), (.reg 7)], none, none⟩, ⟨.mov (.reg 8), (some 4), none⟩])
     .ret)
     .skip))))))))
 (.seq (.region [⟨.fieldAddr 2 (.loc 3), none, none⟩, ⟨.load1 (.reg 0), none, none⟩, ⟨.mkFn 121 [] [(.loc 8), (.loc 2)], none, none⟩, ⟨.call false false 120 [(.reg 1), (.reg 2)], none, none⟩, ⟨.un .not (.reg 3), none, none⟩, ⟨.mov (.reg 4), (some 4), none⟩])
 .ret)))))))⟩
theorem c87 : compFunc Tryz.prog opts a87 Tryz.f87 = some t87 := by kernel_rfl
def a88 : Ann := { slots := [0, 2, 3], lb := [], mu := [], trunc := [], draws := [] }
def t88 : TFunc := ⟨1, 3, [.loc 1],
 (.seq (.region [⟨.mov (.cst (.sl .nil [])), (some 1), none⟩])
 (.seq (.region [⟨.mov (.loc 0), none, none⟩, ⟨.call false false 122 [(.reg 0)], none, none⟩, ⟨.mov (.reg 1), (some 2), none⟩])
 (.seq (.region [⟨.mov (.loc 2), none, none⟩, ⟨.call false false 123 [(.reg 0)], none, none⟩])
 (.seq (.region [⟨.mov (.loc 2), none, none⟩, ⟨.mov (.reg 0), (some 1), none⟩])
 .ret))))⟩
theorem c88 : compFunc Tryz.prog opts a88 Tryz.f88 = some t88 := by kernel_rfl
def a89 : Ann := { slots := [0, 1, 2], lb := [], mu := [], trunc := [], draws := [] }
def t89 : TFunc := ⟨1, 3, [.loc 2],
 (.seq (.region [⟨.boxH 56 (.loc 0), (some 1), none⟩, ⟨.mov (.cst .nilf), (some 2), none⟩])
 (.seq (.region [⟨.mkFn 124 [] [(.loc 1)], none, none⟩, ⟨.mov (.reg 0), (some 2), none⟩])
 .ret))⟩
theorem c89 : compFunc Tryz.prog opts a89 Tryz.f89 = some t89 := by kernel_rfl
def a90 : Ann := { slots := [0, 1, 2, 5, 7, 8, 9, 10, 15], lb := [], mu := [], trunc := [], draws := [] }
def t90L0 : TCode := (.seq (.region [⟨.bin .lss (.loc 6) (.loc 5), (some 7), none⟩])
   (.seq (.cond (.loc 7)
    .skip
    (.exit 0))
   (.seq (.block 1
    (.seq (.region [⟨.indexAddrS 1 (.loc 4) (.loc 6), none, none⟩, ⟨.load1 (.reg 0), none, none⟩, ⟨.mov (.reg 1), (some 3), none⟩])
    (.seq (.region [⟨.fieldAddr 0 (.loc 1), none, none⟩, ⟨.load1 (.reg 0), none, none⟩, ⟨.bin .eql (.reg 1) (.cst (.int .i64 7)), (some 8), none⟩])
    (.cond (.loc 8)
     (.region [⟨.load1 (.loc 2), none, none⟩, ⟨.mov (.loc 3), none, none⟩, ⟨.load1 (.loc 2), none, none⟩, ⟨.mov (.loc 3), none, none⟩, ⟨.lookup (.leaf .int) (.agg [(.int .i64 0)]) false (.reg 2) (.reg 3), none, none⟩, ⟨.field 0 1 false (.reg 4), none, none⟩, ⟨.mov (.loc 0), none, none⟩, ⟨.bin .add (.reg 5) (.reg 6), none, none⟩, ⟨.build [(.int .i64 0)] [(0, 1, (.reg 7))], none, none⟩, ⟨.update (.leaf .int) (.reg 0) (.reg 1) (.reg 8), none, none⟩])
     .skip))))
   (.region [⟨.bin .add (.loc 6) (.cst (.int .i64 1)), none, none⟩, ⟨.mov (.reg 0), (some 6), none⟩]))))
def t90 : TFunc := ⟨3, 9, [],
 (.seq (.region [⟨.fieldAddr 2 (.loc 1), none, none⟩, ⟨.load1 (.reg 0), (some 4), none⟩, ⟨.len .sl (.reg 1), (some 5), none⟩, ⟨.mov (.cst (.int .i64 0)), (some 6), none⟩])
 (.block 0
  (.loop t90L0)))⟩
theorem c90 : compFunc Tryz.prog opts a90 Tryz.f90 = some t90 := by kernel_rfl
def a91 : Ann := { slots := [0, 2, 3, 4, 5, 6, 7, 8, 9, 13, 22], lb := [], mu := [], trunc := [], draws := [] }
def t91L0 : TCode := (.seq (.seq (.region [⟨.mov (.loc 5), none, none⟩, ⟨.mov (.loc 0), none, none⟩, ⟨.len .sl (.reg 1), none, none⟩, ⟨.bin .lss (.reg 0) (.reg 2), (some 9), none⟩])
   (.cond (.loc 9)
    .skip
    (.exit 0)))
   (.block 1
    (.seq (.region [⟨.mov (.loc 0), none, none⟩, ⟨.mov (.loc 5), none, none⟩, ⟨.call true false 125 [(.reg 0), (.reg 1)], none, none⟩, ⟨.mov (.reg 2), none, none⟩, ⟨.extract 0 (.reg 3), none, none⟩, ⟨.extract 1 (.reg 3), none, none⟩, ⟨.extract 2 (.reg 3), none, none⟩, ⟨.mov (.reg 4), (some 6), none⟩, ⟨.mov (.reg 5), (some 7), none⟩, ⟨.mov (.reg 6), (some 8), none⟩])
    (.seq (.seq (.region [⟨.mov (.loc 8), none, none⟩, ⟨.bin .neq (.reg 0) (.cst (.int .i64 0)), (some 10), none⟩])
    (.cond (.loc 10)
     (.seq (.region [⟨.mov (.loc 5), none, none⟩, ⟨.mov (.cst (.sl .nil [])), (some 1), none⟩, ⟨.mov (.cst (.int .i64 4)), (some 2), none⟩, ⟨.mov (.reg 0), (some 3), none⟩])
     .ret)
     .skip))
    (.seq (.region [⟨.mov (.loc 4), none, none⟩, ⟨.mov (.loc 6), none, none⟩, ⟨.mov (.loc 5), none, none⟩, ⟨.build [(.int .i64 0), (.int .i64 0)] [(0, 1, (.reg 1)), (1, 1, (.reg 2))], none, none⟩, ⟨.lit false [(.int .i64 0), (.int .i64 0)] 1 [(0, (.reg 3))], none, none⟩, ⟨.append false 2 16 113 (.reg 0) (.reg 4), none, none⟩, ⟨.mov (.reg 5), (some 4), none⟩])
    (.region [⟨.mov (.loc 5), none, none⟩, ⟨.mov (.loc 7), none, none⟩, ⟨.bin .add (.reg 0) (.reg 1), none, none⟩, ⟨.mov (.reg 2), (some 5), none⟩]))))))
def t91 : TFunc := ⟨1, 11, [.loc 1, .loc 2, .loc 3],
 (.seq (.region [⟨.mov (.cst (.sl .nil [])), (some 1), none⟩, ⟨.mov (.cst (.int .i64 0)), (some 2), none⟩, ⟨.mov (.cst (.int .i64 0)), (some 3), none⟩])
 (.seq (.region [⟨.mov (.cst (.sl .nil [])), (some 4), none⟩])
 (.seq (.region [⟨.mov (.cst (.int .i64 0)), (some 5), none⟩])
 (.seq (.block 0
  (.loop t91L0))
 (.seq (.region [⟨.mov (.loc 4), none, none⟩, ⟨.mov (.reg 0), (some 1), none⟩, ⟨.mov (.cst (.int .i64 0)), (some 2), none⟩, ⟨.mov (.cst (.int .i64 0)), (some 3), none⟩])
 .ret)))))⟩
theorem c91 : compFunc Tryz.prog opts a91 Tryz.f91 = some t91 := by kernel_rfl
def a92 : Ann := { slots := [0, 1, 4, 5, 10, 12, 13, 14, 24], lb := [], mu := [], trunc := [], draws := [(6, ⟨[0, 0, 3, 7, 0, 0, 48, 112, 255], [0, 1, 2, 3, 4, 5, 6, 7, 8], []⟩)] }
def t92L0 : TCode := (.seq (.region [⟨.bin .lss (.loc 6) (.loc 5), (some 7), none⟩])
   (.seq (.cond (.loc 7)
    .skip
    (.exit 0))
   (.seq (.block 1
    (.seq (.region [⟨.mov (.loc 6), none, none⟩, ⟨.mov (.reg 0), (some 3), none⟩])
    (.seq (.draw [0, 1, 2, 3, 4, 5, 6, 7, 8] [] [⟨.mov (.loc 0), none, none⟩, ⟨.mov (.loc 3), none, none⟩, ⟨.indexAddrS 1 (.reg 0) (.reg 1), none, none⟩, ⟨.load1 (.reg 2), none, none⟩, ⟨.mov (.loc 1), none, none⟩, ⟨.mov (.loc 3), none, none⟩, ⟨.indexAddrS 1 (.reg 4) (.reg 5), none, none⟩, ⟨.load1 (.reg 6), none, none⟩, ⟨.bin .neq (.reg 3) (.reg 7), (some 8), none⟩])
    (.cond (.loc 8)
     (.seq (.region [⟨.mov (.cst (.bool false)), (some 2), none⟩])
     .ret)
     .skip))))
   (.region [⟨.bin .add (.loc 6) (.cst (.int .i64 1)), none, none⟩, ⟨.mov (.reg 0), (some 6), none⟩]))))
def t92 : TFunc := ⟨2, 9, [.loc 2],
 (.seq (.region [⟨.mov (.cst (.bool false)), (some 2), none⟩])
 (.seq (.seq (.region [⟨.mov (.loc 0), none, none⟩, ⟨.len .sl (.reg 0), none, none⟩, ⟨.mov (.loc 1), none, none⟩, ⟨.len .sl (.reg 2), none, none⟩, ⟨.bin .neq (.reg 1) (.reg 3), (some 4), none⟩])
 (.cond (.loc 4)
  (.seq (.region [⟨.mov (.cst (.bool false)), (some 2), none⟩])
  .ret)
  .skip))
 (.seq (.seq (.region [⟨.mov (.loc 0), none, none⟩, ⟨.len .sl (.reg 0), (some 5), none⟩, ⟨.mov (.cst (.int .i64 0)), (some 6), none⟩])
 (.block 0
  (.loop t92L0)))
 (.seq (.region [⟨.mov (.cst (.bool true)), (some 2), none⟩])
 .ret))))⟩
theorem c92 : compFunc Tryz.prog opts a92 Tryz.f92 = some t92 := by kernel_rfl
def a93 : Ann := { slots := [0, 1, 2, 6, 7, 8, 9, 14, 15, 16, 17, 18, 30], lb := [9, 8], mu := [], trunc := [], draws := [] }
def t93L0 : TCode := (.seq (.region [⟨.bin .lss (.loc 10) (.loc 9), (some 11), none⟩])
   (.seq (.cond (.loc 11)
    .skip
    (.exit 0))
   (.seq (.block 1
    (.seq (.region [⟨.mov (.loc 10), none, none⟩, ⟨.indexAddrS 5 (.loc 8) (.loc 10), none, none⟩, ⟨.loadN 5 (.reg 1), none, none⟩, ⟨.allocL 5 [(.int .i64 0), (.int .i64 0), (.sl .nil []), (.bool false), (.sl .nil [])], none, none⟩, ⟨.mov (.reg 0), (some 4), none⟩, ⟨.store 5 (.reg 3) (.reg 2), none, none⟩])
    (.seq (.region [⟨.mov (.loc 1), none, none⟩, ⟨.mov (.loc 4), none, none⟩, ⟨.indexAddrS 5 (.reg 0) (.reg 1), none, none⟩, ⟨.loadN 5 (.reg 2), none, none⟩, ⟨.allocL 6 [(.int .i64 0), (.int .i64 0), (.sl .nil []), (.bool false), (.sl .nil [])], none, none⟩, ⟨.store 5 (.reg 4) (.reg 3), none, none⟩])
    (.seq (.region [⟨.mov (.loc 2), none, none⟩, ⟨.loadN 5 (.loc 5), none, none⟩, ⟨.loadN 5 (.loc 6), none, none⟩, ⟨.callv (.reg 0) [(.reg 1), (.reg 2)], none, none⟩, ⟨.un .not (.reg 3), (some 12), none⟩])
    (.cond (.loc 12)
     (.seq (.region [⟨.mov (.cst (.bool false)), (some 3), none⟩])
     .ret)
     .skip)))))
   (.region [⟨.bin .add (.loc 10) (.cst (.int .i64 1)), none, none⟩, ⟨.mov (.reg 0), (some 10), none⟩]))))
def t93 : TFunc := ⟨3, 13, [.loc 3],
 (.seq (.region [⟨.mov (.cst (.bool false)), (some 3), none⟩])
 (.seq (.seq (.region [⟨.mov (.loc 0), none, none⟩, ⟨.len .sl (.reg 0), none, none⟩, ⟨.mov (.loc 1), none, none⟩, ⟨.len .sl (.reg 2), none, none⟩, ⟨.bin .neq (.reg 1) (.reg 3), (some 7), none⟩])
 (.cond (.loc 7)
  (.seq (.region [⟨.mov (.cst (.bool false)), (some 3), none⟩])
  .ret)
  .skip))
 (.seq (.seq (.region [⟨.mov (.loc 0), (some 8), none⟩, ⟨.len .sl (.reg 0), (some 9), none⟩, ⟨.mov (.cst (.int .i64 0)), (some 10), none⟩])
 (.block 0
  (.loop t93L0)))
 (.seq (.region [⟨.mov (.cst (.bool true)), (some 3), none⟩])
 .ret))))⟩
theorem c93 : compFunc Tryz.prog opts a93 Tryz.f93 = some t93 := by kernel_rfl
def a108 : Ann := { slots := [0, 2, 3, 10], lb := [3], mu := [], trunc := [], draws := [] }
def t108 : TFunc := ⟨1, 4, [.loc 1],
 (.seq (.region [⟨.mov (.cst (.int .i64 0)), (some 1), none⟩])
 (.seq (.region [⟨.build [(.int .i64 0), (.int .i64 0), (.int .i64 0), (.int .i64 0), (.int .i64 0), (.int .i64 0), (.int .i64 0), (.int .i64 0), (.int .i64 0), (.int .i64 0), (.int .i64 0), (.int .i64 0), (.int .i64 0), (.int .i64 0), (.int .i64 0), (.int .i64 0), (.int .i64 0), (.int .i64 0), (.int .i64 0), (.int .i64 0), (.int .i64 0), (.int .i64 0), (.int .i64 0), (.int .i64 0), (.int .i64 0), (.int .i64 0), (.int .i64 0), (.int .i64 0), (.int .i64 0), (.int .i64 0), (.int .i64 0), (.int .i64 0), (.int .i64 0), (.int .i64 0), (.int .i64 0), (.int .i64 0), (.int .i64 0), (.int .i64 0), (.int .i64 0), (.int .i64 0), (.int .i64 0), (.int .i64 0)] [(0, 1, (.cst (.int .i64 2))), (1, 1, (.cst (.int .i64 1))), (2, 1, (.cst (.int .i64 2))), (3, 1, (.cst (.int .i64 1))), (4, 1, (.cst (.int .i64 1))), (5, 1, (.cst (.int .i64 2))), (6, 1, (.cst (.int .i64 2))), (7, 1, (.cst (.int .i64 1))), (8, 1, (.cst (.int .i64 2))), (9, 1, (.cst (.int .i64 2))), (10, 1, (.cst (.int .i64 2))), (11, 1, (.cst (.int .i64 2))), (12, 1, (.cst (.int .i64 2))), (13, 1, (.cst (.int .i64 2))), (14, 1, (.cst (.int .i64 2))), (15, 1, (.cst (.int .i64 1))), (16, 1, (.cst (.int .i64 1))), (17, 1, (.cst (.int .i64 1))), (18, 1, (.cst (.int .i64 1))), (19, 1, (.cst (.int .i64 2))), (20, 1, (.cst (.int .i64 1))), (21, 1, (.cst (.int .i64 2))), (22, 1, (.cst (.int .i64 3))), (23, 1, (.cst (.int .i64 1))), (24, 1, (.cst (.int .i64 1))), (25, 1, (.cst (.int .i64 1))), (26, 1, (.cst (.int .i64 1))), (27, 1, (.cst (.int .i64 2))), (28, 1, (.cst (.int .i64 1))), (29, 1, (.cst (.int .i64 2))), (30, 1, (.cst (.int .i64 3))), (31, 1, (.cst (.int .i64 1))), (32, 1, (.cst (.int .i64 2))), (33, 1, (.cst (.int .i64 1))), (34, 1, (.cst (.int .i64 2))), (35, 1, (.cst (.int .i64 3))), (36, 1, (.cst (.int .i64 1))), (37, 1, (.cst (.int .i64 0))), (38, 1, (.cst (.int .i64 1))), (39, 1, (.cst (.int .i64 1))), (40, 1, (.cst (.int .i64 0))), (41, 1, (.cst (.int .i64 0)))], none, none⟩, ⟨.allocL 2 [(.int .i64 0), (.int .i64 0), (.int .i64 0), (.int .i64 0), (.int .i64 0), (.int .i64 0), (.int .i64 0), (.int .i64 0), (.int .i64 0), (.int .i64 0), (.int .i64 0), (.int .i64 0), (.int .i64 0), (.int .i64 0), (.int .i64 0), (.int .i64 0), (.int .i64 0), (.int .i64 0), (.int .i64 0), (.int .i64 0), (.int .i64 0), (.int .i64 0), (.int .i64 0), (.int .i64 0), (.int .i64 0), (.int .i64 0), (.int .i64 0), (.int .i64 0), (.int .i64 0), (.int .i64 0), (.int .i64 0), (.int .i64 0), (.int .i64 0), (.int .i64 0), (.int .i64 0), (.int .i64 0), (.int .i64 0), (.int .i64 0), (.int .i64 0), (.int .i64 0), (.int .i64 0), (.int .i64 0)], none, none⟩, ⟨.store 42 (.reg 1) (.reg 0), none, none⟩])
 (.seq (.seq (.region [⟨.mov (.loc 0), none, none⟩, ⟨.bin .lss (.reg 0) (.cst (.int .i64 0)), none, none⟩, ⟨.mov (.reg 1), none, none⟩, ⟨.mov (.loc 0), none, (some (2, false))⟩, ⟨.bin .geq (.reg 3) (.cst (.int .i64 42)), none, (some (2, false))⟩, ⟨.pick (.reg 2) (.cst (.bool true)) (.reg 4), (some 3), none⟩])
 (.cond (.loc 3)
  (.seq (.region [⟨.mov (.cst (.int .i64 (-1))), (some 1), none⟩])
  .ret)
  .skip))
 (.seq (.region [⟨.mov (.loc 0), none, none⟩, ⟨.indexAddrA 42 1 (.loc 2) (.reg 0), none, none⟩, ⟨.load1 (.reg 1), none, none⟩, ⟨.mov (.reg 2), (some 1), none⟩])
 .ret))))⟩
theorem c108 : compFunc Tryz.prog opts a108 Tryz.f108 = some t108 := by kernel_rfl
def a109 : Ann := { slots := [0, 2, 3, 10], lb := [3], mu := [], trunc := [], draws := [] }
def t109 : TFunc := ⟨1, 4, [.loc 1],
 (.seq (.region [⟨.mov (.cst (.str [])), (some 1), none⟩])
 (.seq (.region [⟨.build [(.str []), (.str []), (.str []), (.str []), (.str []), (.str []), (.str []), (.str []), (.str []), (.str []), (.str []), (.str []), (.str []), (.str []), (.str []), (.str []), (.str []), (.str []), (.str []), (.str []), (.str []), (.str []), (.str []), (.str []), (.str []), (.str []), (.str []), (.str []), (.str []), (.str []), (.str []), (.str []), (.str []), (.str []), (.str []), (.str []), (.str []), (.str []), (.str []), (.str []), (.str []), (.str [])] [(0, 1, (.cst (.str [101, 113, 63]))), (1, 1, (.cst (.str [112, 97, 105, 114, 63]))), (2, 1, (.cst (.str [99, 111, 110, 115]))), (3, 1, (.cst (.str [99, 97, 114]))), (4, 1, (.cst (.str [99, 100, 114]))), (5, 1, (.cst (.str [115, 101, 116, 45, 99, 97, 114, 33]))), (6, 1, (.cst (.str [115, 101, 116, 45, 99, 100, 114, 33]))), (7, 1, (.cst (.str [105, 110, 116, 101, 103, 101, 114, 63]))), (8, 1, (.cst (.str [37, 43]))), (9, 1, (.cst (.str [37, 45]))), (10, 1, (.cst (.str [37, 42]))), (11, 1, (.cst (.str [113, 117, 111, 116, 105, 101, 110, 116]))), (12, 1, (.cst (.str [114, 101, 109, 97, 105, 110, 100, 101, 114]))), (13, 1, (.cst (.str [37, 61]))), (14, 1, (.cst (.str [37, 60]))), (15, 1, (.cst (.str [99, 104, 97, 114, 63]))), (16, 1, (.cst (.str [99, 104, 97, 114, 45, 62, 105, 110, 116, 101, 103, 101, 114]))), (17, 1, (.cst (.str [105, 110, 116, 101, 103, 101, 114, 45, 62, 99, 104, 97, 114]))), (18, 1, (.cst (.str [115, 116, 114, 105, 110, 103, 63]))), (19, 1, (.cst (.str [109, 97, 107, 101, 45, 115, 116, 114, 105, 110, 103]))), (20, 1, (.cst (.str [115, 116, 114, 105, 110, 103, 45, 108, 101, 110, 103, 116, 104]))), (21, 1, (.cst (.str [115, 116, 114, 105, 110, 103, 45, 114, 101, 102]))), (22, 1, (.cst (.str [115, 116, 114, 105, 110, 103, 45, 115, 101, 116, 33]))), (23, 1, (.cst (.str [115, 121, 109, 98, 111, 108, 63]))), (24, 1, (.cst (.str [115, 121, 109, 98, 111, 108, 45, 62, 115, 116, 114, 105, 110, 103]))), (25, 1, (.cst (.str [115, 116, 114, 105, 110, 103, 45, 62, 115, 121, 109, 98, 111, 108]))), (26, 1, (.cst (.str [118, 101, 99, 116, 111, 114, 63]))), (27, 1, (.cst (.str [109, 97, 107, 101, 45, 118, 101, 99, 116, 111, 114]))), (28, 1, (.cst (.str [118, 101, 99, 116, 111, 114, 45, 108, 101, 110, 103, 116, 104]))), (29, 1, (.cst (.str [118, 101, 99, 116, 111, 114, 45, 114, 101, 102]))), (30, 1, (.cst (.str [118, 101, 99, 116, 111, 114, 45, 115, 101, 116, 33]))), (31, 1, (.cst (.str [98, 121, 116, 101, 118, 101, 99, 116, 111, 114, 63]))), (32, 1, (.cst (.str [109, 97, 107, 101, 45, 98, 121, 116, 101, 118, 101, 99, 116, 111, 114]))), (33, 1, (.cst (.str [98, 121, 116, 101, 118, 101, 99, 116, 111, 114, 45, 108, 101, 110, 103, 116, 104]))), (34, 1, (.cst (.str [98, 121, 116, 101, 118, 101, 99, 116, 111, 114, 45, 117, 56, 45, 114, 101, 102]))), (35, 1, (.cst (.str [98, 121, 116, 101, 118, 101, 99, 116, 111, 114, 45, 117, 56, 45, 115, 101, 116, 33]))), (36, 1, (.cst (.str [112, 114, 111, 99, 101, 100, 117, 114, 101, 63]))), (37, 1, (.cst (.str [114, 101, 97, 100, 45, 117, 56]))), (38, 1, (.cst (.str [119, 114, 105, 116, 101, 45, 117, 56]))), (39, 1, (.cst (.str [37, 104, 97, 108, 116]))), (40, 1, (.cst (.str [101, 111, 102, 45, 111, 98, 106, 101, 99, 116]))), (41, 1, (.cst (.str [37, 110, 111, 110, 101])))], none, none⟩, ⟨.allocL 2 [(.str []), (.str []), (.str []), (.str []), (.str []), (.str []), (.str []), (.str []), (.str []), (.str []), (.str []), (.str []), (.str []), (.str []), (.str []), (.str []), (.str []), (.str []), (.str []), (.str []), (.str []), (.str []), (.str []), (.str []), (.str []), (.str []), (.str []), (.str []), (.str []), (.str []), (.str []), (.str []), (.str []), (.str []), (.str []), (.str []), (.str []), (.str []), (.str []), (.str []), (.str []), (.str [])], none, none⟩, ⟨.store 42 (.reg 1) (.reg 0), none, none⟩])
 (.seq (.seq (.region [⟨.mov (.loc 0), none, none⟩, ⟨.bin .lss (.reg 0) (.cst (.int .i64 0)), none, none⟩, ⟨.mov (.reg 1), none, none⟩, ⟨.mov (.loc 0), none, (some (2, false))⟩, ⟨.bin .geq (.reg 3) (.cst (.int .i64 42)), none, (some (2, false))⟩, ⟨.pick (.reg 2) (.cst (.bool true)) (.reg 4), (some 3), none⟩])
 (.cond (.loc 3)
  (.seq (.region [⟨.mov (.cst (.str [])), (some 1), none⟩])
  .ret)
  .skip))
 (.seq (.region [⟨.mov (.loc 0), none, none⟩, ⟨.indexAddrA 42 1 (.loc 2) (.reg 0), none, none⟩, ⟨.load1 (.reg 1), none, none⟩, ⟨.mov (.reg 2), (some 1), none⟩])
 .ret))))⟩
theorem c109 : compFunc Tryz.prog opts a109 Tryz.f109 = some t109 := by kernel_rfl
def a110 : Ann := { slots := [0, 2], lb := [], mu := [], trunc := [], draws := [] }
def t110 : TFunc := ⟨1, 2, [.loc 1],
 (.seq (.region [⟨.mov (.cst (.str [])), (some 1), none⟩])
 (.seq (.region [⟨.mov (.loc 0), none, none⟩, ⟨.call true false 138 [(.reg 0), (.cst (.int .i64 10))], none, none⟩, ⟨.mov (.reg 1), (some 1), none⟩])
 .ret))⟩
theorem c110 : compFunc Tryz.prog opts a110 Tryz.f110 = some t110 := by kernel_rfl
def a111 : Ann := { slots := [0, 2], lb := [], mu := [], trunc := [], draws := [] }
def t111 : TFunc := ⟨1, 2, [.loc 1],
 (.seq (.region [⟨.mov (.cst (.str [])), (some 1), none⟩])
 (.seq (.region [⟨.mov (.loc 0), none, none⟩, ⟨.call true false 75 [(.reg 0)], none, none⟩, ⟨.bin .add (.cst (.str [118])) (.reg 1), none, none⟩, ⟨.mov (.reg 2), (some 1), none⟩])
 .ret))⟩
theorem c111 : compFunc Tryz.prog opts a111 Tryz.f111 = some t111 := by kernel_rfl
def a112 : Ann := { slots := [0, 1, 7, 21], lb := [], mu := [], trunc := [], draws := [(3, ⟨[0, 1, 3, 7, 15, 0, 32, 96, 224, 480, 1023, 0, 4095], [0, 1, 2, 3, 4, 5, 6, 7, 8, 9, 10, 11, 12], []⟩)] }
def t112 : TFunc := ⟨2, 4, [],
 (.seq (.region [⟨.mov (.loc 0), none, none⟩, ⟨.prim 113 [(.reg 0)], none, none⟩])
 (.seq (.seq (.region [⟨.mov (.loc 1), none, none⟩, ⟨.bin .lss (.reg 0) (.cst (.int .i64 0)), (some 2), none⟩])
 (.cond (.loc 2)
  (.region [⟨.bad, none, none⟩, ⟨.bad, none, none⟩])
  .skip))
 (.seq (.draw [0, 1, 2, 3, 4, 5, 6, 7, 8, 9, 10, 11, 12] [] [⟨.mov (.loc 0), none, none⟩, ⟨.nilCheck (.reg 0), none, none⟩, ⟨.fieldAddr 1 (.reg 1), none, none⟩, ⟨.load1 (.reg 2), none, none⟩, ⟨.cap (.reg 3), none, none⟩, ⟨.mov (.loc 0), none, none⟩, ⟨.nilCheck (.reg 5), none, none⟩, ⟨.fieldAddr 1 (.reg 6), none, none⟩, ⟨.load1 (.reg 7), none, none⟩, ⟨.len .sl (.reg 8), none, none⟩, ⟨.bin .sub (.reg 4) (.reg 9), none, none⟩, ⟨.mov (.loc 1), none, none⟩, ⟨.bin .lss (.reg 10) (.reg 11), (some 3), none⟩])
 (.cond (.loc 3)
  (.region [⟨.mov (.loc 0), none, none⟩, ⟨.mov (.loc 1), none, none⟩, ⟨.call false false 139 [(.reg 0), (.reg 1)], none, none⟩])
  .skip))))⟩
theorem c112 : compFunc Tryz.prog opts a112 Tryz.f112 = some t112 := by kernel_rfl
def a115 : Ann := { slots := [0, 1, 4, 5, 7, 8, 9, 16], lb := [], mu := [], trunc := [], draws := [] }
def t115L0 : TCode := (.seq (.region [⟨.bin .lss (.loc 5) (.loc 4), (some 6), none⟩])
   (.seq (.cond (.loc 6)
    .skip
    (.exit 0))
   (.seq (.block 1
    (.seq (.region [⟨.mov (.loc 5), none, none⟩, ⟨.mov (.reg 0), (some 3), none⟩])
    (.seq (.region [⟨.mov (.loc 1), none, none⟩, ⟨.mov (.loc 0), none, none⟩, ⟨.mov (.loc 3), none, none⟩, ⟨.indexAddrS 5 (.reg 1) (.reg 2), none, none⟩, ⟨.loadN 5 (.reg 3), none, none⟩, ⟨.callv (.reg 0) [(.reg 4)], (some 7), none⟩])
    (.cond (.loc 7)
     (.seq (.region [⟨.mov (.loc 3), none, none⟩, ⟨.mov (.reg 0), (some 2), none⟩])
     .ret)
     .skip))))
   (.region [⟨.bin .add (.loc 5) (.cst (.int .i64 1)), none, none⟩, ⟨.mov (.reg 0), (some 5), none⟩]))))
def t115 : TFunc := ⟨2, 8, [.loc 2],
 (.seq (.region [⟨.mov (.cst (.int .i64 0)), (some 2), none⟩])
 (.seq (.seq (.region [⟨.mov (.loc 0), none, none⟩, ⟨.len .sl (.reg 0), (some 4), none⟩, ⟨.mov (.cst (.int .i64 0)), (some 5), none⟩])
 (.block 0
  (.loop t115L0)))
 (.seq (.region [⟨.mov (.cst (.int .i64 (-1))), (some 2), none⟩])
 .ret)))⟩
theorem c115 : compFunc Tryz.prog opts a115 Tryz.f115 = some t115 := by kernel_rfl
def a116 : Ann := { slots := [0, 2, 3, 16], lb := [], mu := [], trunc := [], draws := [] }
def t116 : TFunc := ⟨1, 4, [.loc 1],
 (.seq (.region [⟨.mov (.cst (.bool false)), (some 1), none⟩])
 (.seq (.region [⟨.mov (.loc 0), none, none⟩, ⟨.call true false 148 [(.reg 0), (.cst (.str [45]))], none, none⟩, ⟨.mov (.reg 1), (some 2), none⟩])
 (.seq (.seq (.region [⟨.mov (.loc 2), none, none⟩, ⟨.bin .eql (.reg 0) (.cst (.str [])), none, none⟩, ⟨.mov (.reg 1), none, none⟩, ⟨.mov (.loc 2), none, (some (2, false))⟩, ⟨.indexS (.reg 3) (.cst (.int .i64 0)), none, (some (2, false))⟩, ⟨.bin .eql (.reg 4) (.cst (.int .u8 48)), none, (some (2, false))⟩, ⟨.mov (.reg 5), none, (some (2, false))⟩, ⟨.mov (.loc 0), none, (some (6, true))⟩, ⟨.bin .neq (.reg 7) (.cst (.str [48])), none, (some (6, true))⟩, ⟨.pick (.reg 6) (.reg 8) (.cst (.bool false)), none, (some (2, false))⟩, ⟨.pick (.reg 2) (.cst (.bool true)) (.reg 9), (some 3), none⟩])
 (.cond (.loc 3)
  (.seq (.region [⟨.mov (.cst (.bool false)), (some 1), none⟩])
  .ret)
  .skip))
 (.seq (.region [⟨.mov (.loc 2), none, none⟩, ⟨.call false false 149 [(.reg 0), (.fn 150)], none, none⟩, ⟨.un .not (.reg 1), none, none⟩, ⟨.mov (.reg 2), (some 1), none⟩])
 .ret))))⟩
theorem c116 : compFunc Tryz.prog opts a116 Tryz.f116 = some t116 := by kernel_rfl
def a117 : Ann := { slots := [0, 2], lb := [], mu := [], trunc := [], draws := [] }
def t117 : TFunc := ⟨1, 2, [.loc 1],
 (.seq (.region [⟨.mov (.cst (.bool false)), (some 1), none⟩])
 (.seq (.region [⟨.mov (.loc 0), none, none⟩, ⟨.bin .geq (.reg 0) (.cst (.int .i64 0)), none, none⟩, ⟨.mov (.reg 1), none, none⟩, ⟨.mov (.loc 0), none, (some (2, true))⟩, ⟨.bin .leq (.reg 3) (.cst (.int .i64 1114111)), none, (some (2, true))⟩, ⟨.pick (.reg 2) (.reg 4) (.cst (.bool false)), none, none⟩, ⟨.mov (.reg 5), none, none⟩, ⟨.mov (.loc 0), none, (some (6, true))⟩, ⟨.conv (.toInt .i32) (.reg 7), none, (some (6, true))⟩, ⟨.call true false 151 [(.reg 8)], none, (some (6, true))⟩, ⟨.pick (.reg 6) (.reg 9) (.cst (.bool false)), none, none⟩, ⟨.mov (.reg 10), (some 1), none⟩])
 .ret))⟩
theorem c117 : compFunc Tryz.prog opts a117 Tryz.f117 = some t117 := by kernel_rfl
def a118 : Ann := { slots := [0, 2, 3, 4, 5, 6, 8, 17, 20, 21, 22, 23], lb := [8, 5], mu := [], trunc := [], draws := [(3, ⟨[0, 1, 0, 7], [0, 1, 2, 3], []⟩)] }
def t118L0 : TCode := (.seq (.region [⟨.bin .lss (.loc 10) (.loc 9), (some 11), none⟩])
   (.seq (.cond (.loc 11)
    .skip
    (.exit 0))
   (.seq (.block 1
    (.seq (.region [⟨.indexAddrS 2 (.loc 8) (.loc 10), none, none⟩, ⟨.loadN 2 (.reg 0), none, none⟩, ⟨.allocL 6 [(.int .i64 0), (.int .i64 0)], none, none⟩, ⟨.store 2 (.reg 2) (.reg 1), none, none⟩])
    (.region [⟨.mov (.loc 5), none, none⟩, ⟨.fieldAddr 0 (.loc 6), none, none⟩, ⟨.load1 (.reg 1), none, none⟩, ⟨.lit false [(.int .i64 0)] 1 [(0, (.reg 2))], none, none⟩, ⟨.append false 1 8 3 (.reg 0) (.reg 3), none, none⟩, ⟨.mov (.reg 4), (some 5), none⟩])))
   (.region [⟨.bin .add (.loc 10) (.cst (.int .i64 1)), none, none⟩, ⟨.mov (.reg 0), (some 10), none⟩]))))
def t118 : TFunc := ⟨1, 12, [.loc 1, .loc 2],
 (.seq (.region [⟨.mov (.cst (.sl .nil [])), (some 1), none⟩, ⟨.mov (.cst (.int .i64 0)), (some 2), none⟩])
 (.seq (.region [⟨.mov (.loc 0), none, none⟩, ⟨.conv .strBytes (.reg 0), none, none⟩, ⟨.call true false 152 [(.reg 1)], none, none⟩, ⟨.mov (.reg 2), none, none⟩, ⟨.extract 0 (.reg 3), none, none⟩, ⟨.extract 1 (.reg 3), none, none⟩, ⟨.allocL 4 [(.int .i64 0), (.int .i64 0)], none, none⟩, ⟨.mov (.reg 4), (some 3), none⟩, ⟨.store 2 (.reg 6) (.reg 5), none, none⟩])
 (.seq (.seq (.region [⟨.fieldAddr 0 (.loc 4), none, none⟩, ⟨.load1 (.reg 0), none, none⟩, ⟨.bin .neq (.reg 1) (.cst (.int .i64 0)), (some 7), none⟩])
 (.cond (.loc 7)
  (.seq (.draw [0, 1, 2, 3] [] [⟨.fieldAddr 0 (.loc 4), none, none⟩, ⟨.load1 (.reg 0), none, none⟩, ⟨.mov (.cst (.sl .nil [])), (some 1), none⟩, ⟨.mov (.reg 1), (some 2), none⟩])
  .ret)
  .skip))
 (.seq (.region [⟨.mov (.cst (.sl .nil [])), (some 5), none⟩])
 (.seq (.seq (.region [⟨.mov (.loc 3), (some 8), none⟩, ⟨.len .sl (.reg 0), (some 9), none⟩, ⟨.mov (.cst (.int .i64 0)), (some 10), none⟩])
 (.block 0
  (.loop t118L0)))
 (.seq (.region [⟨.mov (.loc 5), none, none⟩, ⟨.mov (.reg 0), (some 1), none⟩, ⟨.mov (.cst (.int .i64 0)), (some 2), none⟩])
 .ret))))))⟩
theorem c118 : compFunc Tryz.prog opts a118 Tryz.f118 = some t118 := by kernel_rfl
def a119 : Ann := { slots := [0, 1, 4], lb := [], mu := [], trunc := [], draws := [] }
def t119 : TFunc := ⟨2, 3, [.loc 2],
 (.seq (.region [⟨.mov (.cst (.bool false)), (some 2), none⟩])
 (.seq (.region [⟨.mov (.loc 0), none, none⟩, ⟨.bin .geq (.reg 0) (.cst (.int .i64 0)), none, none⟩, ⟨.mov (.reg 1), none, none⟩, ⟨.mov (.loc 0), none, (some (2, true))⟩, ⟨.mov (.loc 1), none, (some (2, true))⟩, ⟨.bin .lss (.reg 3) (.reg 4), none, (some (2, true))⟩, ⟨.pick (.reg 2) (.reg 5) (.cst (.bool false)), none, none⟩, ⟨.mov (.reg 6), (some 2), none⟩])
 .ret))⟩
theorem c119 : compFunc Tryz.prog opts a119 Tryz.f119 = some t119 := by kernel_rfl
def a120 : Ann := { slots := [0, 1, 4], lb := [], mu := [], trunc := [], draws := [] }
def t120 : TFunc := ⟨2, 3, [.loc 2],
 (.seq (.region [⟨.mov (.cst (.bool false)), (some 2), none⟩])
 (.seq (.region [⟨.mov (.loc 0), none, none⟩, ⟨.mov (.loc 1), none, none⟩, ⟨.call false false 153 [(.reg 0), (.reg 1)], none, none⟩, ⟨.bin .geq (.reg 2) (.cst (.int .i64 0)), none, none⟩, ⟨.mov (.reg 3), (some 2), none⟩])
 .ret))⟩
theorem c120 : compFunc Tryz.prog opts a120 Tryz.f120 = some t120 := by kernel_rfl
def a121 : Ann := { slots := [0, 1, 2, 4], lb := [], mu := [], trunc := [], draws := [(1, ⟨[0, 0, 0, 4, 12, 28, 60, 127, 255, 511], [0, 1, 2, 3, 4, 5, 6], [(7, [], [8, 9])]⟩)] }
def t121 : TFunc := ⟨3, 4, [.loc 3],
 (.seq (.region [⟨.mov (.cst (.bool false)), (some 3), none⟩])
 (.seq (.draw [0, 1, 2, 3, 4, 5, 6] [(7, [], [8, 9])] [⟨.load1 (.loc 1), none, none⟩, ⟨.mov (.loc 0), none, none⟩, ⟨.load1 (.loc 2), none, none⟩, ⟨.nilCheck (.reg 2), none, none⟩, ⟨.fieldAddr 0 (.reg 3), none, none⟩, ⟨.fieldAddr 6 (.reg 4), none, none⟩, ⟨.load1 (.reg 5), none, none⟩, ⟨.callv (.reg 0) [(.reg 1), (.reg 6)], none, none⟩, ⟨.un .not (.reg 7), none, none⟩, ⟨.mov (.reg 8), (some 3), none⟩])
 .ret))⟩
theorem c121 : compFunc Tryz.prog opts a121 Tryz.f121 = some t121 := by kernel_rfl
def a122 : Ann := { slots := [0, 2], lb := [], mu := [], trunc := [], draws := [] }
def t122 : TFunc := ⟨1, 2, [.loc 1],
 (.seq (.region [⟨.mov (.cst (.sl .nil [])), (some 1), none⟩])
 (.seq (.region [⟨.mov (.loc 0), none, none⟩, ⟨.call false false 154 [(.cst (.sl .nil [])), (.reg 0)], none, none⟩, ⟨.mov (.reg 1), (some 1), none⟩])
 .ret))⟩
theorem c122 : compFunc Tryz.prog opts a122 Tryz.f122 = some t122 := by kernel_rfl
def a123 : Ann := { slots := [0, 2], lb := [], mu := [], trunc := [], draws := [] }
def t123 : TFunc := ⟨1, 2, [],
 (.seq (.region [⟨.mov (.loc 0), none, none⟩, ⟨.len .sl (.reg 0), none, none⟩, ⟨.mov (.reg 1), (some 1), none⟩])
 (.region [⟨.mov (.loc 0), none, none⟩, ⟨.mov (.loc 1), none, none⟩, ⟨.mov (.loc 1), none, none⟩, ⟨.conv (.toInt .u64) (.reg 2), none, none⟩, ⟨.call true false 156 [(.reg 3)], none, none⟩, ⟨.call false false 155 [(.reg 0), (.cst (.int .i64 0)), (.reg 1), (.reg 4)], none, none⟩]))⟩
theorem c123 : compFunc Tryz.prog opts a123 Tryz.f123 = some t123 := by kernel_rfl
def a124 : Ann := { slots := [0, 1, 3, 5, 7, 13], lb := [], mu := [], trunc := [], draws := [] }
def t124L0 : TCode := (.seq (.region [⟨.nextM (.loc 3), none, none⟩, ⟨.extract 0 (.reg 0), (some 4), none⟩])
   (.seq (.cond (.loc 4)
    .skip
    (.exit 0))
   (.block 1
    (.seq (.region [⟨.entryM (.loc 3), none, none⟩, ⟨.extract 0 (.reg 0), none, none⟩, ⟨.mov (.reg 1), (some 2), none⟩])
    (.seq (.region [⟨.mov (.loc 0), none, none⟩, ⟨.mov (.loc 2), none, none⟩, ⟨.callv (.reg 0) [(.reg 1)], none, none⟩, ⟨.un .not (.reg 2), (some 5), none⟩])
    (.cond (.loc 5)
     .ret
     .skip))))))
def t124 : TFunc := ⟨2, 6, [],
 (.seq (.region [⟨.load1 (.loc 1), none, none⟩, ⟨.range false (.reg 0), (some 3), none⟩])
 (.block 0
  (.loop t124L0)))⟩
theorem c124 : compFunc Tryz.prog opts a124 Tryz.f124 = some t124 := by kernel_rfl
def a125 : Ann := { slots := [0, 1, 4, 5, 6, 7, 8, 16, 26, 50], lb := [], mu := [], trunc := [], draws := [(7, ⟨[0, 1, 3, 7, 15, 31, 7, 7, 7, 7, 775, 1991, 4039, 8191, 16383], [0], [(1, [], [2, 3, 6, 7, 8, 9, 10, 11, 12]), (4, [11, 12], [5, 13, 14])]⟩)] }
def t125L0 : TCode := (.seq (.seq (.region [⟨.mov (.loc 5), none, none⟩, ⟨.bin .leq (.reg 0) (.cst (.int .i64 4)), none, none⟩, ⟨.mov (.reg 1), none, none⟩, ⟨.mov (.loc 1), none, (some (2, true))⟩, ⟨.mov (.loc 5), none, (some (2, true))⟩, ⟨.bin .add (.reg 3) (.reg 4), none, (some (2, true))⟩, ⟨.mov (.loc 0), none, (some (2, true))⟩, ⟨.len .sl (.reg 6), none, (some (2, true))⟩, ⟨.bin .leq (.reg 5) (.reg 7), none, (some (2, true))⟩, ⟨.pick (.reg 2) (.reg 8) (.cst (.bool false)), (some 8), none⟩])
   (.cond (.loc 8)
    .skip
    (.exit 0)))
   (.seq (.block 1
    (.seq (.region [⟨.mov (.loc 0), none, none⟩, ⟨.mov (.loc 1), none, none⟩, ⟨.mov (.loc 1), none, none⟩, ⟨.mov (.loc 5), none, none⟩, ⟨.bin .add (.reg 2) (.reg 3), none, none⟩, ⟨.slice (.sl 1) (.reg 0) (some (.reg 1)) (some (.reg 4)) none, none, none⟩, ⟨.call true false 157 [(.reg 5)], none, none⟩, ⟨.mov (.reg 6), (some 6), none⟩])
    (.seq (.draw [0] [(1, [], [2, 3, 6, 7, 8, 9, 10, 11, 12]), (4, [11, 12], [5, 13, 14])] [⟨.mov (.loc 6), none, none⟩, ⟨.call true false 53 [(.reg 0)], none, none⟩, ⟨.mov (.reg 1), none, none⟩, ⟨.mov (.loc 6), none, (some (2, true))⟩, ⟨.call true false 158 [(.reg 3)], none, (some (2, true))⟩, ⟨.conv .bytesStr (.reg 4), none, (some (2, true))⟩, ⟨.mov (.loc 0), none, (some (2, true))⟩, ⟨.mov (.loc 1), none, (some (2, true))⟩, ⟨.mov (.loc 1), none, (some (2, true))⟩, ⟨.mov (.loc 5), none, (some (2, true))⟩, ⟨.bin .add (.reg 8) (.reg 9), none, (some (2, true))⟩, ⟨.slice (.sl 1) (.reg 6) (some (.reg 7)) (some (.reg 10)) none, none, (some (2, true))⟩, ⟨.conv .bytesStr (.reg 11), none, (some (2, true))⟩, ⟨.bin .eql (.reg 5) (.reg 12), none, (some (2, true))⟩, ⟨.pick (.reg 2) (.reg 13) (.cst (.bool false)), (some 9), none⟩])
    (.cond (.loc 9)
     (.seq (.region [⟨.mov (.loc 6), none, none⟩, ⟨.mov (.loc 5), none, none⟩, ⟨.mov (.reg 0), (some 2), none⟩, ⟨.mov (.reg 1), (some 3), none⟩, ⟨.mov (.cst (.int .i64 0)), (some 4), none⟩])
     .ret)
     .skip))))
   (.region [⟨.mov (.loc 5), none, none⟩, ⟨.bin .add (.reg 0) (.cst (.int .i64 1)), none, none⟩, ⟨.mov (.reg 1), (some 5), none⟩])))
def t125 : TFunc := ⟨2, 10, [.loc 2, .loc 3, .loc 4],
 (.seq (.region [⟨.mov (.cst (.int .i64 0)), (some 2), none⟩, ⟨.mov (.cst (.int .i64 0)), (some 3), none⟩, ⟨.mov (.cst (.int .i64 0)), (some 4), none⟩])
 (.seq (.seq (.region [⟨.mov (.loc 1), none, none⟩, ⟨.bin .lss (.reg 0) (.cst (.int .i64 0)), none, none⟩, ⟨.mov (.reg 1), none, none⟩, ⟨.mov (.loc 1), none, (some (2, false))⟩, ⟨.mov (.loc 0), none, (some (2, false))⟩, ⟨.len .sl (.reg 4), none, (some (2, false))⟩, ⟨.bin .geq (.reg 3) (.reg 5), none, (some (2, false))⟩, ⟨.pick (.reg 2) (.cst (.bool true)) (.reg 6), (some 7), none⟩])
 (.cond (.loc 7)
  (.seq (.region [⟨.mov (.cst (.int .i64 0)), (some 2), none⟩, ⟨.mov (.cst (.int .i64 0)), (some 3), none⟩, ⟨.mov (.cst (.int .i64 2)), (some 4), none⟩])
  .ret)
  .skip))
 (.seq (.seq (.region [⟨.mov (.cst (.int .i64 1)), (some 5), none⟩])
 (.block 0
  (.loop t125L0)))
 (.seq (.region [⟨.mov (.cst (.int .i64 0)), (some 2), none⟩, ⟨.mov (.cst (.int .i64 0)), (some 3), none⟩, ⟨.mov (.cst (.int .i64 4)), (some 4), none⟩])
 .ret))))⟩
theorem c125 : compFunc Tryz.prog opts a125 Tryz.f125 = some t125 := by kernel_rfl
def a138 : Ann := { slots := [0, 1, 4, 5, 6, 7, 9, 11, 17, 23, 34], lb := [], mu := [], trunc := [], draws := [] }
def t138 : TFunc := ⟨2, 11, [.loc 2],
 (.seq (.region [⟨.mov (.cst (.str [])), (some 2), none⟩])
 (.seq (.seq (.region [⟨.mov (.loc 1), none, none⟩, ⟨.bin .eql (.reg 0) (.cst (.int .i64 10)), (some 7), none⟩])
 (.cond (.loc 7)
  (.seq (.seq (.region [⟨.mov (.loc 0), none, none⟩, ⟨.bin .leq (.cst (.int .i64 0)) (.reg 0), none, none⟩, ⟨.mov (.reg 1), none, none⟩, ⟨.mov (.loc 0), none, (some (2, true))⟩, ⟨.bin .lss (.reg 3) (.cst (.int .i64 100)), none, (some (2, true))⟩, ⟨.pick (.reg 2) (.reg 4) (.cst (.bool false)), (some 8), none⟩])
  (.cond (.loc 8)
   (.seq (.region [⟨.mov (.loc 0), none, none⟩, ⟨.call true false 161 [(.reg 0)], none, none⟩, ⟨.mov (.reg 1), (some 2), none⟩])
   .ret)
   .skip))
  (.seq (.region [⟨.allocH 176 [(.int .u8 0), (.int .u8 0), (.int .u8 0), (.int .u8 0), (.int .u8 0), (.int .u8 0), (.int .u8 0), (.int .u8 0), (.int .u8 0), (.int .u8 0), (.int .u8 0), (.int .u8 0), (.int .u8 0), (.int .u8 0), (.int .u8 0), (.int .u8 0), (.int .u8 0), (.int .u8 0), (.int .u8 0), (.int .u8 0), (.int .u8 0), (.int .u8 0), (.int .u8 0), (.int .u8 0)], (some 3), none⟩])
  (.seq (.region [⟨.mov (.loc 0), none, none⟩, ⟨.conv (.toInt .u64) (.reg 0), none, none⟩, ⟨.mov (.reg 1), (some 4), none⟩])
  (.seq (.seq (.region [⟨.mov (.loc 0), none, none⟩, ⟨.bin .lss (.reg 0) (.cst (.int .i64 0)), (some 9), none⟩])
  (.cond (.loc 9)
   (.region [⟨.mov (.loc 4), none, none⟩, ⟨.un .neg (.reg 0), none, none⟩, ⟨.mov (.reg 1), (some 4), none⟩])
   .skip))
  (.seq (.region [⟨.mov (.loc 4), none, none⟩, ⟨.call true false 162 [(.reg 0)], none, none⟩, ⟨.mov (.reg 1), (some 5), none⟩])
  (.seq (.region [⟨.mov (.loc 5), none, none⟩, ⟨.bin .add (.cst (.int .i64 1)) (.reg 0), none, none⟩, ⟨.slice (.arr 24 1) (.loc 3) (some (.cst (.int .i64 1))) (some (.reg 1)) none, none, none⟩, ⟨.mov (.loc 4), none, none⟩, ⟨.call false false 163 [(.reg 2), (.reg 3)], none, none⟩])
  (.seq (.seq (.region [⟨.mov (.loc 0), none, none⟩, ⟨.bin .lss (.reg 0) (.cst (.int .i64 0)), (some 10), none⟩])
  (.cond (.loc 10)
   (.seq (.region [⟨.indexAddrA 24 1 (.loc 3) (.cst (.int .i64 0)), none, none⟩, ⟨.store 1 (.reg 0) (.cst (.int .u8 45)), none, none⟩])
   (.seq (.region [⟨.mov (.loc 5), none, none⟩, ⟨.bin .add (.cst (.int .i64 1)) (.reg 0), none, none⟩, ⟨.slice (.arr 24 1) (.loc 3) none (some (.reg 1)) none, none, none⟩, ⟨.conv .bytesStr (.reg 2), none, none⟩, ⟨.mov (.reg 3), (some 2), none⟩])
   .ret))
   .skip))
  (.seq (.region [⟨.mov (.loc 5), none, none⟩, ⟨.bin .add (.cst (.int .i64 1)) (.reg 0), none, none⟩, ⟨.slice (.arr 24 1) (.loc 3) (some (.cst (.int .i64 1))) (some (.reg 1)) none, none, none⟩, ⟨.conv .bytesStr (.reg 2), none, none⟩, ⟨.mov (.reg 3), (some 2), none⟩])
  .ret))))))))
  .skip))
 (.seq (.region [⟨.mov (.loc 0), none, none⟩, ⟨.conv (.toInt .u64) (.reg 0), none, none⟩, ⟨.mov (.loc 1), none, none⟩, ⟨.mov (.loc 0), none, none⟩, ⟨.bin .lss (.reg 3) (.cst (.int .i64 0)), none, none⟩, ⟨.call true false 164 [(.cst (.sl .nil [])), (.reg 1), (.reg 2), (.reg 4), (.cst (.bool false))], none, none⟩, ⟨.mov (.reg 5), none, none⟩, ⟨.extract 0 (.reg 6), none, none⟩, ⟨.extract 1 (.reg 6), none, none⟩, ⟨.mov (.reg 7), none, none⟩, ⟨.mov (.reg 8), (some 6), none⟩])
 (.seq (.region [⟨.mov (.loc 6), none, none⟩, ⟨.mov (.reg 0), (some 2), none⟩])
 .ret))))⟩
theorem c138 : compFunc Tryz.prog opts a138 Tryz.f138 = some t138 := by kernel_rfl
def a139 : Ann := { slots := [0, 1, 4], lb := [], mu := [], trunc := [], draws := [(0, ⟨[0, 1, 3, 7, 15, 31, 0, 127, 255, 0, 512, 1536, 3584, 7680, 16383, 32767], [0, 1, 2, 3, 4, 5, 6, 7, 9, 10, 11, 12, 13], [(8, [12, 13], [14, 15])]⟩)] }
def t139 : TFunc := ⟨2, 3, [],
 (.seq (.draw [0, 1, 2, 3, 4, 5, 6, 7, 9, 10, 11, 12, 13] [(8, [12, 13], [14, 15])] [⟨.mov (.loc 0), none, none⟩, ⟨.nilCheck (.reg 0), none, none⟩, ⟨.fieldAddr 1 (.reg 1), none, none⟩, ⟨.load1 (.reg 2), none, none⟩, ⟨.cap (.reg 3), none, none⟩, ⟨.bin .mul (.cst (.int .i64 2)) (.reg 4), none, none⟩, ⟨.mov (.loc 1), none, none⟩, ⟨.bin .add (.reg 5) (.reg 6), none, none⟩, ⟨.prim 165 [(.reg 7)], none, none⟩, ⟨.mov (.loc 0), none, none⟩, ⟨.nilCheck (.reg 9), none, none⟩, ⟨.fieldAddr 1 (.reg 10), none, none⟩, ⟨.load1 (.reg 11), none, none⟩, ⟨.len .sl (.reg 12), none, none⟩, ⟨.slice (.sl 1) (.reg 8) none (some (.reg 13)) none, none, none⟩, ⟨.mov (.reg 14), (some 2), none⟩])
 (.seq (.region [⟨.mov (.loc 2), none, none⟩, ⟨.mov (.loc 0), none, none⟩, ⟨.nilCheck (.reg 1), none, none⟩, ⟨.fieldAddr 1 (.reg 2), none, none⟩, ⟨.load1 (.reg 3), none, none⟩, ⟨.copy 1 (.reg 0) (.reg 4), none, none⟩])
 (.region [⟨.mov (.loc 0), none, none⟩, ⟨.mov (.loc 2), none, none⟩, ⟨.nilCheck (.reg 0), none, none⟩, ⟨.fieldAddr 1 (.reg 2), none, none⟩, ⟨.store 1 (.reg 3) (.reg 1), none, none⟩])))⟩
theorem c139 : compFunc Tryz.prog opts a139 Tryz.f139 = some t139 := by kernel_rfl
def a148 : Ann := { slots := [0, 1, 4], lb := [], mu := [], trunc := [], draws := [] }
def t148 : TFunc := ⟨2, 3, [.loc 2],
 (.seq (.region [⟨.mov (.cst (.str [])), (some 2), none⟩])
 (.seq (.region [⟨.mov (.loc 0), none, none⟩, ⟨.mov (.loc 1), none, none⟩, ⟨.call true false 170 [(.reg 0), (.reg 1)], none, none⟩, ⟨.mov (.reg 2), (some 2), none⟩])
 .ret))⟩
theorem c148 : compFunc Tryz.prog opts a148 Tryz.f148 = some t148 := by kernel_rfl
def a149 : Ann := { slots := [0, 1, 4], lb := [], mu := [], trunc := [], draws := [] }
def t149 : TFunc := ⟨2, 3, [.loc 2],
 (.seq (.region [⟨.mov (.cst (.bool false)), (some 2), none⟩])
 (.seq (.region [⟨.mov (.loc 0), none, none⟩, ⟨.mov (.loc 1), none, none⟩, ⟨.call false false 171 [(.reg 0), (.reg 1)], none, none⟩, ⟨.bin .geq (.reg 2) (.cst (.int .i64 0)), none, none⟩, ⟨.mov (.reg 3), (some 2), none⟩])
 .ret))⟩
theorem c149 : compFunc Tryz.prog opts a149 Tryz.f149 = some t149 := by kernel_rfl
def a150 : Ann := { slots := [0, 2], lb := [], mu := [], trunc := [], draws := [] }
def t150 : TFunc := ⟨1, 2, [.loc 1],
 (.seq (.region [⟨.mov (.cst (.bool false)), (some 1), none⟩])
 (.seq (.region [⟨.mov (.loc 0), none, none⟩, ⟨.bin .lss (.reg 0) (.cst (.int .i32 48)), none, none⟩, ⟨.mov (.reg 1), none, none⟩, ⟨.mov (.loc 0), none, (some (2, false))⟩, ⟨.bin .gtr (.reg 3) (.cst (.int .i32 57)), none, (some (2, false))⟩, ⟨.pick (.reg 2) (.cst (.bool true)) (.reg 4), none, none⟩, ⟨.mov (.reg 5), (some 1), none⟩])
 .ret))⟩
theorem c150 : compFunc Tryz.prog opts a150 Tryz.f150 = some t150 := by kernel_rfl
def a151 : Ann := { slots := [0, 2, 3, 10], lb := [], mu := [], trunc := [], draws := [] }
def t151 : TFunc := ⟨1, 4, [.loc 1],
 (.seq (.region [⟨.mov (.cst (.bool false)), (some 1), none⟩])
 (.seq (.block 0
  (.seq (.region [⟨.mov (.loc 0), none, none⟩, ⟨.bin .leq (.cst (.int .i32 0)) (.reg 0), none, none⟩, ⟨.mov (.reg 1), none, none⟩, ⟨.mov (.loc 0), none, (some (2, true))⟩, ⟨.bin .lss (.reg 3) (.cst (.int .i32 55296)), none, (some (2, true))⟩, ⟨.pick (.reg 2) (.reg 4) (.cst (.bool false)), none, none⟩, ⟨.mov (.reg 5), (some 2), none⟩])
  (.cond (.loc 2)
   (.seq (.region [⟨.mov (.cst (.bool true)), (some 1), none⟩])
   .ret)
   (.seq (.region [⟨.mov (.loc 0), none, none⟩, ⟨.bin .lss (.cst (.int .i32 57343)) (.reg 0), none, none⟩, ⟨.mov (.reg 1), none, none⟩, ⟨.mov (.loc 0), none, (some (2, true))⟩, ⟨.bin .leq (.reg 3) (.cst (.int .i32 1114111)), none, (some (2, true))⟩, ⟨.pick (.reg 2) (.reg 4) (.cst (.bool false)), none, none⟩, ⟨.mov (.reg 5), (some 3), none⟩])
   (.cond (.loc 3)
    (.seq (.region [⟨.mov (.cst (.bool true)), (some 1), none⟩])
    .ret)
    .skip)))))
 (.seq (.region [⟨.mov (.cst (.bool false)), (some 1), none⟩])
 .ret)))⟩
theorem c151 : compFunc Tryz.prog opts a151 Tryz.f151 = some t151 := by kernel_rfl
def a152 : Ann := { slots := [0, 2, 3, 4, 5, 6, 8, 11, 12, 13, 17, 27], lb := [3], mu := [], trunc := [], draws := [] }
def t152L0 : TCode := (.seq (.region [⟨.nextS (.loc 7), (some 8), none⟩, ⟨.extract 0 (.reg 0), (some 9), none⟩])
   (.seq (.cond (.loc 9)
    .skip
    (.exit 0))
   (.block 1
    (.seq (.region [⟨.extract 1 (.loc 8), none, none⟩, ⟨.extract 2 (.loc 8), none, none⟩, ⟨.mov (.reg 0), (some 4), none⟩, ⟨.mov (.reg 1), (some 5), none⟩])
    (.seq (.seq (.region [⟨.mov (.loc 5), none, none⟩, ⟨.bin .eql (.reg 0) (.cst (.int .i32 65533)), (some 10), none⟩])
    (.cond (.loc 10)
     (.seq (.region [⟨.mov (.loc 0), none, none⟩, ⟨.mov (.loc 4), none, none⟩, ⟨.slice (.sl 1) (.reg 0) (some (.reg 1)) none none, none, none⟩, ⟨.call true false 172 [(.reg 2)], none, none⟩, ⟨.mov (.reg 3), none, none⟩, ⟨.extract 0 (.reg 4), none, none⟩, ⟨.extract 1 (.reg 4), none, none⟩, ⟨.mov (.reg 5), none, none⟩, ⟨.mov (.reg 6), (some 6), none⟩])
     (.seq (.region [⟨.mov (.loc 5), none, none⟩, ⟨.mov (.loc 6), none, none⟩, ⟨.call true false 173 [(.reg 0), (.reg 1)], (some 11), none⟩])
     (.cond (.loc 11)
      (.seq (.region [⟨.mov (.loc 4), none, none⟩, ⟨.build [(.int .i64 0), (.int .i64 0)] [(0, 1, (.cst (.int .i64 4))), (1, 1, (.reg 0))], none, none⟩, ⟨.mov (.cst (.sl .nil [])), (some 1), none⟩, ⟨.store 2 (.loc 2) (.reg 1), none, none⟩])
      .ret)
      .skip)))
     .skip))
    (.region [⟨.mov (.loc 3), none, none⟩, ⟨.mov (.loc 5), none, none⟩, ⟨.conv (.toInt .i64) (.reg 1), none, none⟩, ⟨.mov (.loc 4), none, none⟩, ⟨.build [(.int .i64 0), (.int .i64 0)] [(0, 1, (.reg 2)), (1, 1, (.reg 3))], none, none⟩, ⟨.lit false [(.int .i64 0), (.int .i64 0)] 1 [(0, (.reg 4))], none, none⟩, ⟨.append false 2 16 167 (.reg 0) (.reg 5), none, none⟩, ⟨.mov (.reg 6), (some 3), none⟩]))))))
def t152 : TFunc := ⟨1, 12, [.loc 1, .cell 2 2 true],
 (.seq (.region [⟨.mov (.cst (.sl .nil [])), (some 1), none⟩, ⟨.allocL 2 [(.int .i64 0), (.int .i64 0)], none, none⟩])
 (.seq (.region [⟨.mov (.cst (.sl .nil [])), (some 3), none⟩])
 (.seq (.seq (.region [⟨.mov (.loc 0), none, none⟩, ⟨.conv .bytesStr (.reg 0), none, none⟩, ⟨.range true (.reg 1), (some 7), none⟩])
 (.block 0
  (.loop t152L0)))
 (.seq (.region [⟨.mov (.loc 3), none, none⟩, ⟨.build [(.int .i64 0), (.int .i64 0)] [], none, none⟩, ⟨.mov (.reg 0), (some 1), none⟩, ⟨.store 2 (.loc 2) (.reg 1), none, none⟩])
 .ret))))⟩
theorem c152 : compFunc Tryz.prog opts a152 Tryz.f152 = some t152 := by kernel_rfl
def a153 : Ann := { slots := [0, 1, 4, 5, 7, 8, 9, 16], lb := [], mu := [], trunc := [], draws := [] }
def t153L0 : TCode := (.seq (.region [⟨.bin .lss (.loc 5) (.loc 4), (some 6), none⟩])
   (.seq (.cond (.loc 6)
    .skip
    (.exit 0))
   (.seq (.block 1
    (.seq (.region [⟨.mov (.loc 5), none, none⟩, ⟨.mov (.reg 0), (some 3), none⟩])
    (.seq (.region [⟨.mov (.loc 1), none, none⟩, ⟨.mov (.loc 0), none, none⟩, ⟨.mov (.loc 3), none, none⟩, ⟨.indexAddrS 1 (.reg 1) (.reg 2), none, none⟩, ⟨.load1 (.reg 3), none, none⟩, ⟨.callv (.reg 0) [(.reg 4)], (some 7), none⟩])
    (.cond (.loc 7)
     (.seq (.region [⟨.mov (.loc 3), none, none⟩, ⟨.mov (.reg 0), (some 2), none⟩])
     .ret)
     .skip))))
   (.region [⟨.bin .add (.loc 5) (.cst (.int .i64 1)), none, none⟩, ⟨.mov (.reg 0), (some 5), none⟩]))))
def t153 : TFunc := ⟨2, 8, [.loc 2],
 (.seq (.region [⟨.mov (.cst (.int .i64 0)), (some 2), none⟩])
 (.seq (.seq (.region [⟨.mov (.loc 0), none, none⟩, ⟨.len .sl (.reg 0), (some 4), none⟩, ⟨.mov (.cst (.int .i64 0)), (some 5), none⟩])
 (.block 0
  (.loop t153L0)))
 (.seq (.region [⟨.mov (.cst (.int .i64 (-1))), (some 2), none⟩])
 .ret)))⟩
theorem c153 : compFunc Tryz.prog opts a153 Tryz.f153 = some t153 := by kernel_rfl
def a154 : Ann := { slots := [0, 1, 2, 4, 5, 6, 7], lb := [], mu := [(3, 3)], trunc := [], draws := [] }
def t154 : TFunc := ⟨2, 7, [.loc 3],
 (.seq (.region [⟨.boxH 23 (.loc 0), (some 2), none⟩, ⟨.mov (.cst (.sl .nil [])), (some 3), none⟩])
 (.seq (.seq (.region [⟨.mov (.loc 1), (some 5), none⟩])
 (.block 0
  (.rangeFunc (.loc 5) [6]
   (.region [⟨.mov (.loc 6), (some 4), none⟩])
   (.block 1
    (.region [⟨.load1 (.loc 2), none, none⟩, ⟨.mov (.loc 4), none, none⟩, ⟨.lit false [(.int .i64 0)] 1 [(0, (.reg 1))], none, none⟩, ⟨.append true 1 8 3 (.reg 0) (.reg 2), none, none⟩, ⟨.store 1 (.loc 2) (.reg 3), none, none⟩])))))
 (.seq (.region [⟨.load1 (.loc 2), none, none⟩, ⟨.mov (.reg 0), (some 3), none⟩])
 .ret)))⟩
theorem c154 : compFunc Tryz.prog opts a154 Tryz.f154 = some t154 := by kernel_rfl
def a155 : Ann := { slots := [0, 1, 2, 3, 8, 9, 10, 11, 12, 13, 14, 15, 16, 17, 18, 23, 29, 35, 50, 68, 72, 87, 113], lb := [], mu := [], trunc := [], draws := [(17, ⟨[0, 1, 3, 7, 7, 23, 63, 127, 7, 7, 775, 1799, 4095, 8191, 16383], [0, 1, 2, 3, 4, 5, 6, 7, 8, 9, 10, 11], [(12, [], [13, 14])]⟩)] }
def t155L0 : TCode := (.block 1
    (.seq (.region [⟨.mov (.loc 2), none, none⟩, ⟨.mov (.loc 1), none, none⟩, ⟨.bin .sub (.reg 0) (.reg 1), none, none⟩, ⟨.mov (.reg 2), (some 6), none⟩])
    (.seq (.seq (.region [⟨.mov (.loc 6), none, none⟩, ⟨.bin .leq (.reg 0) (.cst (.int .i64 12)), (some 15), none⟩])
    (.cond (.loc 15)
     (.seq (.region [⟨.mov (.loc 0), none, none⟩, ⟨.mov (.loc 1), none, none⟩, ⟨.mov (.loc 2), none, none⟩, ⟨.call false false 174 [(.reg 0), (.reg 1), (.reg 2)], none, none⟩])
     .ret)
     .skip))
    (.seq (.seq (.region [⟨.mov (.loc 3), none, none⟩, ⟨.bin .eql (.reg 0) (.cst (.int .i64 0)), (some 16), none⟩])
    (.cond (.loc 16)
     (.seq (.region [⟨.mov (.loc 0), none, none⟩, ⟨.mov (.loc 1), none, none⟩, ⟨.mov (.loc 2), none, none⟩, ⟨.call false false 175 [(.reg 0), (.reg 1), (.reg 2)], none, none⟩])
     .ret)
     .skip))
    (.seq (.seq (.region [⟨.mov (.loc 4), none, none⟩, ⟨.un .not (.reg 0), (some 17), none⟩])
    (.cond (.loc 17)
     (.seq (.region [⟨.mov (.loc 0), none, none⟩, ⟨.mov (.loc 1), none, none⟩, ⟨.mov (.loc 2), none, none⟩, ⟨.call false false 176 [(.reg 0), (.reg 1), (.reg 2)], none, none⟩])
     (.region [⟨.mov (.loc 3), none, none⟩, ⟨.bin .sub (.reg 0) (.cst (.int .i64 1)), none, none⟩, ⟨.mov (.reg 1), (some 3), none⟩]))
     .skip))
    (.seq (.region [⟨.mov (.loc 0), none, none⟩, ⟨.mov (.loc 1), none, none⟩, ⟨.mov (.loc 2), none, none⟩, ⟨.call false false 177 [(.reg 0), (.reg 1), (.reg 2)], none, none⟩, ⟨.mov (.reg 3), none, none⟩, ⟨.extract 0 (.reg 4), none, none⟩, ⟨.extract 1 (.reg 4), none, none⟩, ⟨.mov (.reg 5), (some 7), none⟩, ⟨.mov (.reg 6), (some 8), none⟩])
    (.seq (.seq (.region [⟨.mov (.loc 8), none, none⟩, ⟨.bin .eql (.reg 0) (.cst (.int .i64 2)), (some 18), none⟩])
    (.cond (.loc 18)
     (.seq (.region [⟨.mov (.loc 0), none, none⟩, ⟨.mov (.loc 1), none, none⟩, ⟨.mov (.loc 2), none, none⟩, ⟨.call false false 178 [(.reg 0), (.reg 1), (.reg 2)], none, none⟩])
     (.seq (.region [⟨.mov (.loc 2), none, none⟩, ⟨.bin .sub (.reg 0) (.cst (.int .i64 1)), none, none⟩, ⟨.mov (.loc 7), none, none⟩, ⟨.mov (.loc 1), none, none⟩, ⟨.bin .sub (.reg 2) (.reg 3), none, none⟩, ⟨.bin .sub (.reg 1) (.reg 4), none, none⟩, ⟨.mov (.reg 5), (some 7), none⟩])
     (.region [⟨.mov (.cst (.int .i64 1)), (some 8), none⟩])))
     .skip))
    (.seq (.seq (.region [⟨.mov (.loc 4), none, none⟩, ⟨.mov (.reg 0), none, none⟩, ⟨.mov (.loc 5), none, (some (1, true))⟩, ⟨.pick (.reg 1) (.reg 2) (.cst (.bool false)), none, none⟩, ⟨.mov (.reg 3), none, none⟩, ⟨.mov (.loc 8), none, (some (4, true))⟩, ⟨.bin .eql (.reg 5) (.cst (.int .i64 1)), none, (some (4, true))⟩, ⟨.pick (.reg 4) (.reg 6) (.cst (.bool false)), (some 19), none⟩])
    (.cond (.loc 19)
     (.seq (.region [⟨.mov (.loc 0), none, none⟩, ⟨.mov (.loc 1), none, none⟩, ⟨.mov (.loc 2), none, none⟩, ⟨.call false false 179 [(.reg 0), (.reg 1), (.reg 2)], (some 20), none⟩])
     (.cond (.loc 20)
      .ret
      .skip))
     .skip))
    (.seq (.seq (.draw [0, 1, 2, 3, 4, 5, 6, 7, 8, 9, 10, 11] [(12, [], [13, 14])] [⟨.mov (.loc 1), none, none⟩, ⟨.bin .gtr (.reg 0) (.cst (.int .i64 0)), none, none⟩, ⟨.mov (.reg 1), none, none⟩, ⟨.mov (.loc 0), none, (some (2, true))⟩, ⟨.mov (.loc 1), none, (some (2, true))⟩, ⟨.bin .sub (.reg 4) (.cst (.int .i64 1)), none, (some (2, true))⟩, ⟨.indexAddrS 1 (.reg 3) (.reg 5), none, (some (2, true))⟩, ⟨.load1 (.reg 6), none, (some (2, true))⟩, ⟨.mov (.loc 0), none, (some (2, true))⟩, ⟨.mov (.loc 7), none, (some (2, true))⟩, ⟨.indexAddrS 1 (.reg 8) (.reg 9), none, (some (2, true))⟩, ⟨.load1 (.reg 10), none, (some (2, true))⟩, ⟨.call true false 180 [(.reg 7), (.reg 11)], none, (some (2, true))⟩, ⟨.un .not (.reg 12), none, (some (2, true))⟩, ⟨.pick (.reg 2) (.reg 13) (.cst (.bool false)), (some 21), none⟩])
    (.cond (.loc 21)
     (.seq (.region [⟨.mov (.loc 0), none, none⟩, ⟨.mov (.loc 1), none, none⟩, ⟨.mov (.loc 2), none, none⟩, ⟨.mov (.loc 7), none, none⟩, ⟨.call false false 181 [(.reg 0), (.reg 1), (.reg 2), (.reg 3)], none, none⟩, ⟨.mov (.reg 4), (some 9), none⟩])
     (.seq (.region [⟨.mov (.loc 9), none, none⟩, ⟨.mov (.reg 0), (some 1), none⟩])
     (.exit 1)))
     .skip))
    (.seq (.region [⟨.mov (.loc 0), none, none⟩, ⟨.mov (.loc 1), none, none⟩, ⟨.mov (.loc 2), none, none⟩, ⟨.mov (.loc 7), none, none⟩, ⟨.call false false 182 [(.reg 0), (.reg 1), (.reg 2), (.reg 3)], none, none⟩, ⟨.mov (.reg 4), none, none⟩, ⟨.extract 0 (.reg 5), none, none⟩, ⟨.extract 1 (.reg 5), none, none⟩, ⟨.mov (.reg 6), (some 10), none⟩, ⟨.mov (.reg 7), (some 11), none⟩])
    (.seq (.region [⟨.mov (.loc 11), none, none⟩, ⟨.mov (.reg 0), (some 5), none⟩])
    (.seq (.region [⟨.mov (.loc 10), none, none⟩, ⟨.mov (.loc 1), none, none⟩, ⟨.bin .sub (.reg 0) (.reg 1), none, none⟩, ⟨.mov (.loc 2), none, none⟩, ⟨.mov (.loc 10), none, none⟩, ⟨.bin .sub (.reg 3) (.reg 4), none, none⟩, ⟨.mov (.reg 2), (some 12), none⟩, ⟨.mov (.reg 5), (some 13), none⟩])
    (.seq (.region [⟨.mov (.loc 6), none, none⟩, ⟨.bin .quo (.reg 0) (.cst (.int .i64 8)), none, none⟩, ⟨.mov (.reg 1), (some 14), none⟩])
    (.seq (.region [⟨.mov (.loc 12), none, none⟩, ⟨.mov (.loc 13), none, none⟩, ⟨.bin .lss (.reg 0) (.reg 1), (some 22), none⟩])
    (.cond (.loc 22)
     (.seq (.region [⟨.mov (.loc 12), none, none⟩, ⟨.mov (.loc 14), none, none⟩, ⟨.bin .geq (.reg 0) (.reg 1), none, none⟩, ⟨.mov (.reg 2), (some 4), none⟩])
     (.seq (.region [⟨.mov (.loc 0), none, none⟩, ⟨.mov (.loc 1), none, none⟩, ⟨.mov (.loc 10), none, none⟩, ⟨.mov (.loc 3), none, none⟩, ⟨.call false false 155 [(.reg 0), (.reg 1), (.reg 2), (.reg 3)], none, none⟩])
     (.region [⟨.mov (.loc 10), none, none⟩, ⟨.bin .add (.reg 0) (.cst (.int .i64 1)), none, none⟩, ⟨.mov (.reg 1), (some 1), none⟩])))
     (.seq (.region [⟨.mov (.loc 13), none, none⟩, ⟨.mov (.loc 14), none, none⟩, ⟨.bin .geq (.reg 0) (.reg 1), none, none⟩, ⟨.mov (.reg 2), (some 4), none⟩])
     (.seq (.region [⟨.mov (.loc 0), none, none⟩, ⟨.mov (.loc 10), none, none⟩, ⟨.bin .add (.reg 1) (.cst (.int .i64 1)), none, none⟩, ⟨.mov (.loc 2), none, none⟩, ⟨.mov (.loc 3), none, none⟩, ⟨.call false false 155 [(.reg 0), (.reg 2), (.reg 3), (.reg 4)], none, none⟩])
     (.region [⟨.mov (.loc 10), none, none⟩, ⟨.mov (.reg 0), (some 2), none⟩]))))))))))))))))))
def t155 : TFunc := ⟨4, 23, [],
 (.seq (.region [⟨.mov (.cst (.bool true)), (some 4), none⟩])
 (.seq (.region [⟨.mov (.cst (.bool true)), (some 5), none⟩])
 (.block 0
  (.loop t155L0))))⟩
theorem c155 : compFunc Tryz.prog opts a155 Tryz.f155 = some t155 := by kernel_rfl
def a156 : Ann := { slots := [0, 2], lb := [], mu := [], trunc := [], draws := [] }
def t156 : TFunc := ⟨1, 2, [.loc 1],
 (.seq (.region [⟨.mov (.cst (.int .i64 0)), (some 1), none⟩])
 (.seq (.cond (.cst (.bool false))
  (.seq (.region [⟨.mov (.loc 0), none, none⟩, ⟨.conv (.toInt .u32) (.reg 0), none, none⟩, ⟨.call true false 183 [(.reg 1)], none, none⟩, ⟨.mov (.reg 2), (some 1), none⟩])
  .ret)
  .skip)
 (.seq (.region [⟨.mov (.loc 0), none, none⟩, ⟨.call true false 184 [(.reg 0)], none, none⟩, ⟨.mov (.reg 1), (some 1), none⟩])
 .ret)))⟩
theorem c156 : compFunc Tryz.prog opts a156 Tryz.f156 = some t156 := by kernel_rfl
def a157 : Ann := { slots := [0, 2, 3, 4, 5, 13, 18, 23, 29], lb := [], mu := [], trunc := [], draws := [] }
def t157L0 : TCode := (.seq (.seq (.region [⟨.mov (.loc 4), none, none⟩, ⟨.mov (.loc 0), none, none⟩, ⟨.len .sl (.reg 1), none, none⟩, ⟨.bin .lss (.reg 0) (.reg 2), (some 8), none⟩])
   (.cond (.loc 8)
    .skip
    (.exit 0)))
   (.seq (.block 1
    (.region [⟨.mov (.loc 3), none, none⟩, ⟨.bin .mul (.cst (.int .i64 64)) (.reg 0), none, none⟩, ⟨.mov (.loc 0), none, none⟩, ⟨.mov (.loc 4), none, none⟩, ⟨.indexAddrS 1 (.reg 2) (.reg 3), none, none⟩, ⟨.load1 (.reg 4), none, none⟩, ⟨.conv (.toInt .i64) (.reg 5), none, none⟩, ⟨.bin .rem (.reg 6) (.cst (.int .i64 64)), none, none⟩, ⟨.bin .add (.reg 1) (.reg 7), none, none⟩, ⟨.mov (.reg 8), (some 3), none⟩]))
   (.region [⟨.mov (.loc 4), none, none⟩, ⟨.bin .add (.reg 0) (.cst (.int .i64 1)), none, none⟩, ⟨.mov (.reg 1), (some 4), none⟩])))
def t157 : TFunc := ⟨1, 9, [.loc 1],
 (.seq (.region [⟨.mov (.cst (.int .i64 0)), (some 1), none⟩])
 (.seq (.region [⟨.mov (.loc 0), none, none⟩, ⟨.indexAddrS 1 (.reg 0) (.cst (.int .i64 0)), none, none⟩, ⟨.load1 (.reg 1), none, none⟩, ⟨.conv (.toInt .i64) (.reg 2), none, none⟩, ⟨.mov (.reg 3), (some 2), none⟩])
 (.seq (.region [⟨.mov (.loc 2), none, none⟩, ⟨.mov (.reg 0), (some 3), none⟩])
 (.seq (.seq (.region [⟨.mov (.loc 0), none, none⟩, ⟨.len .sl (.reg 0), none, none⟩, ⟨.bin .eql (.reg 1) (.cst (.int .i64 2)), (some 5), none⟩])
 (.cond (.loc 5)
  (.region [⟨.mov (.loc 2), none, none⟩, ⟨.bin .rem (.reg 0) (.cst (.int .i64 32)), none, none⟩, ⟨.mov (.reg 1), (some 3), none⟩])
  .skip))
 (.seq (.seq (.region [⟨.mov (.loc 0), none, none⟩, ⟨.len .sl (.reg 0), none, none⟩, ⟨.bin .eql (.reg 1) (.cst (.int .i64 3)), (some 6), none⟩])
 (.cond (.loc 6)
  (.region [⟨.mov (.loc 2), none, none⟩, ⟨.bin .rem (.reg 0) (.cst (.int .i64 16)), none, none⟩, ⟨.mov (.reg 1), (some 3), none⟩])
  .skip))
 (.seq (.seq (.region [⟨.mov (.loc 0), none, none⟩, ⟨.len .sl (.reg 0), none, none⟩, ⟨.bin .eql (.reg 1) (.cst (.int .i64 4)), (some 7), none⟩])
 (.cond (.loc 7)
  (.region [⟨.mov (.loc 2), none, none⟩, ⟨.bin .rem (.reg 0) (.cst (.int .i64 8)), none, none⟩, ⟨.mov (.reg 1), (some 3), none⟩])
  .skip))
 (.seq (.seq (.region [⟨.mov (.cst (.int .i64 1)), (some 4), none⟩])
 (.block 0
  (.loop t157L0)))
 (.seq (.region [⟨.mov (.loc 3), none, none⟩, ⟨.mov (.reg 0), (some 1), none⟩])
 .ret))))))))⟩
theorem c157 : compFunc Tryz.prog opts a157 Tryz.f157 = some t157 := by kernel_rfl
def a158 : Ann := { slots := [0, 2, 4, 9, 20], lb := [], mu := [], trunc := [], draws := [] }
def t158 : TFunc := ⟨1, 5, [.loc 1],
 (.seq (.region [⟨.mov (.cst (.sl .nil [])), (some 1), none⟩])
 (.seq (.seq (.region [⟨.mov (.loc 0), none, none⟩, ⟨.bin .lss (.reg 0) (.cst (.int .i64 128)), (some 2), none⟩])
 (.cond (.loc 2)
  (.seq (.region [⟨.mov (.loc 0), none, none⟩, ⟨.conv (.toInt .u8) (.reg 0), none, none⟩, ⟨.lit false [(.int .u8 0)] 1 [(0, (.reg 1))], none, none⟩, ⟨.mov (.reg 2), (some 1), none⟩])
  .ret)
  .skip))
 (.seq (.seq (.region [⟨.mov (.loc 0), none, none⟩, ⟨.bin .lss (.reg 0) (.cst (.int .i64 2048)), (some 3), none⟩])
 (.cond (.loc 3)
  (.seq (.region [⟨.mov (.loc 0), none, none⟩, ⟨.bin .quo (.reg 0) (.cst (.int .i64 64)), none, none⟩, ⟨.bin .add (.cst (.int .i64 192)) (.reg 1), none, none⟩, ⟨.conv (.toInt .u8) (.reg 2), none, none⟩, ⟨.mov (.loc 0), none, none⟩, ⟨.bin .rem (.reg 4) (.cst (.int .i64 64)), none, none⟩, ⟨.bin .add (.cst (.int .i64 128)) (.reg 5), none, none⟩, ⟨.conv (.toInt .u8) (.reg 6), none, none⟩, ⟨.lit false [(.int .u8 0)] 2 [(0, (.reg 3)), (1, (.reg 7))], none, none⟩, ⟨.mov (.reg 8), (some 1), none⟩])
  .ret)
  .skip))
 (.seq (.seq (.region [⟨.mov (.loc 0), none, none⟩, ⟨.bin .lss (.reg 0) (.cst (.int .i64 65536)), (some 4), none⟩])
 (.cond (.loc 4)
  (.seq (.region [⟨.mov (.loc 0), none, none⟩, ⟨.bin .quo (.reg 0) (.cst (.int .i64 4096)), none, none⟩, ⟨.bin .add (.cst (.int .i64 224)) (.reg 1), none, none⟩, ⟨.conv (.toInt .u8) (.reg 2), none, none⟩, ⟨.mov (.loc 0), none, none⟩, ⟨.bin .quo (.reg 4) (.cst (.int .i64 64)), none, none⟩, ⟨.bin .rem (.reg 5) (.cst (.int .i64 64)), none, none⟩, ⟨.bin .add (.cst (.int .i64 128)) (.reg 6), none, none⟩, ⟨.conv (.toInt .u8) (.reg 7), none, none⟩, ⟨.mov (.loc 0), none, none⟩, ⟨.bin .rem (.reg 9) (.cst (.int .i64 64)), none, none⟩, ⟨.bin .add (.cst (.int .i64 128)) (.reg 10), none, none⟩, ⟨.conv (.toInt .u8) (.reg 11), none, none⟩, ⟨.lit false [(.int .u8 0)] 3 [(0, (.reg 3)), (1, (.reg 8)), (2, (.reg 12))], none, none⟩, ⟨.mov (.reg 13), (some 1), none⟩])
  .ret)
  .skip))
 (.seq (.region [⟨.mov (.loc 0), none, none⟩, ⟨.bin .quo (.reg 0) (.cst (.int .i64 262144)), none, none⟩, ⟨.bin .add (.cst (.int .i64 240)) (.reg 1), none, none⟩, ⟨.conv (.toInt .u8) (.reg 2), none, none⟩, ⟨.mov (.loc 0), none, none⟩, ⟨.bin .quo (.reg 4) (.cst (.int .i64 4096)), none, none⟩, ⟨.bin .rem (.reg 5) (.cst (.int .i64 64)), none, none⟩, ⟨.bin .add (.cst (.int .i64 128)) (.reg 6), none, none⟩, ⟨.conv (.toInt .u8) (.reg 7), none, none⟩, ⟨.mov (.loc 0), none, none⟩, ⟨.bin .quo (.reg 9) (.cst (.int .i64 64)), none, none⟩, ⟨.bin .rem (.reg 10) (.cst (.int .i64 64)), none, none⟩, ⟨.bin .add (.cst (.int .i64 128)) (.reg 11), none, none⟩, ⟨.conv (.toInt .u8) (.reg 12), none, none⟩, ⟨.mov (.loc 0), none, none⟩, ⟨.bin .rem (.reg 14) (.cst (.int .i64 64)), none, none⟩, ⟨.bin .add (.cst (.int .i64 128)) (.reg 15), none, none⟩, ⟨.conv (.toInt .u8) (.reg 16), none, none⟩, ⟨.lit false [(.int .u8 0)] 4 [(0, (.reg 3)), (1, (.reg 8)), (2, (.reg 13)), (3, (.reg 17))], none, none⟩, ⟨.mov (.reg 18), (some 1), none⟩])
 .ret)))))⟩
theorem c158 : compFunc Tryz.prog opts a158 Tryz.f158 = some t158 := by kernel_rfl
def a161 : Ann := { slots := [0, 2, 4], lb := [], mu := [], trunc := [], draws := [] }
def t161 : TFunc := ⟨1, 3, [.loc 1],
 (.seq (.region [⟨.mov (.cst (.str [])), (some 1), none⟩])
 (.seq (.seq (.region [⟨.mov (.loc 0), none, none⟩, ⟨.bin .lss (.reg 0) (.cst (.int .i64 10)), (some 2), none⟩])
 (.cond (.loc 2)
  (.seq (.region [⟨.mov (.loc 0), none, none⟩, ⟨.mov (.loc 0), none, none⟩, ⟨.bin .add (.reg 1) (.cst (.int .i64 1)), none, none⟩, ⟨.slice .str (.cst (.str [48, 49, 50, 51, 52, 53, 54, 55, 56, 57, 97, 98, 99, 100, 101, 102, 103, 104, 105, 106, 107, 108, 109, 110, 111, 112, 113, 114, 115, 116, 117, 118, 119, 120, 121, 122])) (some (.reg 0)) (some (.reg 2)) none, none, none⟩, ⟨.mov (.reg 3), (some 1), none⟩])
  .ret)
  .skip))
 (.seq (.region [⟨.mov (.loc 0), none, none⟩, ⟨.bin .mul (.reg 0) (.cst (.int .i64 2)), none, none⟩, ⟨.mov (.loc 0), none, none⟩, ⟨.bin .mul (.reg 2) (.cst (.int .i64 2)), none, none⟩, ⟨.bin .add (.reg 3) (.cst (.int .i64 2)), none, none⟩, ⟨.slice .str (.cst (.str [48, 48, 48, 49, 48, 50, 48, 51, 48, 52, 48, 53, 48, 54, 48, 55, 48, 56, 48, 57, 49, 48, 49, 49, 49, 50, 49, 51, 49, 52, 49, 53, 49, 54, 49, 55, 49, 56, 49, 57, 50, 48, 50, 49, 50, 50, 50, 51, 50, 52, 50, 53, 50, 54, 50, 55, 50, 56, 50, 57, 51, 48, 51, 49, 51, 50, 51, 51, 51, 52, 51, 53, 51, 54, 51, 55, 51, 56, 51, 57, 52, 48, 52, 49, 52, 50, 52, 51, 52, 52, 52, 53, 52, 54, 52, 55, 52, 56, 52, 57, 53, 48, 53, 49, 53, 50, 53, 51, 53, 52, 53, 53, 53, 54, 53, 55, 53, 56, 53, 57, 54, 48, 54, 49, 54, 50, 54, 51, 54, 52, 54, 53, 54, 54, 54, 55, 54, 56, 54, 57, 55, 48, 55, 49, 55, 50, 55, 51, 55, 52, 55, 53, 55, 54, 55, 55, 55, 56, 55, 57, 56, 48, 56, 49, 56, 50, 56, 51, 56, 52, 56, 53, 56, 54, 56, 55, 56, 56, 56, 57, 57, 48, 57, 49, 57, 50, 57, 51, 57, 52, 57, 53, 57, 54, 57, 55, 57, 56, 57, 57])) (some (.reg 1)) (some (.reg 4)) none, none, none⟩, ⟨.mov (.reg 5), (some 1), none⟩])
 .ret)))⟩
theorem c161 : compFunc Tryz.prog opts a161 Tryz.f161 = some t161 := by kernel_rfl
def a162 : Ann := { slots := [0, 2, 3], lb := [], mu := [], trunc := [], draws := [] }
def t162 : TFunc := ⟨1, 3, [.loc 1],
 (.seq (.region [⟨.mov (.cst (.int .i64 0)), (some 1), none⟩])
 (.seq (.region [⟨.mov (.loc 0), none, none⟩, ⟨.call true false 184 [(.reg 0)], none, none⟩, ⟨.call true false 185 [(.reg 1)], none, none⟩, ⟨.mov (.reg 2), (some 2), none⟩])
 (.seq (.region [⟨.mov (.loc 2), none, none⟩, ⟨.mov (.loc 0), none, none⟩, ⟨.mov (.loc 2), none, none⟩, ⟨.indexAddrA 20 1 (.glob 0) (.reg 2), none, none⟩, ⟨.load1 (.reg 3), none, none⟩, ⟨.bin .geq (.reg 1) (.reg 4), none, none⟩, ⟨.call true false 186 [(.reg 5)], none, none⟩, ⟨.bin .add (.reg 0) (.reg 6), none, none⟩, ⟨.mov (.reg 7), (some 1), none⟩])
 .ret)))⟩
theorem c162 : compFunc Tryz.prog opts a162 Tryz.f162 = some t162 := by kernel_rfl
def a163 : Ann := { slots := [0, 1, 4, 5, 6, 7, 8, 9, 10, 11, 12, 13, 14, 15, 16, 20, 99, 139, 161], lb := [], mu := [], trunc := [], draws := [(7, ⟨[0, 0, 2, 0, 0, 16, 0, 64, 192, 0, 512, 455, 2503, 8191, 16383], [0, 1, 2, 3, 4, 5, 6, 7, 8, 9, 10, 11], [(12, [], [13]), (14, [], [])]⟩), (8, ⟨[0, 0, 2, 0, 0, 16, 0, 64, 192, 0, 512, 455, 2503, 8191, 16383], [0, 1, 2, 3, 4, 5, 6, 7, 8, 9, 10, 11], [(12, [], [13]), (14, [], [])]⟩), (9, ⟨[0, 0, 2, 0, 0, 16, 0, 64, 192, 0, 512, 455, 2503, 8191, 16383], [0, 1, 2, 3, 4, 5, 6, 7, 8, 9, 10, 11], [(12, [], [13]), (14, [], [])]⟩), (10, ⟨[0, 0, 2, 0, 0, 16, 0, 64, 192, 0, 512, 455, 2503, 8191, 16383], [0, 1, 2, 3, 4, 5, 6, 7, 8, 9, 10, 11], [(12, [], [13]), (14, [], [])]⟩), (17, ⟨[0, 0, 2, 0, 0, 16, 0, 64, 192, 0, 512, 455, 2503, 8191, 16383], [0, 1, 2, 3, 4, 5, 6, 7, 8, 9, 10, 11], [(12, [], [13]), (14, [], [])]⟩), (18, ⟨[0, 0, 2, 0, 0, 16, 0, 64, 192, 0, 512, 455, 2503, 8191, 16383], [0, 1, 2, 3, 4, 5, 6, 7, 8, 9, 10, 11], [(12, [], [13]), (14, [], [])]⟩), (23, ⟨[0, 0, 2, 0, 0, 16, 0, 64, 192, 0, 512, 455, 2503, 8191, 16383], [0, 1, 2, 3, 4, 5, 6, 7, 8, 9, 10, 11], [(12, [], [13]), (14, [], [])]⟩)] }
def t163L0 : TCode := (.seq (.seq (.region [⟨.mov (.loc 2), none, none⟩, ⟨.bin .geq (.reg 0) (.cst (.int .i64 8)), (some 15), none⟩])
   (.cond (.loc 15)
    .skip
    (.exit 0)))
   (.block 1
    (.seq (.region [⟨.mov (.loc 1), none, none⟩, ⟨.bin .rem (.reg 0) (.cst (.int .u64 100000000)), none, none⟩, ⟨.conv (.toInt .u32) (.reg 1), none, none⟩, ⟨.mov (.reg 2), (some 3), none⟩])
    (.seq (.region [⟨.mov (.loc 1), none, none⟩, ⟨.bin .quo (.reg 0) (.cst (.int .u64 100000000)), none, none⟩, ⟨.mov (.reg 1), (some 1), none⟩])
    (.seq (.region [⟨.mov (.loc 3), none, none⟩, ⟨.bin .quo (.reg 0) (.cst (.int .u32 10000)), none, none⟩, ⟨.mov (.loc 3), none, none⟩, ⟨.bin .rem (.reg 2) (.cst (.int .u32 10000)), none, none⟩, ⟨.mov (.reg 1), (some 4), none⟩, ⟨.mov (.reg 3), (some 5), none⟩])
    (.seq (.region [⟨.mov (.loc 5), none, none⟩, ⟨.bin .quo (.reg 0) (.cst (.int .u32 100)), none, none⟩, ⟨.bin .mul (.reg 1) (.cst (.int .u32 2)), none, none⟩, ⟨.mov (.loc 5), none, none⟩, ⟨.bin .rem (.reg 3) (.cst (.int .u32 100)), none, none⟩, ⟨.bin .mul (.reg 4) (.cst (.int .u32 2)), none, none⟩, ⟨.mov (.reg 2), (some 6), none⟩, ⟨.mov (.reg 5), (some 7), none⟩])
    (.seq (.region [⟨.mov (.loc 4), none, none⟩, ⟨.bin .quo (.reg 0) (.cst (.int .u32 100)), none, none⟩, ⟨.bin .mul (.reg 1) (.cst (.int .u32 2)), none, none⟩, ⟨.mov (.loc 4), none, none⟩, ⟨.bin .rem (.reg 3) (.cst (.int .u32 100)), none, none⟩, ⟨.bin .mul (.reg 4) (.cst (.int .u32 2)), none, none⟩, ⟨.mov (.reg 2), (some 8), none⟩, ⟨.mov (.reg 5), (some 9), none⟩])
    (.seq (.draw [0, 1, 2, 3, 4, 5, 6, 7, 8, 9, 10, 11] [(12, [], [13]), (14, [], [])] [⟨.mov (.loc 0), none, none⟩, ⟨.mov (.loc 2), none, none⟩, ⟨.bin .sub (.reg 1) (.cst (.int .i64 1)), none, none⟩, ⟨.mov (.loc 0), none, none⟩, ⟨.mov (.loc 2), none, none⟩, ⟨.bin .sub (.reg 4) (.cst (.int .i64 2)), none, none⟩, ⟨.mov (.loc 7), none, none⟩, ⟨.bin .add (.reg 6) (.cst (.int .u32 1)), none, none⟩, ⟨.indexS (.cst (.str [48, 48, 48, 49, 48, 50, 48, 51, 48, 52, 48, 53, 48, 54, 48, 55, 48, 56, 48, 57, 49, 48, 49, 49, 49, 50, 49, 51, 49, 52, 49, 53, 49, 54, 49, 55, 49, 56, 49, 57, 50, 48, 50, 49, 50, 50, 50, 51, 50, 52, 50, 53, 50, 54, 50, 55, 50, 56, 50, 57, 51, 48, 51, 49, 51, 50, 51, 51, 51, 52, 51, 53, 51, 54, 51, 55, 51, 56, 51, 57, 52, 48, 52, 49, 52, 50, 52, 51, 52, 52, 52, 53, 52, 54, 52, 55, 52, 56, 52, 57, 53, 48, 53, 49, 53, 50, 53, 51, 53, 52, 53, 53, 53, 54, 53, 55, 53, 56, 53, 57, 54, 48, 54, 49, 54, 50, 54, 51, 54, 52, 54, 53, 54, 54, 54, 55, 54, 56, 54, 57, 55, 48, 55, 49, 55, 50, 55, 51, 55, 52, 55, 53, 55, 54, 55, 55, 55, 56, 55, 57, 56, 48, 56, 49, 56, 50, 56, 51, 56, 52, 56, 53, 56, 54, 56, 55, 56, 56, 56, 57, 57, 48, 57, 49, 57, 50, 57, 51, 57, 52, 57, 53, 57, 54, 57, 55, 57, 56, 57, 57])) (.reg 7), none, none⟩, ⟨.mov (.loc 7), none, none⟩, ⟨.indexS (.cst (.str [48, 48, 48, 49, 48, 50, 48, 51, 48, 52, 48, 53, 48, 54, 48, 55, 48, 56, 48, 57, 49, 48, 49, 49, 49, 50, 49, 51, 49, 52, 49, 53, 49, 54, 49, 55, 49, 56, 49, 57, 50, 48, 50, 49, 50, 50, 50, 51, 50, 52, 50, 53, 50, 54, 50, 55, 50, 56, 50, 57, 51, 48, 51, 49, 51, 50, 51, 51, 51, 52, 51, 53, 51, 54, 51, 55, 51, 56, 51, 57, 52, 48, 52, 49, 52, 50, 52, 51, 52, 52, 52, 53, 52, 54, 52, 55, 52, 56, 52, 57, 53, 48, 53, 49, 53, 50, 53, 51, 53, 52, 53, 53, 53, 54, 53, 55, 53, 56, 53, 57, 54, 48, 54, 49, 54, 50, 54, 51, 54, 52, 54, 53, 54, 54, 54, 55, 54, 56, 54, 57, 55, 48, 55, 49, 55, 50, 55, 51, 55, 52, 55, 53, 55, 54, 55, 55, 55, 56, 55, 57, 56, 48, 56, 49, 56, 50, 56, 51, 56, 52, 56, 53, 56, 54, 56, 55, 56, 56, 56, 57, 57, 48, 57, 49, 57, 50, 57, 51, 57, 52, 57, 53, 57, 54, 57, 55, 57, 56, 57, 57])) (.reg 9), none, none⟩, ⟨.indexAddrS 1 (.reg 0) (.reg 2), none, none⟩, ⟨.store 1 (.reg 11) (.reg 8), none, none⟩, ⟨.indexAddrS 1 (.reg 3) (.reg 5), none, none⟩, ⟨.store 1 (.reg 13) (.reg 10), none, none⟩])
    (.seq (.draw [0, 1, 2, 3, 4, 5, 6, 7, 8, 9, 10, 11] [(12, [], [13]), (14, [], [])] [⟨.mov (.loc 0), none, none⟩, ⟨.mov (.loc 2), none, none⟩, ⟨.bin .sub (.reg 1) (.cst (.int .i64 3)), none, none⟩, ⟨.mov (.loc 0), none, none⟩, ⟨.mov (.loc 2), none, none⟩, ⟨.bin .sub (.reg 4) (.cst (.int .i64 4)), none, none⟩, ⟨.mov (.loc 6), none, none⟩, ⟨.bin .add (.reg 6) (.cst (.int .u32 1)), none, none⟩, ⟨.indexS (.cst (.str [48, 48, 48, 49, 48, 50, 48, 51, 48, 52, 48, 53, 48, 54, 48, 55, 48, 56, 48, 57, 49, 48, 49, 49, 49, 50, 49, 51, 49, 52, 49, 53, 49, 54, 49, 55, 49, 56, 49, 57, 50, 48, 50, 49, 50, 50, 50, 51, 50, 52, 50, 53, 50, 54, 50, 55, 50, 56, 50, 57, 51, 48, 51, 49, 51, 50, 51, 51, 51, 52, 51, 53, 51, 54, 51, 55, 51, 56, 51, 57, 52, 48, 52, 49, 52, 50, 52, 51, 52, 52, 52, 53, 52, 54, 52, 55, 52, 56, 52, 57, 53, 48, 53, 49, 53, 50, 53, 51, 53, 52, 53, 53, 53, 54, 53, 55, 53, 56, 53, 57, 54, 48, 54, 49, 54, 50, 54, 51, 54, 52, 54, 53, 54, 54, 54, 55, 54, 56, 54, 57, 55, 48, 55, 49, 55, 50, 55, 51, 55, 52, 55, 53, 55, 54, 55, 55, 55, 56, 55, 57, 56, 48, 56, 49, 56, 50, 56, 51, 56, 52, 56, 53, 56, 54, 56, 55, 56, 56, 56, 57, 57, 48, 57, 49, 57, 50, 57, 51, 57, 52, 57, 53, 57, 54, 57, 55, 57, 56, 57, 57])) (.reg 7), none, none⟩, ⟨.mov (.loc 6), none, none⟩, ⟨.indexS (.cst (.str [48, 48, 48, 49, 48, 50, 48, 51, 48, 52, 48, 53, 48, 54, 48, 55, 48, 56, 48, 57, 49, 48, 49, 49, 49, 50, 49, 51, 49, 52, 49, 53, 49, 54, 49, 55, 49, 56, 49, 57, 50, 48, 50, 49, 50, 50, 50, 51, 50, 52, 50, 53, 50, 54, 50, 55, 50, 56, 50, 57, 51, 48, 51, 49, 51, 50, 51, 51, 51, 52, 51, 53, 51, 54, 51, 55, 51, 56, 51, 57, 52, 48, 52, 49, 52, 50, 52, 51, 52, 52, 52, 53, 52, 54, 52, 55, 52, 56, 52, 57, 53, 48, 53, 49, 53, 50, 53, 51, 53, 52, 53, 53, 53, 54, 53, 55, 53, 56, 53, 57, 54, 48, 54, 49, 54, 50, 54, 51, 54, 52, 54, 53, 54, 54, 54, 55, 54, 56, 54, 57, 55, 48, 55, 49, 55, 50, 55, 51, 55, 52, 55, 53, 55, 54, 55, 55, 55, 56, 55, 57, 56, 48, 56, 49, 56, 50, 56, 51, 56, 52, 56, 53, 56, 54, 56, 55, 56, 56, 56, 57, 57, 48, 57, 49, 57, 50, 57, 51, 57, 52, 57, 53, 57, 54, 57, 55, 57, 56, 57, 57])) (.reg 9), none, none⟩, ⟨.indexAddrS 1 (.reg 0) (.reg 2), none, none⟩, ⟨.store 1 (.reg 11) (.reg 8), none, none⟩, ⟨.indexAddrS 1 (.reg 3) (.reg 5), none, none⟩, ⟨.store 1 (.reg 13) (.reg 10), none, none⟩])
    (.seq (.draw [0, 1, 2, 3, 4, 5, 6, 7, 8, 9, 10, 11] [(12, [], [13]), (14, [], [])] [⟨.mov (.loc 0), none, none⟩, ⟨.mov (.loc 2), none, none⟩, ⟨.bin .sub (.reg 1) (.cst (.int .i64 5)), none, none⟩, ⟨.mov (.loc 0), none, none⟩, ⟨.mov (.loc 2), none, none⟩, ⟨.bin .sub (.reg 4) (.cst (.int .i64 6)), none, none⟩, ⟨.mov (.loc 9), none, none⟩, ⟨.bin .add (.reg 6) (.cst (.int .u32 1)), none, none⟩, ⟨.indexS (.cst (.str [48, 48, 48, 49, 48, 50, 48, 51, 48, 52, 48, 53, 48, 54, 48, 55, 48, 56, 48, 57, 49, 48, 49, 49, 49, 50, 49, 51, 49, 52, 49, 53, 49, 54, 49, 55, 49, 56, 49, 57, 50, 48, 50, 49, 50, 50, 50, 51, 50, 52, 50, 53, 50, 54, 50, 55, 50, 56, 50, 57, 51, 48, 51, 49, 51, 50, 51, 51, 51, 52, 51, 53, 51, 54, 51, 55, 51, 56, 51, 57, 52, 48, 52, 49, 52, 50, 52, 51, 52, 52, 52, 53, 52, 54, 52, 55, 52, 56, 52, 57, 53, 48, 53, 49, 53, 50, 53, 51, 53, 52, 53, 53, 53, 54, 53, 55, 53, 56, 53, 57, 54, 48, 54, 49, 54, 50, 54, 51, 54, 52, 54, 53, 54, 54, 54, 55, 54, 56, 54, 57, 55, 48, 55, 49, 55, 50, 55, 51, 55, 52, 55, 53, 55, 54, 55, 55, 55, 56, 55, 57, 56, 48, 56, 49, 56, 50, 56, 51, 56, 52, 56, 53, 56, 54, 56, 55, 56, 56, 56, 57, 57, 48, 57, 49, 57, 50, 57, 51, 57, 52, 57, 53, 57, 54, 57, 55, 57, 56, 57, 57])) (.reg 7), none, none⟩, ⟨.mov (.loc 9), none, none⟩, ⟨.indexS (.cst (.str [48, 48, 48, 49, 48, 50, 48, 51, 48, 52, 48, 53, 48, 54, 48, 55, 48, 56, 48, 57, 49, 48, 49, 49, 49, 50, 49, 51, 49, 52, 49, 53, 49, 54, 49, 55, 49, 56, 49, 57, 50, 48, 50, 49, 50, 50, 50, 51, 50, 52, 50, 53, 50, 54, 50, 55, 50, 56, 50, 57, 51, 48, 51, 49, 51, 50, 51, 51, 51, 52, 51, 53, 51, 54, 51, 55, 51, 56, 51, 57, 52, 48, 52, 49, 52, 50, 52, 51, 52, 52, 52, 53, 52, 54, 52, 55, 52, 56, 52, 57, 53, 48, 53, 49, 53, 50, 53, 51, 53, 52, 53, 53, 53, 54, 53, 55, 53, 56, 53, 57, 54, 48, 54, 49, 54, 50, 54, 51, 54, 52, 54, 53, 54, 54, 54, 55, 54, 56, 54, 57, 55, 48, 55, 49, 55, 50, 55, 51, 55, 52, 55, 53, 55, 54, 55, 55, 55, 56, 55, 57, 56, 48, 56, 49, 56, 50, 56, 51, 56, 52, 56, 53, 56, 54, 56, 55, 56, 56, 56, 57, 57, 48, 57, 49, 57, 50, 57, 51, 57, 52, 57, 53, 57, 54, 57, 55, 57, 56, 57, 57])) (.reg 9), none, none⟩, ⟨.indexAddrS 1 (.reg 0) (.reg 2), none, none⟩, ⟨.store 1 (.reg 11) (.reg 8), none, none⟩, ⟨.indexAddrS 1 (.reg 3) (.reg 5), none, none⟩, ⟨.store 1 (.reg 13) (.reg 10), none, none⟩])
    (.seq (.draw [0, 1, 2, 3, 4, 5, 6, 7, 8, 9, 10, 11] [(12, [], [13]), (14, [], [])] [⟨.mov (.loc 0), none, none⟩, ⟨.mov (.loc 2), none, none⟩, ⟨.bin .sub (.reg 1) (.cst (.int .i64 7)), none, none⟩, ⟨.mov (.loc 0), none, none⟩, ⟨.mov (.loc 2), none, none⟩, ⟨.bin .sub (.reg 4) (.cst (.int .i64 8)), none, none⟩, ⟨.mov (.loc 8), none, none⟩, ⟨.bin .add (.reg 6) (.cst (.int .u32 1)), none, none⟩, ⟨.indexS (.cst (.str [48, 48, 48, 49, 48, 50, 48, 51, 48, 52, 48, 53, 48, 54, 48, 55, 48, 56, 48, 57, 49, 48, 49, 49, 49, 50, 49, 51, 49, 52, 49, 53, 49, 54, 49, 55, 49, 56, 49, 57, 50, 48, 50, 49, 50, 50, 50, 51, 50, 52, 50, 53, 50, 54, 50, 55, 50, 56, 50, 57, 51, 48, 51, 49, 51, 50, 51, 51, 51, 52, 51, 53, 51, 54, 51, 55, 51, 56, 51, 57, 52, 48, 52, 49, 52, 50, 52, 51, 52, 52, 52, 53, 52, 54, 52, 55, 52, 56, 52, 57, 53, 48, 53, 49, 53, 50, 53, 51, 53, 52, 53, 53, 53, 54, 53, 55, 53, 56, 53, 57, 54, 48, 54, 49, 54, 50, 54, 51, 54, 52, 54, 53, 54, 54, 54, 55, 54, 56, 54, 57, 55, 48, 55, 49, 55, 50, 55, 51, 55, 52, 55, 53, 55, 54, 55, 55, 55, 56, 55, 57, 56, 48, 56, 49, 56, 50, 56, 51, 56, 52, 56, 53, 56, 54, 56, 55, 56, 56, 56, 57, 57, 48, 57, 49, 57, 50, 57, 51, 57, 52, 57, 53, 57, 54, 57, 55, 57, 56, 57, 57])) (.reg 7), none, none⟩, ⟨.mov (.loc 8), none, none⟩, ⟨.indexS (.cst (.str [48, 48, 48, 49, 48, 50, 48, 51, 48, 52, 48, 53, 48, 54, 48, 55, 48, 56, 48, 57, 49, 48, 49, 49, 49, 50, 49, 51, 49, 52, 49, 53, 49, 54, 49, 55, 49, 56, 49, 57, 50, 48, 50, 49, 50, 50, 50, 51, 50, 52, 50, 53, 50, 54, 50, 55, 50, 56, 50, 57, 51, 48, 51, 49, 51, 50, 51, 51, 51, 52, 51, 53, 51, 54, 51, 55, 51, 56, 51, 57, 52, 48, 52, 49, 52, 50, 52, 51, 52, 52, 52, 53, 52, 54, 52, 55, 52, 56, 52, 57, 53, 48, 53, 49, 53, 50, 53, 51, 53, 52, 53, 53, 53, 54, 53, 55, 53, 56, 53, 57, 54, 48, 54, 49, 54, 50, 54, 51, 54, 52, 54, 53, 54, 54, 54, 55, 54, 56, 54, 57, 55, 48, 55, 49, 55, 50, 55, 51, 55, 52, 55, 53, 55, 54, 55, 55, 55, 56, 55, 57, 56, 48, 56, 49, 56, 50, 56, 51, 56, 52, 56, 53, 56, 54, 56, 55, 56, 56, 56, 57, 57, 48, 57, 49, 57, 50, 57, 51, 57, 52, 57, 53, 57, 54, 57, 55, 57, 56, 57, 57])) (.reg 9), none, none⟩, ⟨.indexAddrS 1 (.reg 0) (.reg 2), none, none⟩, ⟨.store 1 (.reg 11) (.reg 8), none, none⟩, ⟨.indexAddrS 1 (.reg 3) (.reg 5), none, none⟩, ⟨.store 1 (.reg 13) (.reg 10), none, none⟩])
    (.region [⟨.mov (.loc 2), none, none⟩, ⟨.bin .sub (.reg 0) (.cst (.int .i64 8)), none, none⟩, ⟨.mov (.reg 1), (some 2), none⟩]))))))))))))
def t163 : TFunc := ⟨2, 19, [],
 (.seq (.region [⟨.mov (.loc 0), none, none⟩, ⟨.len .sl (.reg 0), none, none⟩, ⟨.mov (.reg 1), (some 2), none⟩])
 (.seq (.block 0
  (.loop t163L0))
 (.seq (.region [⟨.mov (.loc 1), none, none⟩, ⟨.conv (.toInt .u32) (.reg 0), none, none⟩, ⟨.mov (.reg 1), (some 10), none⟩])
 (.seq (.seq (.region [⟨.mov (.loc 2), none, none⟩, ⟨.bin .geq (.reg 0) (.cst (.int .i64 4)), (some 16), none⟩])
 (.cond (.loc 16)
  (.seq (.region [⟨.mov (.loc 10), none, none⟩, ⟨.bin .rem (.reg 0) (.cst (.int .u32 10000)), none, none⟩, ⟨.mov (.reg 1), (some 11), none⟩])
  (.seq (.region [⟨.mov (.loc 10), none, none⟩, ⟨.bin .quo (.reg 0) (.cst (.int .u32 10000)), none, none⟩, ⟨.mov (.reg 1), (some 10), none⟩])
  (.seq (.region [⟨.mov (.loc 11), none, none⟩, ⟨.bin .quo (.reg 0) (.cst (.int .u32 100)), none, none⟩, ⟨.bin .mul (.reg 1) (.cst (.int .u32 2)), none, none⟩, ⟨.mov (.loc 11), none, none⟩, ⟨.bin .rem (.reg 3) (.cst (.int .u32 100)), none, none⟩, ⟨.bin .mul (.reg 4) (.cst (.int .u32 2)), none, none⟩, ⟨.mov (.reg 2), (some 12), none⟩, ⟨.mov (.reg 5), (some 13), none⟩])
  (.seq (.draw [0, 1, 2, 3, 4, 5, 6, 7, 8, 9, 10, 11] [(12, [], [13]), (14, [], [])] [⟨.mov (.loc 0), none, none⟩, ⟨.mov (.loc 2), none, none⟩, ⟨.bin .sub (.reg 1) (.cst (.int .i64 1)), none, none⟩, ⟨.mov (.loc 0), none, none⟩, ⟨.mov (.loc 2), none, none⟩, ⟨.bin .sub (.reg 4) (.cst (.int .i64 2)), none, none⟩, ⟨.mov (.loc 13), none, none⟩, ⟨.bin .add (.reg 6) (.cst (.int .u32 1)), none, none⟩, ⟨.indexS (.cst (.str [48, 48, 48, 49, 48, 50, 48, 51, 48, 52, 48, 53, 48, 54, 48, 55, 48, 56, 48, 57, 49, 48, 49, 49, 49, 50, 49, 51, 49, 52, 49, 53, 49, 54, 49, 55, 49, 56, 49, 57, 50, 48, 50, 49, 50, 50, 50, 51, 50, 52, 50, 53, 50, 54, 50, 55, 50, 56, 50, 57, 51, 48, 51, 49, 51, 50, 51, 51, 51, 52, 51, 53, 51, 54, 51, 55, 51, 56, 51, 57, 52, 48, 52, 49, 52, 50, 52, 51, 52, 52, 52, 53, 52, 54, 52, 55, 52, 56, 52, 57, 53, 48, 53, 49, 53, 50, 53, 51, 53, 52, 53, 53, 53, 54, 53, 55, 53, 56, 53, 57, 54, 48, 54, 49, 54, 50, 54, 51, 54, 52, 54, 53, 54, 54, 54, 55, 54, 56, 54, 57, 55, 48, 55, 49, 55, 50, 55, 51, 55, 52, 55, 53, 55, 54, 55, 55, 55, 56, 55, 57, 56, 48, 56, 49, 56, 50, 56, 51, 56, 52, 56, 53, 56, 54, 56, 55, 56, 56, 56, 57, 57, 48, 57, 49, 57, 50, 57, 51, 57, 52, 57, 53, 57, 54, 57, 55, 57, 56, 57, 57])) (.reg 7), none, none⟩, ⟨.mov (.loc 13), none, none⟩, ⟨.indexS (.cst (.str [48, 48, 48, 49, 48, 50, 48, 51, 48, 52, 48, 53, 48, 54, 48, 55, 48, 56, 48, 57, 49, 48, 49, 49, 49, 50, 49, 51, 49, 52, 49, 53, 49, 54, 49, 55, 49, 56, 49, 57, 50, 48, 50, 49, 50, 50, 50, 51, 50, 52, 50, 53, 50, 54, 50, 55, 50, 56, 50, 57, 51, 48, 51, 49, 51, 50, 51, 51, 51, 52, 51, 53, 51, 54, 51, 55, 51, 56, 51, 57, 52, 48, 52, 49, 52, 50, 52, 51, 52, 52, 52, 53, 52, 54, 52, 55, 52, 56, 52, 57, 53, 48, 53, 49, 53, 50, 53, 51, 53, 52, 53, 53, 53, 54, 53, 55, 53, 56, 53, 57, 54, 48, 54, 49, 54, 50, 54, 51, 54, 52, 54, 53, 54, 54, 54, 55, 54, 56, 54, 57, 55, 48, 55, 49, 55, 50, 55, 51, 55, 52, 55, 53, 55, 54, 55, 55, 55, 56, 55, 57, 56, 48, 56, 49, 56, 50, 56, 51, 56, 52, 56, 53, 56, 54, 56, 55, 56, 56, 56, 57, 57, 48, 57, 49, 57, 50, 57, 51, 57, 52, 57, 53, 57, 54, 57, 55, 57, 56, 57, 57])) (.reg 9), none, none⟩, ⟨.indexAddrS 1 (.reg 0) (.reg 2), none, none⟩, ⟨.store 1 (.reg 11) (.reg 8), none, none⟩, ⟨.indexAddrS 1 (.reg 3) (.reg 5), none, none⟩, ⟨.store 1 (.reg 13) (.reg 10), none, none⟩])
  (.seq (.draw [0, 1, 2, 3, 4, 5, 6, 7, 8, 9, 10, 11] [(12, [], [13]), (14, [], [])] [⟨.mov (.loc 0), none, none⟩, ⟨.mov (.loc 2), none, none⟩, ⟨.bin .sub (.reg 1) (.cst (.int .i64 3)), none, none⟩, ⟨.mov (.loc 0), none, none⟩, ⟨.mov (.loc 2), none, none⟩, ⟨.bin .sub (.reg 4) (.cst (.int .i64 4)), none, none⟩, ⟨.mov (.loc 12), none, none⟩, ⟨.bin .add (.reg 6) (.cst (.int .u32 1)), none, none⟩, ⟨.indexS (.cst (.str [48, 48, 48, 49, 48, 50, 48, 51, 48, 52, 48, 53, 48, 54, 48, 55, 48, 56, 48, 57, 49, 48, 49, 49, 49, 50, 49, 51, 49, 52, 49, 53, 49, 54, 49, 55, 49, 56, 49, 57, 50, 48, 50, 49, 50, 50, 50, 51, 50, 52, 50, 53, 50, 54, 50, 55, 50, 56, 50, 57, 51, 48, 51, 49, 51, 50, 51, 51, 51, 52, 51, 53, 51, 54, 51, 55, 51, 56, 51, 57, 52, 48, 52, 49, 52, 50, 52, 51, 52, 52, 52, 53, 52, 54, 52, 55, 52, 56, 52, 57, 53, 48, 53, 49, 53, 50, 53, 51, 53, 52, 53, 53, 53, 54, 53, 55, 53, 56, 53, 57, 54, 48, 54, 49, 54, 50, 54, 51, 54, 52, 54, 53, 54, 54, 54, 55, 54, 56, 54, 57, 55, 48, 55, 49, 55, 50, 55, 51, 55, 52, 55, 53, 55, 54, 55, 55, 55, 56, 55, 57, 56, 48, 56, 49, 56, 50, 56, 51, 56, 52, 56, 53, 56, 54, 56, 55, 56, 56, 56, 57, 57, 48, 57, 49, 57, 50, 57, 51, 57, 52, 57, 53, 57, 54, 57, 55, 57, 56, 57, 57])) (.reg 7), none, none⟩, ⟨.mov (.loc 12), none, none⟩, ⟨.indexS (.cst (.str [48, 48, 48, 49, 48, 50, 48, 51, 48, 52, 48, 53, 48, 54, 48, 55, 48, 56, 48, 57, 49, 48, 49, 49, 49, 50, 49, 51, 49, 52, 49, 53, 49, 54, 49, 55, 49, 56, 49, 57, 50, 48, 50, 49, 50, 50, 50, 51, 50, 52, 50, 53, 50, 54, 50, 55, 50, 56, 50, 57, 51, 48, 51, 49, 51, 50, 51, 51, 51, 52, 51, 53, 51, 54, 51, 55, 51, 56, 51, 57, 52, 48, 52, 49, 52, 50, 52, 51, 52, 52, 52, 53, 52, 54, 52, 55, 52, 56, 52, 57, 53, 48, 53, 49, 53, 50, 53, 51, 53, 52, 53, 53, 53, 54, 53, 55, 53, 56, 53, 57, 54, 48, 54, 49, 54, 50, 54, 51, 54, 52, 54, 53, 54, 54, 54, 55, 54, 56, 54, 57, 55, 48, 55, 49, 55, 50, 55, 51, 55, 52, 55, 53, 55, 54, 55, 55, 55, 56, 55, 57, 56, 48, 56, 49, 56, 50, 56, 51, 56, 52, 56, 53, 56, 54, 56, 55, 56, 56, 56, 57, 57, 48, 57, 49, 57, 50, 57, 51, 57, 52, 57, 53, 57, 54, 57, 55, 57, 56, 57, 57])) (.reg 9), none, none⟩, ⟨.indexAddrS 1 (.reg 0) (.reg 2), none, none⟩, ⟨.store 1 (.reg 11) (.reg 8), none, none⟩, ⟨.indexAddrS 1 (.reg 3) (.reg 5), none, none⟩, ⟨.store 1 (.reg 13) (.reg 10), none, none⟩])
  (.region [⟨.mov (.loc 2), none, none⟩, ⟨.bin .sub (.reg 0) (.cst (.int .i64 4)), none, none⟩, ⟨.mov (.reg 1), (some 2), none⟩]))))))
  .skip))
 (.seq (.seq (.region [⟨.mov (.loc 2), none, none⟩, ⟨.bin .geq (.reg 0) (.cst (.int .i64 2)), (some 17), none⟩])
 (.cond (.loc 17)
  (.seq (.region [⟨.mov (.loc 10), none, none⟩, ⟨.bin .rem (.reg 0) (.cst (.int .u32 100)), none, none⟩, ⟨.bin .mul (.reg 1) (.cst (.int .u32 2)), none, none⟩, ⟨.mov (.reg 2), (some 14), none⟩])
  (.seq (.region [⟨.mov (.loc 10), none, none⟩, ⟨.bin .quo (.reg 0) (.cst (.int .u32 100)), none, none⟩, ⟨.mov (.reg 1), (some 10), none⟩])
  (.seq (.draw [0, 1, 2, 3, 4, 5, 6, 7, 8, 9, 10, 11] [(12, [], [13]), (14, [], [])] [⟨.mov (.loc 0), none, none⟩, ⟨.mov (.loc 2), none, none⟩, ⟨.bin .sub (.reg 1) (.cst (.int .i64 1)), none, none⟩, ⟨.mov (.loc 0), none, none⟩, ⟨.mov (.loc 2), none, none⟩, ⟨.bin .sub (.reg 4) (.cst (.int .i64 2)), none, none⟩, ⟨.mov (.loc 14), none, none⟩, ⟨.bin .add (.reg 6) (.cst (.int .u32 1)), none, none⟩, ⟨.indexS (.cst (.str [48, 48, 48, 49, 48, 50, 48, 51, 48, 52, 48, 53, 48, 54, 48, 55, 48, 56, 48, 57, 49, 48, 49, 49, 49, 50, 49, 51, 49, 52, 49, 53, 49, 54, 49, 55, 49, 56, 49, 57, 50, 48, 50, 49, 50, 50, 50, 51, 50, 52, 50, 53, 50, 54, 50, 55, 50, 56, 50, 57, 51, 48, 51, 49, 51, 50, 51, 51, 51, 52, 51, 53, 51, 54, 51, 55, 51, 56, 51, 57, 52, 48, 52, 49, 52, 50, 52, 51, 52, 52, 52, 53, 52, 54, 52, 55, 52, 56, 52, 57, 53, 48, 53, 49, 53, 50, 53, 51, 53, 52, 53, 53, 53, 54, 53, 55, 53, 56, 53, 57, 54, 48, 54, 49, 54, 50, 54, 51, 54, 52, 54, 53, 54, 54, 54, 55, 54, 56, 54, 57, 55, 48, 55, 49, 55, 50, 55, 51, 55, 52, 55, 53, 55, 54, 55, 55, 55, 56, 55, 57, 56, 48, 56, 49, 56, 50, 56, 51, 56, 52, 56, 53, 56, 54, 56, 55, 56, 56, 56, 57, 57, 48, 57, 49, 57, 50, 57, 51, 57, 52, 57, 53, 57, 54, 57, 55, 57, 56, 57, 57])) (.reg 7), none, none⟩, ⟨.mov (.loc 14), none, none⟩, ⟨.indexS (.cst (.str [48, 48, 48, 49, 48, 50, 48, 51, 48, 52, 48, 53, 48, 54, 48, 55, 48, 56, 48, 57, 49, 48, 49, 49, 49, 50, 49, 51, 49, 52, 49, 53, 49, 54, 49, 55, 49, 56, 49, 57, 50, 48, 50, 49, 50, 50, 50, 51, 50, 52, 50, 53, 50, 54, 50, 55, 50, 56, 50, 57, 51, 48, 51, 49, 51, 50, 51, 51, 51, 52, 51, 53, 51, 54, 51, 55, 51, 56, 51, 57, 52, 48, 52, 49, 52, 50, 52, 51, 52, 52, 52, 53, 52, 54, 52, 55, 52, 56, 52, 57, 53, 48, 53, 49, 53, 50, 53, 51, 53, 52, 53, 53, 53, 54, 53, 55, 53, 56, 53, 57, 54, 48, 54, 49, 54, 50, 54, 51, 54, 52, 54, 53, 54, 54, 54, 55, 54, 56, 54, 57, 55, 48, 55, 49, 55, 50, 55, 51, 55, 52, 55, 53, 55, 54, 55, 55, 55, 56, 55, 57, 56, 48, 56, 49, 56, 50, 56, 51, 56, 52, 56, 53, 56, 54, 56, 55, 56, 56, 56, 57, 57, 48, 57, 49, 57, 50, 57, 51, 57, 52, 57, 53, 57, 54, 57, 55, 57, 56, 57, 57])) (.reg 9), none, none⟩, ⟨.indexAddrS 1 (.reg 0) (.reg 2), none, none⟩, ⟨.store 1 (.reg 11) (.reg 8), none, none⟩, ⟨.indexAddrS 1 (.reg 3) (.reg 5), none, none⟩, ⟨.store 1 (.reg 13) (.reg 10), none, none⟩])
  (.region [⟨.mov (.loc 2), none, none⟩, ⟨.bin .sub (.reg 0) (.cst (.int .i64 2)), none, none⟩, ⟨.mov (.reg 1), (some 2), none⟩]))))
  .skip))
 (.seq (.region [⟨.mov (.loc 2), none, none⟩, ⟨.bin .gtr (.reg 0) (.cst (.int .i64 0)), (some 18), none⟩])
 (.cond (.loc 18)
  (.region [⟨.mov (.loc 0), none, none⟩, ⟨.mov (.loc 10), none, none⟩, ⟨.bin .add (.cst (.int .u32 48)) (.reg 1), none, none⟩, ⟨.conv (.toInt .u8) (.reg 2), none, none⟩, ⟨.indexAddrS 1 (.reg 0) (.cst (.int .i64 0)), none, none⟩, ⟨.store 1 (.reg 4) (.reg 3), none, none⟩])
  .skip)))))))⟩
theorem c163 : compFunc Tryz.prog opts a163 Tryz.f163 = some t163 := by kernel_rfl
def a164 : Ann := { slots := [0, 1, 2, 3, 4, 10, 11, 12, 13, 14, 15, 16, 17, 18, 28, 30, 34, 46, 68, 89, 94], lb := [], mu := [], trunc := [], draws := [] }
def t164L0 : TCode := (.seq (.seq (.region [⟨.mov (.loc 1), none, none⟩, ⟨.mov (.loc 12), none, none⟩, ⟨.bin .geq (.reg 0) (.reg 1), (some 18), none⟩])
    (.cond (.loc 18)
     .skip
     (.exit 2)))
    (.block 3
     (.seq (.region [⟨.mov (.loc 8), none, none⟩, ⟨.bin .sub (.reg 0) (.cst (.int .i64 1)), none, none⟩, ⟨.mov (.reg 1), (some 8), none⟩])
     (.seq (.region [⟨.mov (.loc 1), none, none⟩, ⟨.mov (.loc 12), none, none⟩, ⟨.bin .quo (.reg 0) (.reg 1), none, none⟩, ⟨.mov (.reg 2), (some 13), none⟩])
     (.seq (.region [⟨.mov (.loc 8), none, none⟩, ⟨.mov (.loc 1), none, none⟩, ⟨.mov (.loc 13), none, none⟩, ⟨.mov (.loc 12), none, none⟩, ⟨.bin .mul (.reg 2) (.reg 3), none, none⟩, ⟨.bin .sub (.reg 1) (.reg 4), none, none⟩, ⟨.indexS (.cst (.str [48, 49, 50, 51, 52, 53, 54, 55, 56, 57, 97, 98, 99, 100, 101, 102, 103, 104, 105, 106, 107, 108, 109, 110, 111, 112, 113, 114, 115, 116, 117, 118, 119, 120, 121, 122])) (.reg 5), none, none⟩, ⟨.indexAddrA 65 1 (.loc 7) (.reg 0), none, none⟩, ⟨.store 1 (.reg 7) (.reg 6), none, none⟩])
     (.region [⟨.mov (.loc 13), none, none⟩, ⟨.mov (.reg 0), (some 1), none⟩]))))))
def t164L1 : TCode := (.seq (.seq (.region [⟨.mov (.loc 1), none, none⟩, ⟨.mov (.loc 10), none, none⟩, ⟨.bin .geq (.reg 0) (.reg 1), (some 17), none⟩])
    (.cond (.loc 17)
     .skip
     (.exit 0)))
    (.block 1
     (.seq (.region [⟨.mov (.loc 8), none, none⟩, ⟨.bin .sub (.reg 0) (.cst (.int .i64 1)), none, none⟩, ⟨.mov (.reg 1), (some 8), none⟩])
     (.seq (.region [⟨.mov (.loc 8), none, none⟩, ⟨.mov (.loc 1), none, none⟩, ⟨.mov (.loc 11), none, none⟩, ⟨.bin .and (.reg 1) (.reg 2), none, none⟩, ⟨.indexS (.cst (.str [48, 49, 50, 51, 52, 53, 54, 55, 56, 57, 97, 98, 99, 100, 101, 102, 103, 104, 105, 106, 107, 108, 109, 110, 111, 112, 113, 114, 115, 116, 117, 118, 119, 120, 121, 122])) (.reg 3), none, none⟩, ⟨.indexAddrA 65 1 (.loc 7) (.reg 0), none, none⟩, ⟨.store 1 (.reg 5) (.reg 4), none, none⟩])
     (.region [⟨.mov (.loc 1), none, none⟩, ⟨.mov (.loc 9), none, none⟩, ⟨.bin .shr (.reg 0) (.reg 1), none, none⟩, ⟨.mov (.reg 2), (some 1), none⟩])))))
def t164 : TFunc := ⟨5, 21, [.loc 5, .loc 6],
 (.seq (.region [⟨.mov (.cst (.sl .nil [])), (some 5), none⟩, ⟨.mov (.cst (.str [])), (some 6), none⟩])
 (.seq (.seq (.region [⟨.mov (.loc 2), none, none⟩, ⟨.bin .lss (.reg 0) (.cst (.int .i64 2)), none, none⟩, ⟨.mov (.reg 1), none, none⟩, ⟨.mov (.loc 2), none, (some (2, false))⟩, ⟨.bin .eql (.reg 3) (.cst (.int .i64 10)), none, (some (2, false))⟩, ⟨.pick (.reg 2) (.cst (.bool true)) (.reg 4), none, none⟩, ⟨.mov (.reg 5), none, none⟩, ⟨.mov (.loc 2), none, (some (6, false))⟩, ⟨.bin .gtr (.reg 7) (.cst (.int .i64 36)), none, (some (6, false))⟩, ⟨.pick (.reg 6) (.cst (.bool true)) (.reg 8), (some 14), none⟩])
 (.cond (.loc 14)
  (.region [⟨.bad, none, none⟩, ⟨.bad, none, none⟩])
  .skip))
 (.seq (.region [⟨.allocH 200 [(.int .u8 0), (.int .u8 0), (.int .u8 0), (.int .u8 0), (.int .u8 0), (.int .u8 0), (.int .u8 0), (.int .u8 0), (.int .u8 0), (.int .u8 0), (.int .u8 0), (.int .u8 0), (.int .u8 0), (.int .u8 0), (.int .u8 0), (.int .u8 0), (.int .u8 0), (.int .u8 0), (.int .u8 0), (.int .u8 0), (.int .u8 0), (.int .u8 0), (.int .u8 0), (.int .u8 0), (.int .u8 0), (.int .u8 0), (.int .u8 0), (.int .u8 0), (.int .u8 0), (.int .u8 0), (.int .u8 0), (.int .u8 0), (.int .u8 0), (.int .u8 0), (.int .u8 0), (.int .u8 0), (.int .u8 0), (.int .u8 0), (.int .u8 0), (.int .u8 0), (.int .u8 0), (.int .u8 0), (.int .u8 0), (.int .u8 0), (.int .u8 0), (.int .u8 0), (.int .u8 0), (.int .u8 0), (.int .u8 0), (.int .u8 0), (.int .u8 0), (.int .u8 0), (.int .u8 0), (.int .u8 0), (.int .u8 0), (.int .u8 0), (.int .u8 0), (.int .u8 0), (.int .u8 0), (.int .u8 0), (.int .u8 0), (.int .u8 0), (.int .u8 0), (.int .u8 0), (.int .u8 0)], (some 7), none⟩])
 (.seq (.region [⟨.mov (.cst (.int .i64 65)), (some 8), none⟩])
 (.seq (.seq (.region [⟨.mov (.loc 3), (some 15), none⟩])
 (.cond (.loc 15)
  (.region [⟨.mov (.loc 1), none, none⟩, ⟨.un .neg (.reg 0), none, none⟩, ⟨.mov (.reg 1), (some 1), none⟩])
  .skip))
 (.seq (.seq (.region [⟨.mov (.loc 2), none, none⟩, ⟨.call true false 187 [(.reg 0)], (some 16), none⟩])
 (.cond (.loc 16)
  (.seq (.region [⟨.mov (.loc 2), none, none⟩, ⟨.conv (.toInt .u64) (.reg 0), none, none⟩, ⟨.call true false 188 [(.reg 1)], none, none⟩, ⟨.conv (.toInt .u64) (.reg 2), none, none⟩, ⟨.mov (.reg 3), (some 9), none⟩])
  (.seq (.region [⟨.mov (.loc 2), none, none⟩, ⟨.conv (.toInt .u64) (.reg 0), none, none⟩, ⟨.mov (.reg 1), (some 10), none⟩])
  (.seq (.region [⟨.mov (.loc 2), none, none⟩, ⟨.conv (.toInt .u64) (.reg 0), none, none⟩, ⟨.bin .sub (.reg 1) (.cst (.int .u64 1)), none, none⟩, ⟨.mov (.reg 2), (some 11), none⟩])
  (.seq (.block 0
   (.loop t164L1))
  (.seq (.region [⟨.mov (.loc 8), none, none⟩, ⟨.bin .sub (.reg 0) (.cst (.int .i64 1)), none, none⟩, ⟨.mov (.reg 1), (some 8), none⟩])
  (.region [⟨.mov (.loc 8), none, none⟩, ⟨.mov (.loc 1), none, none⟩, ⟨.indexS (.cst (.str [48, 49, 50, 51, 52, 53, 54, 55, 56, 57, 97, 98, 99, 100, 101, 102, 103, 104, 105, 106, 107, 108, 109, 110, 111, 112, 113, 114, 115, 116, 117, 118, 119, 120, 121, 122])) (.reg 1), none, none⟩, ⟨.indexAddrA 65 1 (.loc 7) (.reg 0), none, none⟩, ⟨.store 1 (.reg 3) (.reg 2), none, none⟩]))))))
  (.seq (.region [⟨.mov (.loc 2), none, none⟩, ⟨.conv (.toInt .u64) (.reg 0), none, none⟩, ⟨.mov (.reg 1), (some 12), none⟩])
  (.seq (.block 2
   (.loop t164L0))
  (.seq (.region [⟨.mov (.loc 8), none, none⟩, ⟨.bin .sub (.reg 0) (.cst (.int .i64 1)), none, none⟩, ⟨.mov (.reg 1), (some 8), none⟩])
  (.region [⟨.mov (.loc 8), none, none⟩, ⟨.mov (.loc 1), none, none⟩, ⟨.indexS (.cst (.str [48, 49, 50, 51, 52, 53, 54, 55, 56, 57, 97, 98, 99, 100, 101, 102, 103, 104, 105, 106, 107, 108, 109, 110, 111, 112, 113, 114, 115, 116, 117, 118, 119, 120, 121, 122])) (.reg 1), none, none⟩, ⟨.indexAddrA 65 1 (.loc 7) (.reg 0), none, none⟩, ⟨.store 1 (.reg 3) (.reg 2), none, none⟩]))))))
 (.seq (.seq (.region [⟨.mov (.loc 3), (some 19), none⟩])
 (.cond (.loc 19)
  (.seq (.region [⟨.mov (.loc 8), none, none⟩, ⟨.bin .sub (.reg 0) (.cst (.int .i64 1)), none, none⟩, ⟨.mov (.reg 1), (some 8), none⟩])
  (.region [⟨.mov (.loc 8), none, none⟩, ⟨.indexAddrA 65 1 (.loc 7) (.reg 0), none, none⟩, ⟨.store 1 (.reg 1) (.cst (.int .u8 45)), none, none⟩]))
  .skip))
 (.seq (.seq (.region [⟨.mov (.loc 4), (some 20), none⟩])
 (.cond (.loc 20)
  (.seq (.region [⟨.mov (.loc 0), none, none⟩, ⟨.mov (.loc 8), none, none⟩, ⟨.slice (.arr 65 1) (.loc 7) (some (.reg 1)) none none, none, none⟩, ⟨.append false 1 1 5 (.reg 0) (.reg 2), none, none⟩, ⟨.mov (.reg 3), (some 5), none⟩])
  .ret)
  .skip))
 (.seq (.region [⟨.mov (.loc 8), none, none⟩, ⟨.slice (.arr 65 1) (.loc 7) (some (.reg 0)) none none, none, none⟩, ⟨.conv .bytesStr (.reg 1), none, none⟩, ⟨.mov (.reg 2), (some 6), none⟩])
 .ret)))))))))⟩
theorem c164 : compFunc Tryz.prog opts a164 Tryz.f164 = some t164 := by kernel_rfl
def a170 : Ann := { slots := [0, 1, 4, 7], lb := [], mu := [], trunc := [], draws := [] }
def t170 : TFunc := ⟨2, 4, [.loc 2],
 (.seq (.region [⟨.mov (.cst (.str [])), (some 2), none⟩])
 (.seq (.seq (.region [⟨.mov (.loc 0), none, none⟩, ⟨.mov (.loc 1), none, none⟩, ⟨.call true false 190 [(.reg 0), (.reg 1)], (some 3), none⟩])
 (.cond (.loc 3)
  (.seq (.region [⟨.mov (.loc 0), none, none⟩, ⟨.mov (.loc 1), none, none⟩, ⟨.len .str (.reg 1), none, none⟩, ⟨.slice .str (.reg 0) (some (.reg 2)) none none, none, none⟩, ⟨.mov (.reg 3), (some 2), none⟩])
  .ret)
  .skip))
 (.seq (.region [⟨.mov (.loc 0), none, none⟩, ⟨.mov (.reg 0), (some 2), none⟩])
 .ret)))⟩
theorem c170 : compFunc Tryz.prog opts a170 Tryz.f170 = some t170 := by kernel_rfl
def a171 : Ann := { slots := [0, 1, 4], lb := [], mu := [], trunc := [], draws := [] }
def t171 : TFunc := ⟨2, 3, [.loc 2],
 (.seq (.region [⟨.mov (.cst (.int .i64 0)), (some 2), none⟩])
 (.seq (.region [⟨.mov (.loc 0), none, none⟩, ⟨.mov (.loc 1), none, none⟩, ⟨.call false false 191 [(.reg 0), (.reg 1), (.cst (.bool true))], none, none⟩, ⟨.mov (.reg 2), (some 2), none⟩])
 .ret))⟩
theorem c171 : compFunc Tryz.prog opts a171 Tryz.f171 = some t171 := by kernel_rfl
def a172 : Ann := { slots := [0, 2, 3, 5, 6, 7, 8, 9, 13], lb := [], mu := [], trunc := [], draws := [] }
def t172L0 : TCode := (.seq (.region [⟨.bin .lss (.loc 6) (.loc 5), (some 7), none⟩])
   (.seq (.cond (.loc 7)
    .skip
    (.exit 0))
   (.seq (.block 1
    (.seq (.region [⟨.indexAddrS 1 (.loc 4) (.loc 6), none, none⟩, ⟨.load1 (.reg 0), none, none⟩, ⟨.mov (.reg 1), (some 3), none⟩])
    (.seq (.seq (.region [⟨.mov (.loc 3), none, none⟩, ⟨.bin .lss (.reg 0) (.cst (.int .u8 128)), (some 8), none⟩])
    (.cond (.loc 8)
     (.seq (.region [⟨.mov (.loc 3), none, none⟩, ⟨.conv (.toInt .i32) (.reg 0), none, none⟩, ⟨.mov (.reg 1), (some 1), none⟩, ⟨.mov (.cst (.int .i64 1)), (some 2), none⟩])
     .ret)
     .skip))
    (.exit 0))))
   (.region [⟨.bin .add (.loc 6) (.cst (.int .i64 1)), none, none⟩, ⟨.mov (.reg 0), (some 6), none⟩]))))
def t172 : TFunc := ⟨1, 9, [.loc 1, .loc 2],
 (.seq (.region [⟨.mov (.cst (.int .i32 0)), (some 1), none⟩, ⟨.mov (.cst (.int .i64 0)), (some 2), none⟩])
 (.seq (.seq (.region [⟨.mov (.loc 0), (some 4), none⟩, ⟨.len .sl (.reg 0), (some 5), none⟩, ⟨.mov (.cst (.int .i64 0)), (some 6), none⟩])
 (.block 0
  (.loop t172L0)))
 (.seq (.region [⟨.mov (.loc 0), none, none⟩, ⟨.call true false 192 [(.reg 0)], none, none⟩, ⟨.mov (.reg 1), none, none⟩, ⟨.extract 0 (.reg 2), none, none⟩, ⟨.extract 1 (.reg 2), none, none⟩, ⟨.mov (.reg 3), (some 1), none⟩, ⟨.mov (.reg 4), (some 2), none⟩])
 .ret)))⟩
theorem c172 : compFunc Tryz.prog opts a172 Tryz.f172 = some t172 := by kernel_rfl
def a173 : Ann := { slots := [0, 1, 4], lb := [], mu := [], trunc := [], draws := [] }
def t173 : TFunc := ⟨2, 3, [.loc 2],
 (.seq (.region [⟨.mov (.cst (.bool false)), (some 2), none⟩])
 (.seq (.region [⟨.mov (.loc 0), none, none⟩, ⟨.bin .eql (.reg 0) (.cst (.int .i32 65533)), none, none⟩, ⟨.mov (.reg 1), none, none⟩, ⟨.mov (.loc 1), none, (some (2, true))⟩, ⟨.bin .leq (.reg 3) (.cst (.int .i64 1)), none, (some (2, true))⟩, ⟨.pick (.reg 2) (.reg 4) (.cst (.bool false)), none, none⟩, ⟨.mov (.reg 5), (some 2), none⟩])
 .ret))⟩
theorem c173 : compFunc Tryz.prog opts a173 Tryz.f173 = some t173 := by kernel_rfl
def a174 : Ann := { slots := [0, 1, 2, 6, 7, 12, 30], lb := [], mu := [], trunc := [], draws := [(4, ⟨[0, 0, 3, 7, 15, 15, 63, 127, 15, 15, 527, 1807, 3855, 8191, 16383], [0, 1, 2, 3, 4, 5, 6, 7, 8, 9, 10, 11, 12], [(13, [], [14])]⟩), (6, ⟨[0, 0, 0, 0, 8, 0, 0, 64, 224, 480, 0, 0, 3072, 7168, 16355, 32739, 65535, 131071], [0, 1, 2, 3, 4, 5, 6, 7, 8, 9, 10, 11, 12, 13, 14], [(15, [], [16]), (17, [], [])]⟩)] }
def t174L0 : TCode := (.seq (.seq (.draw [0, 1, 2, 3, 4, 5, 6, 7, 8, 9, 10, 11, 12] [(13, [], [14])] [⟨.mov (.loc 4), none, none⟩, ⟨.mov (.loc 1), none, none⟩, ⟨.bin .gtr (.reg 0) (.reg 1), none, none⟩, ⟨.mov (.reg 2), none, none⟩, ⟨.mov (.loc 0), none, (some (3, true))⟩, ⟨.mov (.loc 4), none, (some (3, true))⟩, ⟨.indexAddrS 1 (.reg 4) (.reg 5), none, (some (3, true))⟩, ⟨.load1 (.reg 6), none, (some (3, true))⟩, ⟨.mov (.loc 0), none, (some (3, true))⟩, ⟨.mov (.loc 4), none, (some (3, true))⟩, ⟨.bin .sub (.reg 9) (.cst (.int .i64 1)), none, (some (3, true))⟩, ⟨.indexAddrS 1 (.reg 8) (.reg 10), none, (some (3, true))⟩, ⟨.load1 (.reg 11), none, (some (3, true))⟩, ⟨.call true false 180 [(.reg 7), (.reg 12)], none, (some (3, true))⟩, ⟨.pick (.reg 3) (.reg 13) (.cst (.bool false)), (some 6), none⟩])
      (.cond (.loc 6)
       .skip
       (.exit 2)))
      (.seq (.block 3
       (.draw [0, 1, 2, 3, 4, 5, 6, 7, 8, 9, 10, 11, 12, 13, 14] [(15, [], [16]), (17, [], [])] [⟨.mov (.loc 0), none, none⟩, ⟨.mov (.loc 4), none, none⟩, ⟨.mov (.loc 0), none, none⟩, ⟨.mov (.loc 4), none, none⟩, ⟨.bin .sub (.reg 3) (.cst (.int .i64 1)), none, none⟩, ⟨.mov (.loc 0), none, none⟩, ⟨.mov (.loc 4), none, none⟩, ⟨.bin .sub (.reg 6) (.cst (.int .i64 1)), none, none⟩, ⟨.indexAddrS 1 (.reg 5) (.reg 7), none, none⟩, ⟨.load1 (.reg 8), none, none⟩, ⟨.mov (.loc 0), none, none⟩, ⟨.mov (.loc 4), none, none⟩, ⟨.indexAddrS 1 (.reg 10) (.reg 11), none, none⟩, ⟨.load1 (.reg 12), none, none⟩, ⟨.indexAddrS 1 (.reg 0) (.reg 1), none, none⟩, ⟨.store 1 (.reg 14) (.reg 9), none, none⟩, ⟨.indexAddrS 1 (.reg 2) (.reg 4), none, none⟩, ⟨.store 1 (.reg 16) (.reg 13), none, none⟩]))
      (.region [⟨.mov (.loc 4), none, none⟩, ⟨.bin .sub (.reg 0) (.cst (.int .i64 1)), none, none⟩, ⟨.mov (.reg 1), (some 4), none⟩])))
def t174L1 : TCode := (.seq (.seq (.region [⟨.mov (.loc 3), none, none⟩, ⟨.mov (.loc 2), none, none⟩, ⟨.bin .lss (.reg 0) (.reg 1), (some 5), none⟩])
   (.cond (.loc 5)
    .skip
    (.exit 0)))
   (.seq (.block 1
    (.seq (.region [⟨.mov (.loc 3), none, none⟩, ⟨.mov (.reg 0), (some 4), none⟩])
    (.block 2
     (.loop t174L0))))
   (.region [⟨.mov (.loc 3), none, none⟩, ⟨.bin .add (.reg 0) (.cst (.int .i64 1)), none, none⟩, ⟨.mov (.reg 1), (some 3), none⟩])))
def t174 : TFunc := ⟨3, 7, [],
 (.seq (.region [⟨.mov (.loc 1), none, none⟩, ⟨.bin .add (.reg 0) (.cst (.int .i64 1)), none, none⟩, ⟨.mov (.reg 1), (some 3), none⟩])
 (.block 0
  (.loop t174L1)))⟩
theorem c174 : compFunc Tryz.prog opts a174 Tryz.f174 = some t174 := by kernel_rfl
def a175 : Ann := { slots := [0, 1, 2, 6, 7, 8, 9, 10, 19, 30], lb := [], mu := [], trunc := [], draws := [(10, ⟨[0, 0, 0, 0, 0, 24, 0, 0, 0, 384, 960, 1984, 0, 0, 12288, 28672, 65475, 131011, 262143, 524287], [0, 1, 2, 3, 4, 5, 6, 7, 8, 9, 10, 11, 12, 13, 14, 15, 16], [(17, [], [18]), (19, [], [])]⟩)] }
def t175L0 : TCode := (.seq (.seq (.region [⟨.mov (.loc 7), none, none⟩, ⟨.bin .geq (.reg 0) (.cst (.int .i64 0)), (some 9), none⟩])
   (.cond (.loc 9)
    .skip
    (.exit 2)))
   (.seq (.block 3
    (.seq (.draw [0, 1, 2, 3, 4, 5, 6, 7, 8, 9, 10, 11, 12, 13, 14, 15, 16] [(17, [], [18]), (19, [], [])] [⟨.mov (.loc 0), none, none⟩, ⟨.mov (.loc 3), none, none⟩, ⟨.mov (.loc 0), none, none⟩, ⟨.mov (.loc 3), none, none⟩, ⟨.mov (.loc 7), none, none⟩, ⟨.bin .add (.reg 3) (.reg 4), none, none⟩, ⟨.mov (.loc 0), none, none⟩, ⟨.mov (.loc 3), none, none⟩, ⟨.mov (.loc 7), none, none⟩, ⟨.bin .add (.reg 7) (.reg 8), none, none⟩, ⟨.indexAddrS 1 (.reg 6) (.reg 9), none, none⟩, ⟨.load1 (.reg 10), none, none⟩, ⟨.mov (.loc 0), none, none⟩, ⟨.mov (.loc 3), none, none⟩, ⟨.indexAddrS 1 (.reg 12) (.reg 13), none, none⟩, ⟨.load1 (.reg 14), none, none⟩, ⟨.indexAddrS 1 (.reg 0) (.reg 1), none, none⟩, ⟨.store 1 (.reg 16) (.reg 11), none, none⟩, ⟨.indexAddrS 1 (.reg 2) (.reg 5), none, none⟩, ⟨.store 1 (.reg 18) (.reg 15), none, none⟩])
    (.region [⟨.mov (.loc 0), none, none⟩, ⟨.mov (.loc 4), none, none⟩, ⟨.mov (.loc 7), none, none⟩, ⟨.mov (.loc 3), none, none⟩, ⟨.call false false 193 [(.reg 0), (.reg 1), (.reg 2), (.reg 3)], none, none⟩])))
   (.region [⟨.mov (.loc 7), none, none⟩, ⟨.bin .sub (.reg 0) (.cst (.int .i64 1)), none, none⟩, ⟨.mov (.reg 1), (some 7), none⟩])))
def t175L1 : TCode := (.seq (.seq (.region [⟨.mov (.loc 6), none, none⟩, ⟨.bin .geq (.reg 0) (.cst (.int .i64 0)), (some 8), none⟩])
   (.cond (.loc 8)
    .skip
    (.exit 0)))
   (.seq (.block 1
    (.region [⟨.mov (.loc 0), none, none⟩, ⟨.mov (.loc 6), none, none⟩, ⟨.mov (.loc 5), none, none⟩, ⟨.mov (.loc 3), none, none⟩, ⟨.call false false 193 [(.reg 0), (.reg 1), (.reg 2), (.reg 3)], none, none⟩]))
   (.region [⟨.mov (.loc 6), none, none⟩, ⟨.bin .sub (.reg 0) (.cst (.int .i64 1)), none, none⟩, ⟨.mov (.reg 1), (some 6), none⟩])))
def t175 : TFunc := ⟨3, 10, [],
 (.seq (.region [⟨.mov (.loc 1), none, none⟩, ⟨.mov (.reg 0), (some 3), none⟩])
 (.seq (.region [⟨.mov (.cst (.int .i64 0)), (some 4), none⟩])
 (.seq (.region [⟨.mov (.loc 2), none, none⟩, ⟨.mov (.loc 1), none, none⟩, ⟨.bin .sub (.reg 0) (.reg 1), none, none⟩, ⟨.mov (.reg 2), (some 5), none⟩])
 (.seq (.seq (.region [⟨.mov (.loc 5), none, none⟩, ⟨.bin .sub (.reg 0) (.cst (.int .i64 1)), none, none⟩, ⟨.bin .quo (.reg 1) (.cst (.int .i64 2)), none, none⟩, ⟨.mov (.reg 2), (some 6), none⟩])
 (.block 0
  (.loop t175L1)))
 (.seq (.region [⟨.mov (.loc 5), none, none⟩, ⟨.bin .sub (.reg 0) (.cst (.int .i64 1)), none, none⟩, ⟨.mov (.reg 1), (some 7), none⟩])
 (.block 2
  (.loop t175L0)))))))⟩
theorem c175 : compFunc Tryz.prog opts a175 Tryz.f175 = some t175 := by kernel_rfl
def a176 : Ann := { slots := [0, 1, 2, 6, 7, 8, 9, 10, 15, 33, 43], lb := [], mu := [], trunc := [], draws := [(10, ⟨[0, 0, 0, 0, 0, 24, 0, 0, 0, 384, 960, 1984, 0, 0, 12288, 28672, 65475, 131011, 262143, 524287], [0, 1, 2, 3, 4, 5, 6, 7, 8, 9, 10, 11, 12, 13, 14, 15, 16], [(17, [], [18]), (19, [], [])]⟩)] }
def t176L0 : TCode := (.seq (.seq (.region [⟨.mov (.loc 6), none, none⟩, ⟨.mov (.loc 1), none, none⟩, ⟨.mov (.loc 3), none, none⟩, ⟨.bin .quo (.reg 2) (.cst (.int .i64 4)), none, none⟩, ⟨.bin .mul (.reg 3) (.cst (.int .i64 2)), none, none⟩, ⟨.bin .add (.reg 1) (.reg 4), none, none⟩, ⟨.bin .add (.reg 5) (.cst (.int .i64 1)), none, none⟩, ⟨.bin .leq (.reg 0) (.reg 6), (some 9), none⟩])
    (.cond (.loc 9)
     .skip
     (.exit 0)))
    (.seq (.block 1
     (.seq (.region [⟨.call false false 195 [(.loc 4)], none, none⟩, ⟨.mov (.loc 5), none, none⟩, ⟨.bin .sub (.reg 1) (.cst (.int .u64 1)), none, none⟩, ⟨.bin .and (.reg 0) (.reg 2), none, none⟩, ⟨.conv (.toInt .i64) (.reg 3), none, none⟩, ⟨.mov (.reg 4), (some 7), none⟩])
     (.seq (.seq (.region [⟨.mov (.loc 7), none, none⟩, ⟨.mov (.loc 3), none, none⟩, ⟨.bin .geq (.reg 0) (.reg 1), (some 10), none⟩])
     (.cond (.loc 10)
      (.region [⟨.mov (.loc 7), none, none⟩, ⟨.mov (.loc 3), none, none⟩, ⟨.bin .sub (.reg 0) (.reg 1), none, none⟩, ⟨.mov (.reg 2), (some 7), none⟩])
      .skip))
     (.draw [0, 1, 2, 3, 4, 5, 6, 7, 8, 9, 10, 11, 12, 13, 14, 15, 16] [(17, [], [18]), (19, [], [])] [⟨.mov (.loc 0), none, none⟩, ⟨.mov (.loc 6), none, none⟩, ⟨.mov (.loc 0), none, none⟩, ⟨.mov (.loc 1), none, none⟩, ⟨.mov (.loc 7), none, none⟩, ⟨.bin .add (.reg 3) (.reg 4), none, none⟩, ⟨.mov (.loc 0), none, none⟩, ⟨.mov (.loc 1), none, none⟩, ⟨.mov (.loc 7), none, none⟩, ⟨.bin .add (.reg 7) (.reg 8), none, none⟩, ⟨.indexAddrS 1 (.reg 6) (.reg 9), none, none⟩, ⟨.load1 (.reg 10), none, none⟩, ⟨.mov (.loc 0), none, none⟩, ⟨.mov (.loc 6), none, none⟩, ⟨.indexAddrS 1 (.reg 12) (.reg 13), none, none⟩, ⟨.load1 (.reg 14), none, none⟩, ⟨.indexAddrS 1 (.reg 0) (.reg 1), none, none⟩, ⟨.store 1 (.reg 16) (.reg 11), none, none⟩, ⟨.indexAddrS 1 (.reg 2) (.reg 5), none, none⟩, ⟨.store 1 (.reg 18) (.reg 15), none, none⟩]))))
    (.region [⟨.mov (.loc 6), none, none⟩, ⟨.bin .add (.reg 0) (.cst (.int .i64 1)), none, none⟩, ⟨.mov (.reg 1), (some 6), none⟩])))
def t176 : TFunc := ⟨3, 11, [],
 (.seq (.region [⟨.mov (.loc 2), none, none⟩, ⟨.mov (.loc 1), none, none⟩, ⟨.bin .sub (.reg 0) (.reg 1), none, none⟩, ⟨.mov (.reg 2), (some 3), none⟩])
 (.seq (.region [⟨.mov (.loc 3), none, none⟩, ⟨.bin .geq (.reg 0) (.cst (.int .i64 8)), (some 8), none⟩])
 (.cond (.loc 8)
  (.seq (.region [⟨.mov (.loc 3), none, none⟩, ⟨.conv (.toInt .u64) (.reg 0), none, none⟩, ⟨.allocH 203 [(.int .u64 0)], (some 4), none⟩, ⟨.store 1 (.reg 2) (.reg 1), none, none⟩])
  (.seq (.region [⟨.mov (.loc 3), none, none⟩, ⟨.call true false 194 [(.reg 0)], none, none⟩, ⟨.mov (.reg 1), (some 5), none⟩])
  (.seq (.region [⟨.mov (.loc 1), none, none⟩, ⟨.mov (.loc 3), none, none⟩, ⟨.bin .quo (.reg 1) (.cst (.int .i64 4)), none, none⟩, ⟨.bin .mul (.reg 2) (.cst (.int .i64 2)), none, none⟩, ⟨.bin .add (.reg 0) (.reg 3), none, none⟩, ⟨.bin .sub (.reg 4) (.cst (.int .i64 1)), none, none⟩, ⟨.mov (.reg 5), (some 6), none⟩])
  (.block 0
   (.loop t176L0)))))
  .skip)))⟩
theorem c176 : compFunc Tryz.prog opts a176 Tryz.f176 = some t176 := by kernel_rfl
def a177 : Ann := { slots := [0, 1, 2, 6, 7, 8, 9, 10, 11, 12, 32, 34, 49, 51, 54], lb := [], mu := [], trunc := [], draws := [] }
def t177 : TFunc := ⟨3, 15, [.loc 3, .loc 4],
 (.seq (.region [⟨.mov (.cst (.int .i64 0)), (some 3), none⟩, ⟨.mov (.cst (.int .i64 0)), (some 4), none⟩])
 (.seq (.region [⟨.mov (.loc 2), none, none⟩, ⟨.mov (.loc 1), none, none⟩, ⟨.bin .sub (.reg 0) (.reg 1), none, none⟩, ⟨.mov (.reg 2), (some 5), none⟩])
 (.seq (.region [⟨.allocH 4 [(.int .i64 0)], (some 6), none⟩])
 (.seq (.region [⟨.mov (.loc 1), none, none⟩, ⟨.mov (.loc 5), none, none⟩, ⟨.bin .quo (.reg 1) (.cst (.int .i64 4)), none, none⟩, ⟨.bin .mul (.reg 2) (.cst (.int .i64 1)), none, none⟩, ⟨.bin .add (.reg 0) (.reg 3), none, none⟩, ⟨.mov (.reg 4), (some 7), none⟩])
 (.seq (.region [⟨.mov (.loc 1), none, none⟩, ⟨.mov (.loc 5), none, none⟩, ⟨.bin .quo (.reg 1) (.cst (.int .i64 4)), none, none⟩, ⟨.bin .mul (.reg 2) (.cst (.int .i64 2)), none, none⟩, ⟨.bin .add (.reg 0) (.reg 3), none, none⟩, ⟨.mov (.reg 4), (some 8), none⟩])
 (.seq (.region [⟨.mov (.loc 1), none, none⟩, ⟨.mov (.loc 5), none, none⟩, ⟨.bin .quo (.reg 1) (.cst (.int .i64 4)), none, none⟩, ⟨.bin .mul (.reg 2) (.cst (.int .i64 3)), none, none⟩, ⟨.bin .add (.reg 0) (.reg 3), none, none⟩, ⟨.mov (.reg 4), (some 9), none⟩])
 (.seq (.seq (.region [⟨.mov (.loc 5), none, none⟩, ⟨.bin .geq (.reg 0) (.cst (.int .i64 8)), (some 10), none⟩])
 (.cond (.loc 10)
  (.seq (.seq (.region [⟨.mov (.loc 5), none, none⟩, ⟨.bin .geq (.reg 0) (.cst (.int .i64 50)), (some 11), none⟩])
  (.cond (.loc 11)
   (.seq (.region [⟨.mov (.loc 0), none, none⟩, ⟨.mov (.loc 7), none, none⟩, ⟨.call false false 196 [(.reg 0), (.reg 1), (.loc 6)], none, none⟩, ⟨.mov (.reg 2), (some 7), none⟩])
   (.seq (.region [⟨.mov (.loc 0), none, none⟩, ⟨.mov (.loc 8), none, none⟩, ⟨.call false false 196 [(.reg 0), (.reg 1), (.loc 6)], none, none⟩, ⟨.mov (.reg 2), (some 8), none⟩])
   (.region [⟨.mov (.loc 0), none, none⟩, ⟨.mov (.loc 9), none, none⟩, ⟨.call false false 196 [(.reg 0), (.reg 1), (.loc 6)], none, none⟩, ⟨.mov (.reg 2), (some 9), none⟩])))
   .skip))
  (.region [⟨.mov (.loc 0), none, none⟩, ⟨.mov (.loc 7), none, none⟩, ⟨.mov (.loc 8), none, none⟩, ⟨.mov (.loc 9), none, none⟩, ⟨.call false false 197 [(.reg 0), (.reg 1), (.reg 2), (.reg 3), (.loc 6)], none, none⟩, ⟨.mov (.reg 4), (some 8), none⟩]))
  .skip))
 (.seq (.region [⟨.load1 (.loc 6), (some 12), none⟩])
 (.block 0
  (.seq (.region [⟨.bin .eql (.loc 12) (.cst (.int .i64 0)), none, none⟩, ⟨.mov (.reg 0), (some 13), none⟩])
  (.cond (.loc 13)
   (.seq (.region [⟨.mov (.loc 8), none, none⟩, ⟨.mov (.reg 0), (some 3), none⟩, ⟨.mov (.cst (.int .i64 1)), (some 4), none⟩])
   .ret)
   (.seq (.region [⟨.bin .eql (.loc 12) (.cst (.int .i64 12)), none, none⟩, ⟨.mov (.reg 0), (some 14), none⟩])
   (.cond (.loc 14)
    (.seq (.region [⟨.mov (.loc 8), none, none⟩, ⟨.mov (.reg 0), (some 3), none⟩, ⟨.mov (.cst (.int .i64 2)), (some 4), none⟩])
    .ret)
    (.seq (.region [⟨.mov (.loc 8), none, none⟩, ⟨.mov (.reg 0), (some 3), none⟩, ⟨.mov (.cst (.int .i64 0)), (some 4), none⟩])
    .ret))))))))))))))⟩
theorem c177 : compFunc Tryz.prog opts a177 Tryz.f177 = some t177 := by kernel_rfl
end Go.Proofs.YtookmpaholmmfaaGreatDoor
