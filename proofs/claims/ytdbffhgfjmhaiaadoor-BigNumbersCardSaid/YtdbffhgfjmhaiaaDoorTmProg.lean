/- The functions of this seat, compiled for the evaluator TM, a part. By program. Condition: none. -/
import Derived.Test.YtdbffhgfjmhaiaaDoorTmProg1
set_option maxRecDepth 100000
set_option linter.unusedVariables false
namespace Go.Proofs.YtdbffhgfjmhaiaaDoor
open Go Go.TM
def a96 : Ann := { slots := [0, 1, 2, 3, 4, 10, 11, 12, 13, 14, 15, 16, 17, 18, 28, 30, 34, 46, 68, 89, 94], lb := [], mu := [], trunc := [], draws := [] }
def t96L0 : TCode := (.seq (.seq (.region [⟨.mov (.loc 1), none, none⟩, ⟨.mov (.loc 12), none, none⟩, ⟨.bin .geq (.reg 0) (.reg 1), (some 18), none⟩])
    (.cond (.loc 18)
     .skip
     (.exit 2)))
    (.block 3
     (.seq (.region [⟨.mov (.loc 8), none, none⟩, ⟨.bin .sub (.reg 0) (.cst (.int .i64 1)), none, none⟩, ⟨.mov (.reg 1), (some 8), none⟩])
     (.seq (.region [⟨.mov (.loc 1), none, none⟩, ⟨.mov (.loc 12), none, none⟩, ⟨.bin .quo (.reg 0) (.reg 1), none, none⟩, ⟨.mov (.reg 2), (some 13), none⟩])
     (.seq (.region [⟨.mov (.loc 8), none, none⟩, ⟨.mov (.loc 1), none, none⟩, ⟨.mov (.loc 13), none, none⟩, ⟨.mov (.loc 12), none, none⟩, ⟨.bin .mul (.reg 2) (.reg 3), none, none⟩, ⟨.bin .sub (.reg 1) (.reg 4), none, none⟩, ⟨.indexS (.cst (.str [48, 49, 50, 51, 52, 53, 54, 55, 56, 57, 97, 98, 99, 100, 101, 102, 103, 104, 105, 106, 107, 108, 109, 110, 111, 112, 113, 114, 115, 116, 117, 118, 119, 120, 121, 122])) (.reg 5), none, none⟩, ⟨.indexAddrA 65 1 (.loc 7) (.reg 0), none, none⟩, ⟨.store 1 (.reg 7) (.reg 6), none, none⟩])
     (.region [⟨.mov (.loc 13), none, none⟩, ⟨.mov (.reg 0), (some 1), none⟩]))))))
def t96L1 : TCode := (.seq (.seq (.region [⟨.mov (.loc 1), none, none⟩, ⟨.mov (.loc 10), none, none⟩, ⟨.bin .geq (.reg 0) (.reg 1), (some 17), none⟩])
    (.cond (.loc 17)
     .skip
     (.exit 0)))
    (.block 1
     (.seq (.region [⟨.mov (.loc 8), none, none⟩, ⟨.bin .sub (.reg 0) (.cst (.int .i64 1)), none, none⟩, ⟨.mov (.reg 1), (some 8), none⟩])
     (.seq (.region [⟨.mov (.loc 8), none, none⟩, ⟨.mov (.loc 1), none, none⟩, ⟨.mov (.loc 11), none, none⟩, ⟨.bin .and (.reg 1) (.reg 2), none, none⟩, ⟨.indexS (.cst (.str [48, 49, 50, 51, 52, 53, 54, 55, 56, 57, 97, 98, 99, 100, 101, 102, 103, 104, 105, 106, 107, 108, 109, 110, 111, 112, 113, 114, 115, 116, 117, 118, 119, 120, 121, 122])) (.reg 3), none, none⟩, ⟨.indexAddrA 65 1 (.loc 7) (.reg 0), none, none⟩, ⟨.store 1 (.reg 5) (.reg 4), none, none⟩])
     (.region [⟨.mov (.loc 1), none, none⟩, ⟨.mov (.loc 9), none, none⟩, ⟨.bin .shr (.reg 0) (.reg 1), none, none⟩, ⟨.mov (.reg 2), (some 1), none⟩])))))
def t96 : TFunc := ⟨5, 21, [.loc 5, .loc 6],
 (.seq (.region [⟨.mov (.cst (.sl .nil [])), (some 5), none⟩, ⟨.mov (.cst (.str [])), (some 6), none⟩])
 (.seq (.seq (.region [⟨.mov (.loc 2), none, none⟩, ⟨.bin .lss (.reg 0) (.cst (.int .i64 2)), none, none⟩, ⟨.mov (.reg 1), none, none⟩, ⟨.mov (.loc 2), none, (some (2, false))⟩, ⟨.bin .eql (.reg 3) (.cst (.int .i64 10)), none, (some (2, false))⟩, ⟨.pick (.reg 2) (.cst (.bool true)) (.reg 4), none, none⟩, ⟨.mov (.reg 5), none, none⟩, ⟨.mov (.loc 2), none, (some (6, false))⟩, ⟨.bin .gtr (.reg 7) (.cst (.int .i64 36)), none, (some (6, false))⟩, ⟨.pick (.reg 6) (.cst (.bool true)) (.reg 8), (some 14), none⟩])
 (.cond (.loc 14)
  (.region [⟨.bad, none, none⟩, ⟨.bad, none, none⟩])
  .skip))
 (.seq (.region [⟨.allocH 152 [(.int .u8 0), (.int .u8 0), (.int .u8 0), (.int .u8 0), (.int .u8 0), (.int .u8 0), (.int .u8 0), (.int .u8 0), (.int .u8 0), (.int .u8 0), (.int .u8 0), (.int .u8 0), (.int .u8 0), (.int .u8 0), (.int .u8 0), (.int .u8 0), (.int .u8 0), (.int .u8 0), (.int .u8 0), (.int .u8 0), (.int .u8 0), (.int .u8 0), (.int .u8 0), (.int .u8 0), (.int .u8 0), (.int .u8 0), (.int .u8 0), (.int .u8 0), (.int .u8 0), (.int .u8 0), (.int .u8 0), (.int .u8 0), (.int .u8 0), (.int .u8 0), (.int .u8 0), (.int .u8 0), (.int .u8 0), (.int .u8 0), (.int .u8 0), (.int .u8 0), (.int .u8 0), (.int .u8 0), (.int .u8 0), (.int .u8 0), (.int .u8 0), (.int .u8 0), (.int .u8 0), (.int .u8 0), (.int .u8 0), (.int .u8 0), (.int .u8 0), (.int .u8 0), (.int .u8 0), (.int .u8 0), (.int .u8 0), (.int .u8 0), (.int .u8 0), (.int .u8 0), (.int .u8 0), (.int .u8 0), (.int .u8 0), (.int .u8 0), (.int .u8 0), (.int .u8 0), (.int .u8 0)], (some 7), none⟩])
 (.seq (.region [⟨.mov (.cst (.int .i64 65)), (some 8), none⟩])
 (.seq (.seq (.region [⟨.mov (.loc 3), (some 15), none⟩])
 (.cond (.loc 15)
  (.region [⟨.mov (.loc 1), none, none⟩, ⟨.un .neg (.reg 0), none, none⟩, ⟨.mov (.reg 1), (some 1), none⟩])
  .skip))
 (.seq (.seq (.region [⟨.mov (.loc 2), none, none⟩, ⟨.call true false 106 [(.reg 0)], (some 16), none⟩])
 (.cond (.loc 16)
  (.seq (.region [⟨.mov (.loc 2), none, none⟩, ⟨.conv (.toInt .u64) (.reg 0), none, none⟩, ⟨.call true false 107 [(.reg 1)], none, none⟩, ⟨.conv (.toInt .u64) (.reg 2), none, none⟩, ⟨.mov (.reg 3), (some 9), none⟩])
  (.seq (.region [⟨.mov (.loc 2), none, none⟩, ⟨.conv (.toInt .u64) (.reg 0), none, none⟩, ⟨.mov (.reg 1), (some 10), none⟩])
  (.seq (.region [⟨.mov (.loc 2), none, none⟩, ⟨.conv (.toInt .u64) (.reg 0), none, none⟩, ⟨.bin .sub (.reg 1) (.cst (.int .u64 1)), none, none⟩, ⟨.mov (.reg 2), (some 11), none⟩])
  (.seq (.block 0
   (.loop t96L1))
  (.seq (.region [⟨.mov (.loc 8), none, none⟩, ⟨.bin .sub (.reg 0) (.cst (.int .i64 1)), none, none⟩, ⟨.mov (.reg 1), (some 8), none⟩])
  (.region [⟨.mov (.loc 8), none, none⟩, ⟨.mov (.loc 1), none, none⟩, ⟨.indexS (.cst (.str [48, 49, 50, 51, 52, 53, 54, 55, 56, 57, 97, 98, 99, 100, 101, 102, 103, 104, 105, 106, 107, 108, 109, 110, 111, 112, 113, 114, 115, 116, 117, 118, 119, 120, 121, 122])) (.reg 1), none, none⟩, ⟨.indexAddrA 65 1 (.loc 7) (.reg 0), none, none⟩, ⟨.store 1 (.reg 3) (.reg 2), none, none⟩]))))))
  (.seq (.region [⟨.mov (.loc 2), none, none⟩, ⟨.conv (.toInt .u64) (.reg 0), none, none⟩, ⟨.mov (.reg 1), (some 12), none⟩])
  (.seq (.block 2
   (.loop t96L0))
  (.seq (.region [⟨.mov (.loc 8), none, none⟩, ⟨.bin .sub (.reg 0) (.cst (.int .i64 1)), none, none⟩, ⟨.mov (.reg 1), (some 8), none⟩])
  (.region [⟨.mov (.loc 8), none, none⟩, ⟨.mov (.loc 1), none, none⟩, ⟨.indexS (.cst (.str [48, 49, 50, 51, 52, 53, 54, 55, 56, 57, 97, 98, 99, 100, 101, 102, 103, 104, 105, 106, 107, 108, 109, 110, 111, 112, 113, 114, 115, 116, 117, 118, 119, 120, 121, 122])) (.reg 1), none, none⟩, ⟨.indexAddrA 65 1 (.loc 7) (.reg 0), none, none⟩, ⟨.store 1 (.reg 3) (.reg 2), none, none⟩]))))))
 (.seq (.seq (.region [⟨.mov (.loc 3), (some 19), none⟩])
 (.cond (.loc 19)
  (.seq (.region [⟨.mov (.loc 8), none, none⟩, ⟨.bin .sub (.reg 0) (.cst (.int .i64 1)), none, none⟩, ⟨.mov (.reg 1), (some 8), none⟩])
  (.region [⟨.mov (.loc 8), none, none⟩, ⟨.indexAddrA 65 1 (.loc 7) (.reg 0), none, none⟩, ⟨.store 1 (.reg 1) (.cst (.int .u8 45)), none, none⟩]))
  .skip))
 (.seq (.seq (.region [⟨.mov (.loc 4), (some 20), none⟩])
 (.cond (.loc 20)
  (.seq (.region [⟨.mov (.loc 0), none, none⟩, ⟨.mov (.loc 8), none, none⟩, ⟨.slice (.arr 65 1) (.loc 7) (some (.reg 1)) none none, none, none⟩, ⟨.append false 1 1 5 (.reg 0) (.reg 2), none, none⟩, ⟨.mov (.reg 3), (some 5), none⟩])
  .ret)
  .skip))
 (.seq (.region [⟨.mov (.loc 8), none, none⟩, ⟨.slice (.arr 65 1) (.loc 7) (some (.reg 0)) none none, none, none⟩, ⟨.conv .bytesStr (.reg 1), none, none⟩, ⟨.mov (.reg 2), (some 6), none⟩])
 .ret)))))))))⟩
theorem c96 : compFunc Tryd.prog opts a96 Tryd.f96 = some t96 := by kernel_rfl
def a99 : Ann := { slots := [0, 1, 4], lb := [], mu := [], trunc := [], draws := [] }
def t99 : TFunc := ⟨2, 3, [.loc 2],
 (.seq (.region [⟨.mov (.cst (.int .i64 0)), (some 2), none⟩])
 (.seq (.region [⟨.mov (.loc 0), none, none⟩, ⟨.mov (.loc 1), none, none⟩, ⟨.call true false 108 [(.reg 0), (.reg 1)], none, none⟩, ⟨.mov (.reg 2), (some 2), none⟩])
 .ret))⟩
theorem c99 : compFunc Tryd.prog opts a99 Tryd.f99 = some t99 := by kernel_rfl
def a100 : Ann := { slots := [0, 2, 3, 10], lb := [], mu := [], trunc := [], draws := [] }
def t100 : TFunc := ⟨1, 4, [.loc 1],
 (.seq (.region [⟨.mov (.cst (.bool false)), (some 1), none⟩])
 (.seq (.block 0
  (.seq (.region [⟨.mov (.loc 0), none, none⟩, ⟨.bin .leq (.cst (.int .i32 0)) (.reg 0), none, none⟩, ⟨.mov (.reg 1), none, none⟩, ⟨.mov (.loc 0), none, (some (2, true))⟩, ⟨.bin .lss (.reg 3) (.cst (.int .i32 55296)), none, (some (2, true))⟩, ⟨.pick (.reg 2) (.reg 4) (.cst (.bool false)), none, none⟩, ⟨.mov (.reg 5), (some 2), none⟩])
  (.cond (.loc 2)
   (.seq (.region [⟨.mov (.cst (.bool true)), (some 1), none⟩])
   .ret)
   (.seq (.region [⟨.mov (.loc 0), none, none⟩, ⟨.bin .lss (.cst (.int .i32 57343)) (.reg 0), none, none⟩, ⟨.mov (.reg 1), none, none⟩, ⟨.mov (.loc 0), none, (some (2, true))⟩, ⟨.bin .leq (.reg 3) (.cst (.int .i32 1114111)), none, (some (2, true))⟩, ⟨.pick (.reg 2) (.reg 4) (.cst (.bool false)), none, none⟩, ⟨.mov (.reg 5), (some 3), none⟩])
   (.cond (.loc 3)
    (.seq (.region [⟨.mov (.cst (.bool true)), (some 1), none⟩])
    .ret)
    .skip)))))
 (.seq (.region [⟨.mov (.cst (.bool false)), (some 1), none⟩])
 .ret)))⟩
theorem c100 : compFunc Tryd.prog opts a100 Tryd.f100 = some t100 := by kernel_rfl
def a103 : Ann := { slots := [0, 2], lb := [], mu := [], trunc := [], draws := [] }
def t103 : TFunc := ⟨1, 2, [.loc 1],
 (.seq (.region [⟨.mov (.cst (.int .i64 0)), (some 1), none⟩])
 (.seq (.region [⟨.mov (.loc 0), none, none⟩, ⟨.bin .mul (.reg 0) (.cst (.int .i64 78913)), none, none⟩, ⟨.bin .shr (.reg 1) (.cst (.int .u64 18)), none, none⟩, ⟨.mov (.reg 2), (some 1), none⟩])
 .ret))⟩
theorem c103 : compFunc Tryd.prog opts a103 Tryd.f103 = some t103 := by kernel_rfl
def a104 : Ann := { slots := [0, 2, 4, 8, 14], lb := [], mu := [], trunc := [], draws := [] }
def t104 : TFunc := ⟨1, 5, [.loc 1],
 (.seq (.region [⟨.mov (.cst (.int .i64 0)), (some 1), none⟩])
 (.seq (.seq (.region [⟨.mov (.loc 0), none, none⟩, ⟨.bin .geq (.reg 0) (.cst (.int .u64 4294967296)), (some 2), none⟩])
 (.cond (.loc 2)
  (.seq (.region [⟨.mov (.loc 0), none, none⟩, ⟨.bin .shr (.reg 0) (.cst (.int .u64 32)), none, none⟩, ⟨.mov (.reg 1), (some 0), none⟩])
  (.region [⟨.mov (.cst (.int .i64 32)), (some 1), none⟩]))
  .skip))
 (.seq (.seq (.region [⟨.mov (.loc 0), none, none⟩, ⟨.bin .geq (.reg 0) (.cst (.int .u64 65536)), (some 3), none⟩])
 (.cond (.loc 3)
  (.seq (.region [⟨.mov (.loc 0), none, none⟩, ⟨.bin .shr (.reg 0) (.cst (.int .u64 16)), none, none⟩, ⟨.mov (.reg 1), (some 0), none⟩])
  (.region [⟨.mov (.loc 1), none, none⟩, ⟨.bin .add (.reg 0) (.cst (.int .i64 16)), none, none⟩, ⟨.mov (.reg 1), (some 1), none⟩]))
  .skip))
 (.seq (.seq (.region [⟨.mov (.loc 0), none, none⟩, ⟨.bin .geq (.reg 0) (.cst (.int .u64 256)), (some 4), none⟩])
 (.cond (.loc 4)
  (.seq (.region [⟨.mov (.loc 0), none, none⟩, ⟨.bin .shr (.reg 0) (.cst (.int .u64 8)), none, none⟩, ⟨.mov (.reg 1), (some 0), none⟩])
  (.region [⟨.mov (.loc 1), none, none⟩, ⟨.bin .add (.reg 0) (.cst (.int .i64 8)), none, none⟩, ⟨.mov (.reg 1), (some 1), none⟩]))
  .skip))
 (.seq (.region [⟨.mov (.loc 1), none, none⟩, ⟨.mov (.loc 0), none, none⟩, ⟨.conv (.toInt .u8) (.reg 1), none, none⟩, ⟨.indexS (.cst (.str [0, 1, 2, 2, 3, 3, 3, 3, 4, 4, 4, 4, 4, 4, 4, 4, 5, 5, 5, 5, 5, 5, 5, 5, 5, 5, 5, 5, 5, 5, 5, 5, 6, 6, 6, 6, 6, 6, 6, 6, 6, 6, 6, 6, 6, 6, 6, 6, 6, 6, 6, 6, 6, 6, 6, 6, 6, 6, 6, 6, 6, 6, 6, 6, 7, 7, 7, 7, 7, 7, 7, 7, 7, 7, 7, 7, 7, 7, 7, 7, 7, 7, 7, 7, 7, 7, 7, 7, 7, 7, 7, 7, 7, 7, 7, 7, 7, 7, 7, 7, 7, 7, 7, 7, 7, 7, 7, 7, 7, 7, 7, 7, 7, 7, 7, 7, 7, 7, 7, 7, 7, 7, 7, 7, 7, 7, 7, 7, 8, 8, 8, 8, 8, 8, 8, 8, 8, 8, 8, 8, 8, 8, 8, 8, 8, 8, 8, 8, 8, 8, 8, 8, 8, 8, 8, 8, 8, 8, 8, 8, 8, 8, 8, 8, 8, 8, 8, 8, 8, 8, 8, 8, 8, 8, 8, 8, 8, 8, 8, 8, 8, 8, 8, 8, 8, 8, 8, 8, 8, 8, 8, 8, 8, 8, 8, 8, 8, 8, 8, 8, 8, 8, 8, 8, 8, 8, 8, 8, 8, 8, 8, 8, 8, 8, 8, 8, 8, 8, 8, 8, 8, 8, 8, 8, 8, 8, 8, 8, 8, 8, 8, 8, 8, 8, 8, 8, 8, 8, 8, 8, 8, 8, 8, 8, 8, 8, 8, 8, 8, 8, 8, 8, 8, 8, 8, 8])) (.reg 2), none, none⟩, ⟨.conv (.toInt .i64) (.reg 3), none, none⟩, ⟨.bin .add (.reg 0) (.reg 4), none, none⟩, ⟨.mov (.reg 5), (some 1), none⟩])
 .ret)))))⟩
theorem c104 : compFunc Tryd.prog opts a104 Tryd.f104 = some t104 := by kernel_rfl
def a105 : Ann := { slots := [0, 2, 3], lb := [], mu := [], trunc := [], draws := [] }
def t105 : TFunc := ⟨1, 3, [.loc 1],
 (.seq (.region [⟨.mov (.cst (.int .i64 0)), (some 1), none⟩])
 (.seq (.seq (.region [⟨.mov (.loc 0), (some 2), none⟩])
 (.cond (.loc 2)
  (.seq (.region [⟨.mov (.cst (.int .i64 1)), (some 1), none⟩])
  .ret)
  .skip))
 (.seq (.region [⟨.mov (.cst (.int .i64 0)), (some 1), none⟩])
 .ret)))⟩
theorem c105 : compFunc Tryd.prog opts a105 Tryd.f105 = some t105 := by kernel_rfl
def a106 : Ann := { slots := [0, 2], lb := [], mu := [], trunc := [], draws := [] }
def t106 : TFunc := ⟨1, 2, [.loc 1],
 (.seq (.region [⟨.mov (.cst (.bool false)), (some 1), none⟩])
 (.seq (.region [⟨.mov (.loc 0), none, none⟩, ⟨.mov (.loc 0), none, none⟩, ⟨.bin .sub (.reg 1) (.cst (.int .i64 1)), none, none⟩, ⟨.bin .and (.reg 0) (.reg 2), none, none⟩, ⟨.bin .eql (.reg 3) (.cst (.int .i64 0)), none, none⟩, ⟨.mov (.reg 4), (some 1), none⟩])
 .ret))⟩
theorem c106 : compFunc Tryd.prog opts a106 Tryd.f106 = some t106 := by kernel_rfl
def a107 : Ann := { slots := [0, 2], lb := [], mu := [], trunc := [], draws := [] }
def t107 : TFunc := ⟨1, 2, [.loc 1],
 (.seq (.region [⟨.mov (.cst (.int .i64 0)), (some 1), none⟩])
 (.seq (.cond (.cst (.bool false))
  (.seq (.region [⟨.mov (.loc 0), none, none⟩, ⟨.conv (.toInt .u32) (.reg 0), none, none⟩, ⟨.call true false 109 [(.reg 1)], none, none⟩, ⟨.mov (.reg 2), (some 1), none⟩])
  .ret)
  .skip)
 (.seq (.region [⟨.mov (.loc 0), none, none⟩, ⟨.call true false 110 [(.reg 0)], none, none⟩, ⟨.mov (.reg 1), (some 1), none⟩])
 .ret)))⟩
theorem c107 : compFunc Tryd.prog opts a107 Tryd.f107 = some t107 := by kernel_rfl
def a108 : Ann := { slots := [0, 1, 4], lb := [], mu := [], trunc := [], draws := [] }
def t108 : TFunc := ⟨2, 3, [.loc 2],
 (.seq (.region [⟨.mov (.cst (.int .i64 0)), (some 2), none⟩])
 (.seq (.region [⟨.mov (.loc 0), none, none⟩, ⟨.mov (.loc 1), none, none⟩, ⟨.prim 111 [(.reg 0), (.reg 1)], none, none⟩, ⟨.mov (.reg 2), (some 2), none⟩])
 .ret))⟩
theorem c108 : compFunc Tryd.prog opts a108 Tryd.f108 = some t108 := by kernel_rfl
def a109 : Ann := { slots := [0, 2, 4], lb := [], mu := [], trunc := [], draws := [] }
def t109 : TFunc := ⟨1, 3, [.loc 1],
 (.seq (.region [⟨.mov (.cst (.int .i64 0)), (some 1), none⟩])
 (.seq (.seq (.region [⟨.mov (.loc 0), none, none⟩, ⟨.bin .eql (.reg 0) (.cst (.int .u32 0)), (some 2), none⟩])
 (.cond (.loc 2)
  (.seq (.region [⟨.mov (.cst (.int .i64 32)), (some 1), none⟩])
  .ret)
  .skip))
 (.seq (.region [⟨.mov (.loc 0), none, none⟩, ⟨.mov (.loc 0), none, none⟩, ⟨.un .neg (.reg 1), none, none⟩, ⟨.bin .and (.reg 0) (.reg 2), none, none⟩, ⟨.bin .mul (.reg 3) (.cst (.int .u32 125613361)), none, none⟩, ⟨.bin .shr (.reg 4) (.cst (.int .u64 27)), none, none⟩, ⟨.indexAddrA 32 1 (.glob 4) (.reg 5), none, none⟩, ⟨.load1 (.reg 6), none, none⟩, ⟨.conv (.toInt .i64) (.reg 7), none, none⟩, ⟨.mov (.reg 8), (some 1), none⟩])
 .ret)))⟩
theorem c109 : compFunc Tryd.prog opts a109 Tryd.f109 = some t109 := by kernel_rfl
def a110 : Ann := { slots := [0, 2, 4], lb := [], mu := [], trunc := [], draws := [] }
def t110 : TFunc := ⟨1, 3, [.loc 1],
 (.seq (.region [⟨.mov (.cst (.int .i64 0)), (some 1), none⟩])
 (.seq (.seq (.region [⟨.mov (.loc 0), none, none⟩, ⟨.bin .eql (.reg 0) (.cst (.int .u64 0)), (some 2), none⟩])
 (.cond (.loc 2)
  (.seq (.region [⟨.mov (.cst (.int .i64 64)), (some 1), none⟩])
  .ret)
  .skip))
 (.seq (.region [⟨.mov (.loc 0), none, none⟩, ⟨.mov (.loc 0), none, none⟩, ⟨.un .neg (.reg 1), none, none⟩, ⟨.bin .and (.reg 0) (.reg 2), none, none⟩, ⟨.bin .mul (.reg 3) (.cst (.int .u64 285870213051353865)), none, none⟩, ⟨.bin .shr (.reg 4) (.cst (.int .u64 58)), none, none⟩, ⟨.indexAddrA 64 1 (.glob 5) (.reg 5), none, none⟩, ⟨.load1 (.reg 6), none, none⟩, ⟨.conv (.toInt .i64) (.reg 7), none, none⟩, ⟨.mov (.reg 8), (some 1), none⟩])
 .ret)))⟩
theorem c110 : compFunc Tryd.prog opts a110 Tryd.f110 = some t110 := by kernel_rfl
def g0 : List IV := [(.int .u8 240), (.int .u8 240), (.int .u8 240), (.int .u8 240), (.int .u8 240), (.int .u8 240), (.int .u8 240), (.int .u8 240), (.int .u8 240), (.int .u8 240), (.int .u8 240), (.int .u8 240), (.int .u8 240), (.int .u8 240), (.int .u8 240), (.int .u8 240), (.int .u8 240), (.int .u8 240), (.int .u8 240), (.int .u8 240), (.int .u8 240), (.int .u8 240), (.int .u8 240), (.int .u8 240), (.int .u8 240), (.int .u8 240), (.int .u8 240), (.int .u8 240), (.int .u8 240), (.int .u8 240), (.int .u8 240), (.int .u8 240), (.int .u8 240), (.int .u8 240), (.int .u8 240), (.int .u8 240), (.int .u8 240), (.int .u8 240), (.int .u8 240), (.int .u8 240), (.int .u8 240), (.int .u8 240), (.int .u8 240), (.int .u8 240), (.int .u8 240), (.int .u8 240), (.int .u8 240), (.int .u8 240), (.int .u8 240), (.int .u8 240), (.int .u8 240), (.int .u8 240), (.int .u8 240), (.int .u8 240), (.int .u8 240), (.int .u8 240), (.int .u8 240), (.int .u8 240), (.int .u8 240), (.int .u8 240), (.int .u8 240), (.int .u8 240), (.int .u8 240), (.int .u8 240), (.int .u8 240), (.int .u8 240), (.int .u8 240), (.int .u8 240), (.int .u8 240), (.int .u8 240), (.int .u8 240), (.int .u8 240), (.int .u8 240), (.int .u8 240), (.int .u8 240), (.int .u8 240), (.int .u8 240), (.int .u8 240), (.int .u8 240), (.int .u8 240), (.int .u8 240), (.int .u8 240), (.int .u8 240), (.int .u8 240), (.int .u8 240), (.int .u8 240), (.int .u8 240), (.int .u8 240), (.int .u8 240), (.int .u8 240), (.int .u8 240), (.int .u8 240), (.int .u8 240), (.int .u8 240), (.int .u8 240), (.int .u8 240), (.int .u8 240), (.int .u8 240), (.int .u8 240), (.int .u8 240), (.int .u8 240), (.int .u8 240), (.int .u8 240), (.int .u8 240), (.int .u8 240), (.int .u8 240), (.int .u8 240), (.int .u8 240), (.int .u8 240), (.int .u8 240), (.int .u8 240), (.int .u8 240), (.int .u8 240), (.int .u8 240), (.int .u8 240), (.int .u8 240), (.int .u8 240), (.int .u8 240), (.int .u8 240), (.int .u8 240), (.int .u8 240), (.int .u8 240), (.int .u8 240), (.int .u8 240), (.int .u8 240), (.int .u8 240), (.int .u8 240), (.int .u8 240), (.int .u8 241), (.int .u8 241), (.int .u8 241), (.int .u8 241), (.int .u8 241), (.int .u8 241), (.int .u8 241), (.int .u8 241), (.int .u8 241), (.int .u8 241), (.int .u8 241), (.int .u8 241), (.int .u8 241), (.int .u8 241), (.int .u8 241), (.int .u8 241), (.int .u8 241), (.int .u8 241), (.int .u8 241), (.int .u8 241), (.int .u8 241), (.int .u8 241), (.int .u8 241), (.int .u8 241), (.int .u8 241), (.int .u8 241), (.int .u8 241), (.int .u8 241), (.int .u8 241), (.int .u8 241), (.int .u8 241), (.int .u8 241), (.int .u8 241), (.int .u8 241), (.int .u8 241), (.int .u8 241), (.int .u8 241), (.int .u8 241), (.int .u8 241), (.int .u8 241), (.int .u8 241), (.int .u8 241), (.int .u8 241), (.int .u8 241), (.int .u8 241), (.int .u8 241), (.int .u8 241), (.int .u8 241), (.int .u8 241), (.int .u8 241), (.int .u8 241), (.int .u8 241), (.int .u8 241), (.int .u8 241), (.int .u8 241), (.int .u8 241), (.int .u8 241), (.int .u8 241), (.int .u8 241), (.int .u8 241), (.int .u8 241), (.int .u8 241), (.int .u8 241), (.int .u8 241), (.int .u8 241), (.int .u8 241), (.int .u8 2), (.int .u8 2), (.int .u8 2), (.int .u8 2), (.int .u8 2), (.int .u8 2), (.int .u8 2), (.int .u8 2), (.int .u8 2), (.int .u8 2), (.int .u8 2), (.int .u8 2), (.int .u8 2), (.int .u8 2), (.int .u8 2), (.int .u8 2), (.int .u8 2), (.int .u8 2), (.int .u8 2), (.int .u8 2), (.int .u8 2), (.int .u8 2), (.int .u8 2), (.int .u8 2), (.int .u8 2), (.int .u8 2), (.int .u8 2), (.int .u8 2), (.int .u8 2), (.int .u8 2), (.int .u8 19), (.int .u8 3), (.int .u8 3), (.int .u8 3), (.int .u8 3), (.int .u8 3), (.int .u8 3), (.int .u8 3), (.int .u8 3), (.int .u8 3), (.int .u8 3), (.int .u8 3), (.int .u8 3), (.int .u8 35), (.int .u8 3), (.int .u8 3), (.int .u8 52), (.int .u8 4), (.int .u8 4), (.int .u8 4), (.int .u8 68), (.int .u8 241), (.int .u8 241), (.int .u8 241), (.int .u8 241), (.int .u8 241), (.int .u8 241), (.int .u8 241), (.int .u8 241), (.int .u8 241), (.int .u8 241), (.int .u8 241)]
def g1 : List IV := [(.int .u8 128), (.int .u8 191), (.int .u8 160), (.int .u8 191), (.int .u8 128), (.int .u8 159), (.int .u8 144), (.int .u8 191), (.int .u8 128), (.int .u8 143), (.int .u8 0), (.int .u8 0), (.int .u8 0), (.int .u8 0), (.int .u8 0), (.int .u8 0), (.int .u8 0), (.int .u8 0), (.int .u8 0), (.int .u8 0), (.int .u8 0), (.int .u8 0), (.int .u8 0), (.int .u8 0), (.int .u8 0), (.int .u8 0), (.int .u8 0), (.int .u8 0), (.int .u8 0), (.int .u8 0), (.int .u8 0), (.int .u8 0)]
def g2 : List IV := [(.int .u64 1), (.int .u64 10), (.int .u64 100), (.int .u64 1000), (.int .u64 10000), (.int .u64 100000), (.int .u64 1000000), (.int .u64 10000000), (.int .u64 100000000), (.int .u64 1000000000), (.int .u64 10000000000), (.int .u64 100000000000), (.int .u64 1000000000000), (.int .u64 10000000000000), (.int .u64 100000000000000), (.int .u64 1000000000000000), (.int .u64 10000000000000000), (.int .u64 100000000000000000), (.int .u64 1000000000000000000), (.int .u64 10000000000000000000)]
def g4 : List IV := [(.int .u8 0), (.int .u8 1), (.int .u8 28), (.int .u8 2), (.int .u8 29), (.int .u8 14), (.int .u8 24), (.int .u8 3), (.int .u8 30), (.int .u8 22), (.int .u8 20), (.int .u8 15), (.int .u8 25), (.int .u8 17), (.int .u8 4), (.int .u8 8), (.int .u8 31), (.int .u8 27), (.int .u8 13), (.int .u8 23), (.int .u8 21), (.int .u8 19), (.int .u8 16), (.int .u8 7), (.int .u8 26), (.int .u8 12), (.int .u8 18), (.int .u8 6), (.int .u8 11), (.int .u8 5), (.int .u8 10), (.int .u8 9)]
def g5 : List IV := [(.int .u8 0), (.int .u8 1), (.int .u8 56), (.int .u8 2), (.int .u8 57), (.int .u8 49), (.int .u8 28), (.int .u8 3), (.int .u8 61), (.int .u8 58), (.int .u8 42), (.int .u8 50), (.int .u8 38), (.int .u8 29), (.int .u8 17), (.int .u8 4), (.int .u8 62), (.int .u8 47), (.int .u8 59), (.int .u8 36), (.int .u8 45), (.int .u8 43), (.int .u8 51), (.int .u8 22), (.int .u8 53), (.int .u8 39), (.int .u8 33), (.int .u8 30), (.int .u8 24), (.int .u8 18), (.int .u8 12), (.int .u8 5), (.int .u8 63), (.int .u8 55), (.int .u8 48), (.int .u8 27), (.int .u8 60), (.int .u8 41), (.int .u8 37), (.int .u8 16), (.int .u8 46), (.int .u8 35), (.int .u8 44), (.int .u8 21), (.int .u8 52), (.int .u8 32), (.int .u8 23), (.int .u8 11), (.int .u8 54), (.int .u8 26), (.int .u8 40), (.int .u8 15), (.int .u8 34), (.int .u8 20), (.int .u8 31), (.int .u8 10), (.int .u8 25), (.int .u8 14), (.int .u8 19), (.int .u8 9), (.int .u8 13), (.int .u8 8), (.int .u8 7), (.int .u8 6)]
def tbl : List (Option TFunc) := [none, none, none, some t3, some t4, some t5, none, none, none, none, none, some t11, some t12, some t13, some t14, some t15, some t16, some t17, some t18, some t19, some t20, some t21, some t22, some t23, some t24, some t25, some t26, some t27, some t28, some t29, some t30, none, none, none, none, none, some t36, some t37, some t38, some t39, some t40, some t41, some t42, some t43, some t44, some t45, some t46, some t47, some t48, some t49, some t50, some t51, some t52, some t53, some t54, some t55, some t56, none, none, none, some t60, none, some t62, some t63, some t64, some t65, some t66, some t67, some t68, some t69, some t70, some t71, some t72, some t73, none, some t75, some t76, some t77, some t78, none, some t80, some t81, some t82, some t83, some t84, some t85, some t86, none, some t88, some t89, some t90, some t91, some t92, some t93, some t94, some t95, some t96, none, none, some t99, some t100, none, none, some t103, some t104, some t105, some t106, some t107, some t108, some t109, some t110]
def gtbl : List (Option (List IV)) := [some g0, some g1, some g2, none, some g4, some g5]
def K : TM.Prog := ⟨fun k => tbl.getD k none, fun g => gtbl.getD g none, fun f => primAt prims f⟩
def Good (k : Nat) (tf : TFunc) : Prop := ∃ (A : Ann) (fn : Func), Tryd.prog.funcs[k]? = some fn ∧ fn.name ≠ "runtime.NumGoroutine" ∧ compFunc Tryd.prog opts A fn = some tf
theorem n3 : (Tryd.f3.name == "runtime.NumGoroutine") = false := by kernel_rfl
theorem q3 : Good 3 t3 := ⟨a3, Tryd.f3, Tryd.func3, fun e => by have h := n3; rw [e] at h; simp at h, c3⟩
theorem n4 : (Tryd.f4.name == "runtime.NumGoroutine") = false := by kernel_rfl
theorem q4 : Good 4 t4 := ⟨a4, Tryd.f4, Tryd.func4, fun e => by have h := n4; rw [e] at h; simp at h, c4⟩
theorem n5 : (Tryd.f5.name == "runtime.NumGoroutine") = false := by kernel_rfl
theorem q5 : Good 5 t5 := ⟨a5, Tryd.f5, Tryd.func5, fun e => by have h := n5; rw [e] at h; simp at h, c5⟩
theorem n11 : (Tryd.f11.name == "runtime.NumGoroutine") = false := by kernel_rfl
theorem q11 : Good 11 t11 := ⟨a11, Tryd.f11, Tryd.func11, fun e => by have h := n11; rw [e] at h; simp at h, c11⟩
theorem n12 : (Tryd.f12.name == "runtime.NumGoroutine") = false := by kernel_rfl
theorem q12 : Good 12 t12 := ⟨a12, Tryd.f12, Tryd.func12, fun e => by have h := n12; rw [e] at h; simp at h, c12⟩
theorem n13 : (Tryd.f13.name == "runtime.NumGoroutine") = false := by kernel_rfl
theorem q13 : Good 13 t13 := ⟨a13, Tryd.f13, Tryd.func13, fun e => by have h := n13; rw [e] at h; simp at h, c13⟩
theorem n14 : (Tryd.f14.name == "runtime.NumGoroutine") = false := by kernel_rfl
theorem q14 : Good 14 t14 := ⟨a14, Tryd.f14, Tryd.func14, fun e => by have h := n14; rw [e] at h; simp at h, c14⟩
theorem n15 : (Tryd.f15.name == "runtime.NumGoroutine") = false := by kernel_rfl
theorem q15 : Good 15 t15 := ⟨a15, Tryd.f15, Tryd.func15, fun e => by have h := n15; rw [e] at h; simp at h, c15⟩
theorem n16 : (Tryd.f16.name == "runtime.NumGoroutine") = false := by kernel_rfl
theorem q16 : Good 16 t16 := ⟨a16, Tryd.f16, Tryd.func16, fun e => by have h := n16; rw [e] at h; simp at h, c16⟩
theorem n17 : (Tryd.f17.name == "runtime.NumGoroutine") = false := by kernel_rfl
theorem q17 : Good 17 t17 := ⟨a17, Tryd.f17, Tryd.func17, fun e => by have h := n17; rw [e] at h; simp at h, c17⟩
theorem n18 : (Tryd.f18.name == "runtime.NumGoroutine") = false := by kernel_rfl
theorem q18 : Good 18 t18 := ⟨a18, Tryd.f18, Tryd.func18, fun e => by have h := n18; rw [e] at h; simp at h, c18⟩
theorem n19 : (Tryd.f19.name == "runtime.NumGoroutine") = false := by kernel_rfl
theorem q19 : Good 19 t19 := ⟨a19, Tryd.f19, Tryd.func19, fun e => by have h := n19; rw [e] at h; simp at h, c19⟩
theorem n20 : (Tryd.f20.name == "runtime.NumGoroutine") = false := by kernel_rfl
theorem q20 : Good 20 t20 := ⟨a20, Tryd.f20, Tryd.func20, fun e => by have h := n20; rw [e] at h; simp at h, c20⟩
theorem n21 : (Tryd.f21.name == "runtime.NumGoroutine") = false := by kernel_rfl
theorem q21 : Good 21 t21 := ⟨a21, Tryd.f21, Tryd.func21, fun e => by have h := n21; rw [e] at h; simp at h, c21⟩
theorem n22 : (Tryd.f22.name == "runtime.NumGoroutine") = false := by kernel_rfl
theorem q22 : Good 22 t22 := ⟨a22, Tryd.f22, Tryd.func22, fun e => by have h := n22; rw [e] at h; simp at h, c22⟩
theorem n23 : (Tryd.f23.name == "runtime.NumGoroutine") = false := by kernel_rfl
theorem q23 : Good 23 t23 := ⟨a23, Tryd.f23, Tryd.func23, fun e => by have h := n23; rw [e] at h; simp at h, c23⟩
theorem n24 : (Tryd.f24.name == "runtime.NumGoroutine") = false := by kernel_rfl
theorem q24 : Good 24 t24 := ⟨a24, Tryd.f24, Tryd.func24, fun e => by have h := n24; rw [e] at h; simp at h, c24⟩
theorem n25 : (Tryd.f25.name == "runtime.NumGoroutine") = false := by kernel_rfl
theorem q25 : Good 25 t25 := ⟨a25, Tryd.f25, Tryd.func25, fun e => by have h := n25; rw [e] at h; simp at h, c25⟩
theorem n26 : (Tryd.f26.name == "runtime.NumGoroutine") = false := by kernel_rfl
theorem q26 : Good 26 t26 := ⟨a26, Tryd.f26, Tryd.func26, fun e => by have h := n26; rw [e] at h; simp at h, c26⟩
theorem n27 : (Tryd.f27.name == "runtime.NumGoroutine") = false := by kernel_rfl
theorem q27 : Good 27 t27 := ⟨a27, Tryd.f27, Tryd.func27, fun e => by have h := n27; rw [e] at h; simp at h, c27⟩
theorem n28 : (Tryd.f28.name == "runtime.NumGoroutine") = false := by kernel_rfl
theorem q28 : Good 28 t28 := ⟨a28, Tryd.f28, Tryd.func28, fun e => by have h := n28; rw [e] at h; simp at h, c28⟩
theorem n29 : (Tryd.f29.name == "runtime.NumGoroutine") = false := by kernel_rfl
theorem q29 : Good 29 t29 := ⟨a29, Tryd.f29, Tryd.func29, fun e => by have h := n29; rw [e] at h; simp at h, c29⟩
theorem n30 : (Tryd.f30.name == "runtime.NumGoroutine") = false := by kernel_rfl
theorem q30 : Good 30 t30 := ⟨a30, Tryd.f30, Tryd.func30, fun e => by have h := n30; rw [e] at h; simp at h, c30⟩
theorem n36 : (Tryd.f36.name == "runtime.NumGoroutine") = false := by kernel_rfl
theorem q36 : Good 36 t36 := ⟨a36, Tryd.f36, Tryd.func36, fun e => by have h := n36; rw [e] at h; simp at h, c36⟩
theorem n37 : (Tryd.f37.name == "runtime.NumGoroutine") = false := by kernel_rfl
theorem q37 : Good 37 t37 := ⟨a37, Tryd.f37, Tryd.func37, fun e => by have h := n37; rw [e] at h; simp at h, c37⟩
theorem n38 : (Tryd.f38.name == "runtime.NumGoroutine") = false := by kernel_rfl
theorem q38 : Good 38 t38 := ⟨a38, Tryd.f38, Tryd.func38, fun e => by have h := n38; rw [e] at h; simp at h, c38⟩
theorem n39 : (Tryd.f39.name == "runtime.NumGoroutine") = false := by kernel_rfl
theorem q39 : Good 39 t39 := ⟨a39, Tryd.f39, Tryd.func39, fun e => by have h := n39; rw [e] at h; simp at h, c39⟩
theorem n40 : (Tryd.f40.name == "runtime.NumGoroutine") = false := by kernel_rfl
theorem q40 : Good 40 t40 := ⟨a40, Tryd.f40, Tryd.func40, fun e => by have h := n40; rw [e] at h; simp at h, c40⟩
theorem n41 : (Tryd.f41.name == "runtime.NumGoroutine") = false := by kernel_rfl
theorem q41 : Good 41 t41 := ⟨a41, Tryd.f41, Tryd.func41, fun e => by have h := n41; rw [e] at h; simp at h, c41⟩
theorem n42 : (Tryd.f42.name == "runtime.NumGoroutine") = false := by kernel_rfl
theorem q42 : Good 42 t42 := ⟨a42, Tryd.f42, Tryd.func42, fun e => by have h := n42; rw [e] at h; simp at h, c42⟩
theorem n43 : (Tryd.f43.name == "runtime.NumGoroutine") = false := by kernel_rfl
theorem q43 : Good 43 t43 := ⟨a43, Tryd.f43, Tryd.func43, fun e => by have h := n43; rw [e] at h; simp at h, c43⟩
theorem n44 : (Tryd.f44.name == "runtime.NumGoroutine") = false := by kernel_rfl
theorem q44 : Good 44 t44 := ⟨a44, Tryd.f44, Tryd.func44, fun e => by have h := n44; rw [e] at h; simp at h, c44⟩
theorem n45 : (Tryd.f45.name == "runtime.NumGoroutine") = false := by kernel_rfl
theorem q45 : Good 45 t45 := ⟨a45, Tryd.f45, Tryd.func45, fun e => by have h := n45; rw [e] at h; simp at h, c45⟩
theorem n46 : (Tryd.f46.name == "runtime.NumGoroutine") = false := by kernel_rfl
theorem q46 : Good 46 t46 := ⟨a46, Tryd.f46, Tryd.func46, fun e => by have h := n46; rw [e] at h; simp at h, c46⟩
theorem n47 : (Tryd.f47.name == "runtime.NumGoroutine") = false := by kernel_rfl
theorem q47 : Good 47 t47 := ⟨a47, Tryd.f47, Tryd.func47, fun e => by have h := n47; rw [e] at h; simp at h, c47⟩
theorem n48 : (Tryd.f48.name == "runtime.NumGoroutine") = false := by kernel_rfl
theorem q48 : Good 48 t48 := ⟨a48, Tryd.f48, Tryd.func48, fun e => by have h := n48; rw [e] at h; simp at h, c48⟩
theorem n49 : (Tryd.f49.name == "runtime.NumGoroutine") = false := by kernel_rfl
theorem q49 : Good 49 t49 := ⟨a49, Tryd.f49, Tryd.func49, fun e => by have h := n49; rw [e] at h; simp at h, c49⟩
theorem n50 : (Tryd.f50.name == "runtime.NumGoroutine") = false := by kernel_rfl
theorem q50 : Good 50 t50 := ⟨a50, Tryd.f50, Tryd.func50, fun e => by have h := n50; rw [e] at h; simp at h, c50⟩
theorem n51 : (Tryd.f51.name == "runtime.NumGoroutine") = false := by kernel_rfl
theorem q51 : Good 51 t51 := ⟨a51, Tryd.f51, Tryd.func51, fun e => by have h := n51; rw [e] at h; simp at h, c51⟩
theorem n52 : (Tryd.f52.name == "runtime.NumGoroutine") = false := by kernel_rfl
theorem q52 : Good 52 t52 := ⟨a52, Tryd.f52, Tryd.func52, fun e => by have h := n52; rw [e] at h; simp at h, c52⟩
theorem n53 : (Tryd.f53.name == "runtime.NumGoroutine") = false := by kernel_rfl
theorem q53 : Good 53 t53 := ⟨a53, Tryd.f53, Tryd.func53, fun e => by have h := n53; rw [e] at h; simp at h, c53⟩
theorem n54 : (Tryd.f54.name == "runtime.NumGoroutine") = false := by kernel_rfl
theorem q54 : Good 54 t54 := ⟨a54, Tryd.f54, Tryd.func54, fun e => by have h := n54; rw [e] at h; simp at h, c54⟩
theorem n55 : (Tryd.f55.name == "runtime.NumGoroutine") = false := by kernel_rfl
theorem q55 : Good 55 t55 := ⟨a55, Tryd.f55, Tryd.func55, fun e => by have h := n55; rw [e] at h; simp at h, c55⟩
theorem n56 : (Tryd.f56.name == "runtime.NumGoroutine") = false := by kernel_rfl
theorem q56 : Good 56 t56 := ⟨a56, Tryd.f56, Tryd.func56, fun e => by have h := n56; rw [e] at h; simp at h, c56⟩
theorem n60 : (Tryd.f60.name == "runtime.NumGoroutine") = false := by kernel_rfl
theorem q60 : Good 60 t60 := ⟨a60, Tryd.f60, Tryd.func60, fun e => by have h := n60; rw [e] at h; simp at h, c60⟩
theorem n62 : (Tryd.f62.name == "runtime.NumGoroutine") = false := by kernel_rfl
theorem q62 : Good 62 t62 := ⟨a62, Tryd.f62, Tryd.func62, fun e => by have h := n62; rw [e] at h; simp at h, c62⟩
theorem n63 : (Tryd.f63.name == "runtime.NumGoroutine") = false := by kernel_rfl
theorem q63 : Good 63 t63 := ⟨a63, Tryd.f63, Tryd.func63, fun e => by have h := n63; rw [e] at h; simp at h, c63⟩
theorem n64 : (Tryd.f64.name == "runtime.NumGoroutine") = false := by kernel_rfl
theorem q64 : Good 64 t64 := ⟨a64, Tryd.f64, Tryd.func64, fun e => by have h := n64; rw [e] at h; simp at h, c64⟩
theorem n65 : (Tryd.f65.name == "runtime.NumGoroutine") = false := by kernel_rfl
theorem q65 : Good 65 t65 := ⟨a65, Tryd.f65, Tryd.func65, fun e => by have h := n65; rw [e] at h; simp at h, c65⟩
theorem n66 : (Tryd.f66.name == "runtime.NumGoroutine") = false := by kernel_rfl
theorem q66 : Good 66 t66 := ⟨a66, Tryd.f66, Tryd.func66, fun e => by have h := n66; rw [e] at h; simp at h, c66⟩
theorem n67 : (Tryd.f67.name == "runtime.NumGoroutine") = false := by kernel_rfl
theorem q67 : Good 67 t67 := ⟨a67, Tryd.f67, Tryd.func67, fun e => by have h := n67; rw [e] at h; simp at h, c67⟩
theorem n68 : (Tryd.f68.name == "runtime.NumGoroutine") = false := by kernel_rfl
theorem q68 : Good 68 t68 := ⟨a68, Tryd.f68, Tryd.func68, fun e => by have h := n68; rw [e] at h; simp at h, c68⟩
theorem n69 : (Tryd.f69.name == "runtime.NumGoroutine") = false := by kernel_rfl
theorem q69 : Good 69 t69 := ⟨a69, Tryd.f69, Tryd.func69, fun e => by have h := n69; rw [e] at h; simp at h, c69⟩
theorem n70 : (Tryd.f70.name == "runtime.NumGoroutine") = false := by kernel_rfl
theorem q70 : Good 70 t70 := ⟨a70, Tryd.f70, Tryd.func70, fun e => by have h := n70; rw [e] at h; simp at h, c70⟩
theorem n71 : (Tryd.f71.name == "runtime.NumGoroutine") = false := by kernel_rfl
theorem q71 : Good 71 t71 := ⟨a71, Tryd.f71, Tryd.func71, fun e => by have h := n71; rw [e] at h; simp at h, c71⟩
theorem n72 : (Tryd.f72.name == "runtime.NumGoroutine") = false := by kernel_rfl
theorem q72 : Good 72 t72 := ⟨a72, Tryd.f72, Tryd.func72, fun e => by have h := n72; rw [e] at h; simp at h, c72⟩
theorem n73 : (Tryd.f73.name == "runtime.NumGoroutine") = false := by kernel_rfl
theorem q73 : Good 73 t73 := ⟨a73, Tryd.f73, Tryd.func73, fun e => by have h := n73; rw [e] at h; simp at h, c73⟩
theorem n75 : (Tryd.f75.name == "runtime.NumGoroutine") = false := by kernel_rfl
theorem q75 : Good 75 t75 := ⟨a75, Tryd.f75, Tryd.func75, fun e => by have h := n75; rw [e] at h; simp at h, c75⟩
theorem n76 : (Tryd.f76.name == "runtime.NumGoroutine") = false := by kernel_rfl
theorem q76 : Good 76 t76 := ⟨a76, Tryd.f76, Tryd.func76, fun e => by have h := n76; rw [e] at h; simp at h, c76⟩
theorem n77 : (Tryd.f77.name == "runtime.NumGoroutine") = false := by kernel_rfl
theorem q77 : Good 77 t77 := ⟨a77, Tryd.f77, Tryd.func77, fun e => by have h := n77; rw [e] at h; simp at h, c77⟩
theorem n78 : (Tryd.f78.name == "runtime.NumGoroutine") = false := by kernel_rfl
theorem q78 : Good 78 t78 := ⟨a78, Tryd.f78, Tryd.func78, fun e => by have h := n78; rw [e] at h; simp at h, c78⟩
theorem n80 : (Tryd.f80.name == "runtime.NumGoroutine") = false := by kernel_rfl
theorem q80 : Good 80 t80 := ⟨a80, Tryd.f80, Tryd.func80, fun e => by have h := n80; rw [e] at h; simp at h, c80⟩
theorem n81 : (Tryd.f81.name == "runtime.NumGoroutine") = false := by kernel_rfl
theorem q81 : Good 81 t81 := ⟨a81, Tryd.f81, Tryd.func81, fun e => by have h := n81; rw [e] at h; simp at h, c81⟩
theorem n82 : (Tryd.f82.name == "runtime.NumGoroutine") = false := by kernel_rfl
theorem q82 : Good 82 t82 := ⟨a82, Tryd.f82, Tryd.func82, fun e => by have h := n82; rw [e] at h; simp at h, c82⟩
theorem n83 : (Tryd.f83.name == "runtime.NumGoroutine") = false := by kernel_rfl
theorem q83 : Good 83 t83 := ⟨a83, Tryd.f83, Tryd.func83, fun e => by have h := n83; rw [e] at h; simp at h, c83⟩
theorem n84 : (Tryd.f84.name == "runtime.NumGoroutine") = false := by kernel_rfl
theorem q84 : Good 84 t84 := ⟨a84, Tryd.f84, Tryd.func84, fun e => by have h := n84; rw [e] at h; simp at h, c84⟩
theorem n85 : (Tryd.f85.name == "runtime.NumGoroutine") = false := by kernel_rfl
theorem q85 : Good 85 t85 := ⟨a85, Tryd.f85, Tryd.func85, fun e => by have h := n85; rw [e] at h; simp at h, c85⟩
theorem n86 : (Tryd.f86.name == "runtime.NumGoroutine") = false := by kernel_rfl
theorem q86 : Good 86 t86 := ⟨a86, Tryd.f86, Tryd.func86, fun e => by have h := n86; rw [e] at h; simp at h, c86⟩
theorem n88 : (Tryd.f88.name == "runtime.NumGoroutine") = false := by kernel_rfl
theorem q88 : Good 88 t88 := ⟨a88, Tryd.f88, Tryd.func88, fun e => by have h := n88; rw [e] at h; simp at h, c88⟩
theorem n89 : (Tryd.f89.name == "runtime.NumGoroutine") = false := by kernel_rfl
theorem q89 : Good 89 t89 := ⟨a89, Tryd.f89, Tryd.func89, fun e => by have h := n89; rw [e] at h; simp at h, c89⟩
theorem n90 : (Tryd.f90.name == "runtime.NumGoroutine") = false := by kernel_rfl
theorem q90 : Good 90 t90 := ⟨a90, Tryd.f90, Tryd.func90, fun e => by have h := n90; rw [e] at h; simp at h, c90⟩
theorem n91 : (Tryd.f91.name == "runtime.NumGoroutine") = false := by kernel_rfl
theorem q91 : Good 91 t91 := ⟨a91, Tryd.f91, Tryd.func91, fun e => by have h := n91; rw [e] at h; simp at h, c91⟩
theorem n92 : (Tryd.f92.name == "runtime.NumGoroutine") = false := by kernel_rfl
theorem q92 : Good 92 t92 := ⟨a92, Tryd.f92, Tryd.func92, fun e => by have h := n92; rw [e] at h; simp at h, c92⟩
theorem n93 : (Tryd.f93.name == "runtime.NumGoroutine") = false := by kernel_rfl
theorem q93 : Good 93 t93 := ⟨a93, Tryd.f93, Tryd.func93, fun e => by have h := n93; rw [e] at h; simp at h, c93⟩
theorem n94 : (Tryd.f94.name == "runtime.NumGoroutine") = false := by kernel_rfl
theorem q94 : Good 94 t94 := ⟨a94, Tryd.f94, Tryd.func94, fun e => by have h := n94; rw [e] at h; simp at h, c94⟩
theorem n95 : (Tryd.f95.name == "runtime.NumGoroutine") = false := by kernel_rfl
theorem q95 : Good 95 t95 := ⟨a95, Tryd.f95, Tryd.func95, fun e => by have h := n95; rw [e] at h; simp at h, c95⟩
theorem n96 : (Tryd.f96.name == "runtime.NumGoroutine") = false := by kernel_rfl
theorem q96 : Good 96 t96 := ⟨a96, Tryd.f96, Tryd.func96, fun e => by have h := n96; rw [e] at h; simp at h, c96⟩
theorem n99 : (Tryd.f99.name == "runtime.NumGoroutine") = false := by kernel_rfl
theorem q99 : Good 99 t99 := ⟨a99, Tryd.f99, Tryd.func99, fun e => by have h := n99; rw [e] at h; simp at h, c99⟩
theorem n100 : (Tryd.f100.name == "runtime.NumGoroutine") = false := by kernel_rfl
theorem q100 : Good 100 t100 := ⟨a100, Tryd.f100, Tryd.func100, fun e => by have h := n100; rw [e] at h; simp at h, c100⟩
theorem n103 : (Tryd.f103.name == "runtime.NumGoroutine") = false := by kernel_rfl
theorem q103 : Good 103 t103 := ⟨a103, Tryd.f103, Tryd.func103, fun e => by have h := n103; rw [e] at h; simp at h, c103⟩
theorem n104 : (Tryd.f104.name == "runtime.NumGoroutine") = false := by kernel_rfl
theorem q104 : Good 104 t104 := ⟨a104, Tryd.f104, Tryd.func104, fun e => by have h := n104; rw [e] at h; simp at h, c104⟩
theorem n105 : (Tryd.f105.name == "runtime.NumGoroutine") = false := by kernel_rfl
theorem q105 : Good 105 t105 := ⟨a105, Tryd.f105, Tryd.func105, fun e => by have h := n105; rw [e] at h; simp at h, c105⟩
theorem n106 : (Tryd.f106.name == "runtime.NumGoroutine") = false := by kernel_rfl
theorem q106 : Good 106 t106 := ⟨a106, Tryd.f106, Tryd.func106, fun e => by have h := n106; rw [e] at h; simp at h, c106⟩
theorem n107 : (Tryd.f107.name == "runtime.NumGoroutine") = false := by kernel_rfl
theorem q107 : Good 107 t107 := ⟨a107, Tryd.f107, Tryd.func107, fun e => by have h := n107; rw [e] at h; simp at h, c107⟩
theorem n108 : (Tryd.f108.name == "runtime.NumGoroutine") = false := by kernel_rfl
theorem q108 : Good 108 t108 := ⟨a108, Tryd.f108, Tryd.func108, fun e => by have h := n108; rw [e] at h; simp at h, c108⟩
theorem n109 : (Tryd.f109.name == "runtime.NumGoroutine") = false := by kernel_rfl
theorem q109 : Good 109 t109 := ⟨a109, Tryd.f109, Tryd.func109, fun e => by have h := n109; rw [e] at h; simp at h, c109⟩
theorem n110 : (Tryd.f110.name == "runtime.NumGoroutine") = false := by kernel_rfl
theorem q110 : Good 110 t110 := ⟨a110, Tryd.f110, Tryd.func110, fun e => by have h := n110; rw [e] at h; simp at h, c110⟩
theorem good : AllAt Good 0 tbl := ⟨q3, q4, q5, q11, q12, q13, q14, q15, q16, q17, q18, q19, q20, q21, q22, q23, q24, q25, q26, q27, q28, q29, q30, q36, q37, q38, q39, q40, q41, q42, q43, q44, q45, q46, q47, q48, q49, q50, q51, q52, q53, q54, q55, q56, q60, q62, q63, q64, q65, q66, q67, q68, q69, q70, q71, q72, q73, q75, q76, q77, q78, q80, q81, q82, q83, q84, q85, q86, q88, q89, q90, q91, q92, q93, q94, q95, q96, q99, q100, q103, q104, q105, q106, q107, q108, q109, q110, trivial⟩
theorem kok : KOK Tryd.prog opts K := ⟨fun k tf h => allAt_get good k tf h, fun f p h => primAt_ok (prims_ok opts K) h, by kernel_rfl⟩
end Go.Proofs.YtdbffhgfjmhaiaaDoor
