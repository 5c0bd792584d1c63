/- The functions of this seat, compiled for the evaluator TM; each held against the translation by the kernel. By program. Condition: none. -/
import Derived.Test.YtmlhjdekfihdnaaRows
import Derived.Test.YtmlhjdekfihdnaaTmD
set_option maxRecDepth 100000
set_option linter.unusedVariables false
namespace Go.Proofs.Ytmlhjdekfihdnaa
open Go Go.TM
def opts : Opts := ⟨fun f => ([17, 18, 19, 20, 21, 22, 25, 28, 29, 30, 31, 32, 33, 36, 39, 40, 42, 43, 53, 54, 55, 56, 57, 58, 59] : List Nat).contains f, fun f => ([] : List Nat).contains f⟩
/-- pennant/pennantlaw22.GraphRights -/
def a4 : Ann := { slots := [0, 1, 2, 3, 6, 7, 8, 16, 31], lb := [3], mu := [(4, 2)], trunc := [], draws := [(9, ⟨[0, 0, 3, 0, 15, 0, 63, 127, 255, 511, 1023, 2047], [0, 1, 3, 5], [(2, [3], []), (4, [], []), (6, [], [7, 8]), (9, [], [10, 11])]⟩)] }
def t4L0 : TCode := (.seq (.seq (.region [⟨.mov (.loc 6), none, none⟩, ⟨.bin .lss (.reg 0) (.cst (.int .i64 32)), none, none⟩, ⟨.mov (.reg 1), none, none⟩, ⟨.mov (.loc 6), none, (some (2, true))⟩, ⟨.mov (.loc 5), none, (some (2, true))⟩, ⟨.len .sl (.reg 4), none, (some (2, true))⟩, ⟨.bin .lss (.reg 3) (.reg 5), none, (some (2, true))⟩, ⟨.pick (.reg 2) (.reg 6) (.cst (.bool false)), none, none⟩, ⟨.mov (.reg 7), none, none⟩, ⟨.mov (.loc 2), none, (some (8, true))⟩, ⟨.pick (.reg 8) (.reg 9) (.cst (.bool false)), (some 8), none⟩])
   (.cond (.loc 8)
    .skip
    (.exit 0)))
   (.seq (.block 1
    (.region [⟨.mov (.loc 5), none, none⟩, ⟨.mov (.loc 6), none, none⟩, ⟨.mov (.loc 6), none, none⟩, ⟨.indexAddrS 1 (.reg 0) (.reg 1), none, none⟩, ⟨.store 1 (.reg 3) (.reg 2), none, none⟩]))
   (.region [⟨.mov (.loc 6), none, none⟩, ⟨.bin .add (.reg 0) (.cst (.int .i64 1)), none, none⟩, ⟨.mov (.reg 1), (some 6), none⟩])))
def t4 : TFunc := ⟨3, 9, [.loc 4],
 (.seq (.region [⟨.boxL 3 (.loc 0), none, none⟩, ⟨.mov (.cst (.bool false)), (some 4), none⟩])
 (.seq (.seq (.region [⟨.loadN 3 (.loc 3), none, none⟩, ⟨.call true false 7 [(.reg 0)], none, none⟩, ⟨.un .not (.reg 1), none, none⟩, ⟨.mov (.reg 2), none, none⟩, ⟨.mov (.loc 1), none, (some (3, false))⟩, ⟨.len .sl (.reg 4), none, (some (3, false))⟩, ⟨.bin .gtr (.reg 5) (.cst (.int .i64 80)), none, (some (3, false))⟩, ⟨.pick (.reg 3) (.cst (.bool true)) (.reg 6), (some 7), none⟩])
 (.cond (.loc 7)
  (.seq (.region [⟨.call true false 8 [], none, none⟩, ⟨.mov (.reg 0), (some 4), none⟩])
  .ret)
  .skip))
 (.seq (.region [⟨.mov (.cst (.sl .nil [])), (some 5), none⟩])
 (.seq (.region [⟨.mov (.loc 5), none, none⟩, ⟨.mov (.loc 1), none, none⟩, ⟨.append true 1 8 3 (.reg 0) (.reg 1), none, none⟩, ⟨.mov (.reg 2), (some 5), none⟩])
 (.seq (.seq (.region [⟨.mov (.cst (.int .i64 0)), (some 6), none⟩])
 (.block 0
  (.loop t4L0)))
 (.seq (.draw [0, 1, 3, 5] [(2, [3], []), (4, [], []), (6, [], [7, 8]), (9, [], [10, 11])] [⟨.loadN 3 (.loc 3), none, none⟩, ⟨.mov (.loc 5), none, none⟩, ⟨.call true false 14 [(.reg 0), (.reg 1)], none, none⟩, ⟨.loadN 3 (.loc 3), none, none⟩, ⟨.call true false 10 [(.reg 3)], none, none⟩, ⟨.mov (.loc 5), none, none⟩, ⟨.call true false 12 [(.reg 4), (.reg 5)], none, none⟩, ⟨.eqB false .bool (.reg 2) (.reg 6), none, none⟩, ⟨.mov (.reg 7), none, none⟩, ⟨.call true false 8 [], none, (some (8, true))⟩, ⟨.pick (.reg 8) (.reg 9) (.cst (.bool false)), none, none⟩, ⟨.mov (.reg 10), (some 4), none⟩])
 .ret))))))⟩
theorem c4 : compFunc Try.prog opts a4 Try.f4 = some t4 := by kernel_rfl
/-- pennant/pennantlaw22.few -/
def a7 : Ann := { slots := [0, 1, 2], lb := [1], mu := [], trunc := [], draws := [] }
def t7 : TFunc := ⟨1, 3, [.loc 2],
 (.seq (.region [⟨.boxL 1 (.loc 0), none, none⟩, ⟨.mov (.cst (.bool false)), (some 2), none⟩])
 (.seq (.region [⟨.fieldAddr 0 (.loc 1), none, none⟩, ⟨.load1 (.reg 0), none, none⟩, ⟨.bin .leq (.reg 1) (.cst (.int .i64 70)), none, none⟩, ⟨.mov (.reg 2), none, none⟩, ⟨.fieldAddr 1 (.loc 1), none, (some (3, true))⟩, ⟨.load1 (.reg 4), none, (some (3, true))⟩, ⟨.len .sl (.reg 5), none, (some (3, true))⟩, ⟨.bin .leq (.reg 6) (.cst (.int .i64 400)), none, (some (3, true))⟩, ⟨.pick (.reg 3) (.reg 7) (.cst (.bool false)), none, none⟩, ⟨.mov (.reg 8), none, none⟩, ⟨.fieldAddr 2 (.loc 1), none, (some (9, true))⟩, ⟨.load1 (.reg 10), none, (some (9, true))⟩, ⟨.len .sl (.reg 11), none, (some (9, true))⟩, ⟨.bin .leq (.reg 12) (.cst (.int .i64 400)), none, (some (9, true))⟩, ⟨.pick (.reg 9) (.reg 13) (.cst (.bool false)), none, none⟩, ⟨.mov (.reg 14), (some 2), none⟩])
 .ret))⟩
theorem c7 : compFunc Try.prog opts a7 Try.f7 = some t7 := by kernel_rfl
/-- pennant/pennantlaw22.works -/
def a8 : Ann := { slots := [0, 1], lb := [], mu := [], trunc := [], draws := [(2, ⟨[0, 1, 3, 7, 15, 31, 63, 15, 143, 399, 1023, 2047, 4095, 8191, 16383, 32767, 65535, 131071, 262143, 524287, 1048575, 2097151, 4194303, 8388607, 16777215, 33554431, 67108863, 134217727, 268435455, 536870911, 1073741823, 2147483647, 4294967295, 8589934591, 17179869183, 34359738367], [0, 1, 2, 3, 4, 5, 6, 7, 8, 9, 10, 11, 12, 13, 14, 15, 16, 17, 18, 19, 20, 21, 22, 23, 24, 25, 26, 27, 28, 29, 30, 31], [(32, [], [33, 34, 35])]⟩)] }
def t8 : TFunc := ⟨0, 2, [.loc 0],
 (.seq (.region [⟨.mov (.cst (.bool false)), (some 0), none⟩])
 (.seq (.region [⟨.build [(.int .i64 0), (.int .i64 0)] [(0, 1, (.cst (.int .i64 32))), (1, 1, (.cst (.int .i64 33)))], none, none⟩, ⟨.lit false [(.int .i64 0), (.int .i64 0)] 1 [(0, (.reg 0))], none, none⟩, ⟨.build [(.int .i64 0), (.sl .nil []), (.sl .nil [])] [(0, 1, (.cst (.int .i64 34))), (1, 1, (.reg 1))], none, none⟩, ⟨.call true false 9 [(.reg 2)], none, none⟩, ⟨.mov (.reg 3), (some 1), none⟩])
 (.seq (.draw [0, 1, 2, 3, 4, 5, 6, 7, 8, 9, 10, 11, 12, 13, 14, 15, 16, 17, 18, 19, 20, 21, 22, 23, 24, 25, 26, 27, 28, 29, 30, 31] [(32, [], [33, 34, 35])] [⟨.mov (.loc 1), none, none⟩, ⟨.len .sl (.reg 0), none, none⟩, ⟨.bin .eql (.reg 1) (.cst (.int .i64 34)), none, none⟩, ⟨.mov (.reg 2), none, none⟩, ⟨.mov (.loc 1), none, (some (3, true))⟩, ⟨.indexAddrS 1 (.reg 4) (.cst (.int .i64 32)), none, (some (3, true))⟩, ⟨.load1 (.reg 5), none, (some (3, true))⟩, ⟨.mov (.loc 1), none, (some (3, true))⟩, ⟨.indexAddrS 1 (.reg 7) (.cst (.int .i64 33)), none, (some (3, true))⟩, ⟨.load1 (.reg 8), none, (some (3, true))⟩, ⟨.bin .neq (.reg 6) (.reg 9), none, (some (3, true))⟩, ⟨.pick (.reg 3) (.reg 10) (.cst (.bool false)), none, none⟩, ⟨.mov (.reg 11), none, none⟩, ⟨.mov (.loc 1), none, (some (12, true))⟩, ⟨.indexAddrS 1 (.reg 13) (.cst (.int .i64 32)), none, (some (12, true))⟩, ⟨.load1 (.reg 14), none, (some (12, true))⟩, ⟨.bin .geq (.reg 15) (.cst (.int .i64 1)), none, (some (12, true))⟩, ⟨.pick (.reg 12) (.reg 16) (.cst (.bool false)), none, none⟩, ⟨.mov (.reg 17), none, none⟩, ⟨.mov (.loc 1), none, (some (18, true))⟩, ⟨.indexAddrS 1 (.reg 19) (.cst (.int .i64 33)), none, (some (18, true))⟩, ⟨.load1 (.reg 20), none, (some (18, true))⟩, ⟨.bin .geq (.reg 21) (.cst (.int .i64 1)), none, (some (18, true))⟩, ⟨.pick (.reg 18) (.reg 22) (.cst (.bool false)), none, none⟩, ⟨.mov (.reg 23), none, none⟩, ⟨.mov (.loc 1), none, (some (24, true))⟩, ⟨.indexAddrS 1 (.reg 25) (.cst (.int .i64 5)), none, (some (24, true))⟩, ⟨.load1 (.reg 26), none, (some (24, true))⟩, ⟨.bin .eql (.reg 27) (.cst (.int .i64 5)), none, (some (24, true))⟩, ⟨.pick (.reg 24) (.reg 28) (.cst (.bool false)), none, none⟩, ⟨.mov (.reg 29), none, none⟩, ⟨.build [(.int .i64 0), (.sl .nil []), (.sl .nil [])] [(0, 1, (.cst (.int .i64 34)))], none, (some (30, true))⟩, ⟨.call true false 14 [(.reg 31), (.cst (.sl .nil []))], none, (some (30, true))⟩, ⟨.un .not (.reg 32), none, (some (30, true))⟩, ⟨.pick (.reg 30) (.reg 33) (.cst (.bool false)), none, none⟩, ⟨.mov (.reg 34), (some 0), none⟩])
 .ret)))⟩
theorem c8 : compFunc Try.prog opts a8 Try.f8 = some t8 := by kernel_rfl
/-- pennant/graph.Color -/
def a9 : Ann := { slots := [0, 1, 2, 3, 4, 6, 8, 11, 16, 17, 28, 29, 30, 31, 45, 46, 47], lb := [1], mu := [], trunc := [], draws := [(17, ⟨[0, 0, 0, 6, 15], [0, 1, 2], [(3, [0], []), (4, [], [])]⟩)] }
def t9L0 : TCode := (.seq (.region [⟨.bin .lss (.loc 12) (.loc 11), (some 13), none⟩])
      (.seq (.cond (.loc 13)
       .skip
       (.exit 2))
      (.seq (.block 3
       (.seq (.region [⟨.indexAddrS 1 (.loc 10) (.loc 12), none, none⟩, ⟨.load1 (.reg 0), none, none⟩, ⟨.mov (.reg 1), (some 5), none⟩])
       (.region [⟨.load1 (.loc 3), none, none⟩, ⟨.nilCheck (.reg 0), none, none⟩, ⟨.fieldAddr 6 (.reg 1), none, none⟩, ⟨.load1 (.reg 2), none, none⟩, ⟨.mov (.loc 5), none, none⟩, ⟨.mov (.loc 4), none, none⟩, ⟨.indexAddrS 1 (.reg 3) (.reg 4), none, none⟩, ⟨.store 1 (.reg 6) (.reg 5), none, none⟩])))
      (.region [⟨.bin .add (.loc 12) (.cst (.int .i64 1)), none, none⟩, ⟨.mov (.reg 0), (some 12), none⟩]))))
def t9L1 : TCode := (.seq (.region [⟨.bin .lss (.loc 8) (.cst (.int .i64 32)), (some 9), none⟩])
   (.seq (.cond (.loc 9)
    .skip
    (.exit 0))
   (.seq (.block 1
    (.seq (.region [⟨.mov (.loc 8), none, none⟩, ⟨.mov (.reg 0), (some 4), none⟩])
    (.seq (.region [⟨.load1 (.loc 3), none, none⟩, ⟨.nilCheck (.reg 0), none, none⟩, ⟨.fieldAddr 6 (.reg 1), none, none⟩, ⟨.load1 (.reg 2), none, none⟩, ⟨.mov (.loc 4), none, none⟩, ⟨.mov (.loc 4), none, none⟩, ⟨.indexAddrS 1 (.reg 3) (.reg 4), none, none⟩, ⟨.store 1 (.reg 6) (.reg 5), none, none⟩])
    (.seq (.region [⟨.load1 (.loc 3), none, none⟩, ⟨.mov (.loc 4), none, none⟩, ⟨.call false false 19 [(.reg 0), (.reg 1)], (some 10), none⟩, ⟨.len .sl (.reg 2), (some 11), none⟩, ⟨.mov (.cst (.int .i64 0)), (some 12), none⟩])
    (.block 2
     (.loop t9L0))))))
   (.region [⟨.bin .add (.loc 8) (.cst (.int .i64 1)), none, none⟩, ⟨.mov (.reg 0), (some 8), none⟩]))))
def t9 : TFunc := ⟨1, 17, [.loc 2],
 (.seq (.region [⟨.boxL 1 (.loc 0), none, none⟩, ⟨.mov (.cst (.sl .nil [])), (some 2), none⟩])
 (.seq (.seq (.region [⟨.loadN 3 (.loc 1), none, none⟩, ⟨.call true false 16 [(.reg 0)], none, none⟩, ⟨.un .not (.reg 1), (some 7), none⟩])
 (.cond (.loc 7)
  (.seq (.region [⟨.mov (.cst (.sl .nil [])), (some 2), none⟩])
  .ret)
  .skip))
 (.seq (.region [⟨.loadN 3 (.loc 1), none, none⟩, ⟨.call false false 17 [(.reg 0)], none, none⟩, ⟨.allocH 40 [.nilp], (some 3), none⟩, ⟨.store 1 (.reg 2) (.reg 1), none, none⟩])
 (.seq (.region [⟨.load1 (.loc 3), none, none⟩, ⟨.call false false 18 [(.reg 0)], none, none⟩])
 (.seq (.seq (.region [⟨.mov (.cst (.int .i64 0)), (some 8), none⟩])
 (.block 0
  (.loop t9L1)))
 (.seq (.seq (.region [⟨.load1 (.loc 3), none, none⟩, ⟨.call false false 21 [(.reg 0)], none, none⟩, ⟨.call false false 20 [(.reg 1)], (some 14), none⟩])
 (.block 4
  (.rangeFunc (.loc 14) [15, 16]
   (.region [⟨.mov (.loc 16), (some 6), none⟩])
   (.block 5
    (.draw [0, 1, 2] [(3, [0], []), (4, [], [])] [⟨.load1 (.loc 3), none, none⟩, ⟨.load1 (.loc 3), none, none⟩, ⟨.mov (.loc 6), none, none⟩, ⟨.call false false 19 [(.reg 1), (.reg 2)], none, none⟩, ⟨.call false false 22 [(.reg 0), (.reg 3)], none, none⟩])))))
 (.seq (.region [⟨.load1 (.loc 3), none, none⟩, ⟨.nilCheck (.reg 0), none, none⟩, ⟨.fieldAddr 6 (.reg 1), none, none⟩, ⟨.load1 (.reg 2), none, none⟩, ⟨.mov (.reg 3), (some 2), none⟩])
 .ret)))))))⟩
theorem c9 : compFunc Try.prog opts a9 Try.f9 = some t9 := by kernel_rfl
/-- pennant/pennantlaw22.plain -/
def a10 : Ann := { slots := [0, 1, 2], lb := [2, 1], mu := [], trunc := [], draws := [] }
def t10 : TFunc := ⟨1, 3, [.cell 2 3 true],
 (.seq (.region [⟨.boxL 1 (.loc 0), none, none⟩, ⟨.allocL 2 [(.int .i64 0), (.sl .nil []), (.sl .nil [])], none, none⟩])
 (.seq (.region [⟨.fieldAddr 0 (.loc 1), none, none⟩, ⟨.load1 (.reg 0), none, none⟩, ⟨.fieldAddr 1 (.loc 1), none, none⟩, ⟨.load1 (.reg 2), none, none⟩, ⟨.fieldAddr 2 (.loc 1), none, none⟩, ⟨.load1 (.reg 4), none, none⟩, ⟨.build [(.int .i64 0), (.sl .nil []), (.sl .nil [])] [(0, 1, (.reg 1)), (1, 1, (.reg 3)), (2, 1, (.reg 5))], none, none⟩, ⟨.store 3 (.loc 2) (.reg 6), none, none⟩])
 .ret))⟩
theorem c10 : compFunc Try.prog opts a10 Try.f10 = some t10 := by kernel_rfl
/-- pennant/pennantref22.May -/
def a11 : Ann := { slots := [0, 1, 2, 3, 4, 5, 6, 18, 53], lb := [1], mu := [], trunc := [], draws := [] }
def t11L0 : TCode := (.seq (.seq (.region [⟨.mov (.loc 4), none, none⟩, ⟨.mov (.loc 3), none, none⟩, ⟨.len .sl (.reg 1), none, none⟩, ⟨.bin .lss (.reg 0) (.reg 2), (some 7), none⟩])
   (.cond (.loc 7)
    .skip
    (.exit 0)))
   (.seq (.block 1
    (.seq (.region [⟨.mov (.loc 3), none, none⟩, ⟨.mov (.loc 4), none, none⟩, ⟨.indexAddrS 2 (.reg 0) (.reg 1), none, none⟩, ⟨.indexAddrA 2 1 (.reg 2) (.cst (.int .i64 0)), none, none⟩, ⟨.load1 (.reg 3), none, none⟩, ⟨.mov (.reg 4), (some 5), none⟩])
    (.seq (.region [⟨.mov (.loc 3), none, none⟩, ⟨.mov (.loc 4), none, none⟩, ⟨.indexAddrS 2 (.reg 0) (.reg 1), none, none⟩, ⟨.indexAddrA 2 1 (.reg 2) (.cst (.int .i64 1)), none, none⟩, ⟨.load1 (.reg 3), none, none⟩, ⟨.mov (.reg 4), (some 6), none⟩])
    (.seq (.region [⟨.mov (.loc 5), none, none⟩, ⟨.bin .lss (.reg 0) (.cst (.int .i64 1)), none, none⟩, ⟨.mov (.reg 1), none, none⟩, ⟨.mov (.loc 6), none, (some (2, false))⟩, ⟨.bin .lss (.reg 3) (.cst (.int .i64 1)), none, (some (2, false))⟩, ⟨.pick (.reg 2) (.cst (.bool true)) (.reg 4), none, none⟩, ⟨.mov (.reg 5), none, none⟩, ⟨.mov (.loc 5), none, (some (6, false))⟩, ⟨.fieldAddr 0 (.loc 1), none, (some (6, false))⟩, ⟨.load1 (.reg 8), none, (some (6, false))⟩, ⟨.bin .geq (.reg 7) (.reg 9), none, (some (6, false))⟩, ⟨.pick (.reg 6) (.cst (.bool true)) (.reg 10), none, none⟩, ⟨.mov (.reg 11), none, none⟩, ⟨.mov (.loc 6), none, (some (12, false))⟩, ⟨.fieldAddr 0 (.loc 1), none, (some (12, false))⟩, ⟨.load1 (.reg 14), none, (some (12, false))⟩, ⟨.bin .geq (.reg 13) (.reg 15), none, (some (12, false))⟩, ⟨.pick (.reg 12) (.cst (.bool true)) (.reg 16), none, none⟩, ⟨.mov (.reg 17), none, none⟩, ⟨.mov (.loc 5), none, (some (18, false))⟩, ⟨.mov (.loc 6), none, (some (18, false))⟩, ⟨.bin .eql (.reg 19) (.reg 20), none, (some (18, false))⟩, ⟨.pick (.reg 18) (.cst (.bool true)) (.reg 21), (some 8), none⟩])
    (.cond (.loc 8)
     (.seq (.region [⟨.mov (.cst (.bool false)), (some 2), none⟩])
     .ret)
     .skip)))))
   (.region [⟨.mov (.loc 4), none, none⟩, ⟨.bin .add (.reg 0) (.cst (.int .i64 1)), none, none⟩, ⟨.mov (.reg 1), (some 4), none⟩])))
def t11 : TFunc := ⟨1, 9, [.loc 2],
 (.seq (.region [⟨.boxL 1 (.loc 0), none, none⟩, ⟨.mov (.cst (.bool false)), (some 2), none⟩])
 (.seq (.region [⟨.mov (.cst (.sl .nil [])), (some 3), none⟩])
 (.seq (.region [⟨.mov (.loc 3), none, none⟩, ⟨.fieldAddr 1 (.loc 1), none, none⟩, ⟨.load1 (.reg 1), none, none⟩, ⟨.append false 2 16 37 (.reg 0) (.reg 2), none, none⟩, ⟨.mov (.reg 3), (some 3), none⟩])
 (.seq (.region [⟨.mov (.loc 3), none, none⟩, ⟨.fieldAddr 2 (.loc 1), none, none⟩, ⟨.load1 (.reg 1), none, none⟩, ⟨.append false 2 16 37 (.reg 0) (.reg 2), none, none⟩, ⟨.mov (.reg 3), (some 3), none⟩])
 (.seq (.seq (.region [⟨.mov (.cst (.int .i64 0)), (some 4), none⟩])
 (.block 0
  (.loop t11L0)))
 (.seq (.region [⟨.fieldAddr 0 (.loc 1), none, none⟩, ⟨.load1 (.reg 0), none, none⟩, ⟨.bin .geq (.reg 1) (.cst (.int .i64 32)), none, none⟩, ⟨.mov (.reg 2), (some 2), none⟩])
 .ret))))))⟩
theorem c11 : compFunc Try.prog opts a11 Try.f11 = some t11 := by kernel_rfl
/-- pennant/pennantref22.Right -/
def a12 : Ann := { slots := [0, 1, 2, 4, 5, 6, 7, 17, 21, 58, 63, 89], lb := [2], mu := [], trunc := [], draws := [] }
def t12L0 : TCode := (.seq (.seq (.region [⟨.mov (.loc 5), none, none⟩, ⟨.fieldAddr 1 (.loc 2), none, none⟩, ⟨.load1 (.reg 1), none, none⟩, ⟨.len .sl (.reg 2), none, none⟩, ⟨.bin .lss (.reg 0) (.reg 3), (some 10), none⟩])
   (.cond (.loc 10)
    .skip
    (.exit 2)))
   (.seq (.block 3
    (.seq (.region [⟨.mov (.loc 1), none, none⟩, ⟨.fieldAddr 1 (.loc 2), none, none⟩, ⟨.load1 (.reg 1), none, none⟩, ⟨.mov (.loc 5), none, none⟩, ⟨.indexAddrS 2 (.reg 2) (.reg 3), none, none⟩, ⟨.indexAddrA 2 1 (.reg 4) (.cst (.int .i64 0)), none, none⟩, ⟨.load1 (.reg 5), none, none⟩, ⟨.indexAddrS 1 (.reg 0) (.reg 6), none, none⟩, ⟨.load1 (.reg 7), none, none⟩, ⟨.mov (.reg 8), (some 6), none⟩])
    (.seq (.region [⟨.mov (.loc 6), none, none⟩, ⟨.mov (.loc 1), none, none⟩, ⟨.fieldAddr 1 (.loc 2), none, none⟩, ⟨.load1 (.reg 2), none, none⟩, ⟨.mov (.loc 5), none, none⟩, ⟨.indexAddrS 2 (.reg 3) (.reg 4), none, none⟩, ⟨.indexAddrA 2 1 (.reg 5) (.cst (.int .i64 1)), none, none⟩, ⟨.load1 (.reg 6), none, none⟩, ⟨.indexAddrS 1 (.reg 1) (.reg 7), none, none⟩, ⟨.load1 (.reg 8), none, none⟩, ⟨.bin .eql (.reg 0) (.reg 9), none, none⟩, ⟨.mov (.reg 10), none, none⟩, ⟨.mov (.loc 6), none, (some (11, true))⟩, ⟨.bin .neq (.reg 12) (.cst (.int .i64 (-1))), none, (some (11, true))⟩, ⟨.pick (.reg 11) (.reg 13) (.cst (.bool false)), (some 11), none⟩])
    (.cond (.loc 11)
     (.seq (.region [⟨.mov (.cst (.bool false)), (some 3), none⟩])
     .ret)
     .skip))))
   (.region [⟨.mov (.loc 5), none, none⟩, ⟨.bin .add (.reg 0) (.cst (.int .i64 1)), none, none⟩, ⟨.mov (.reg 1), (some 5), none⟩])))
def t12L1 : TCode := (.seq (.seq (.region [⟨.mov (.loc 4), none, none⟩, ⟨.fieldAddr 0 (.loc 2), none, none⟩, ⟨.load1 (.reg 1), none, none⟩, ⟨.bin .lss (.reg 0) (.reg 2), (some 8), none⟩])
   (.cond (.loc 8)
    .skip
    (.exit 0)))
   (.seq (.block 1
    (.seq (.region [⟨.mov (.loc 4), none, none⟩, ⟨.bin .lss (.reg 0) (.cst (.int .i64 32)), none, none⟩, ⟨.mov (.reg 1), none, none⟩, ⟨.mov (.loc 1), none, (some (2, true))⟩, ⟨.mov (.loc 4), none, (some (2, true))⟩, ⟨.indexAddrS 1 (.reg 3) (.reg 4), none, (some (2, true))⟩, ⟨.load1 (.reg 5), none, (some (2, true))⟩, ⟨.mov (.loc 4), none, (some (2, true))⟩, ⟨.bin .neq (.reg 6) (.reg 7), none, (some (2, true))⟩, ⟨.pick (.reg 2) (.reg 8) (.cst (.bool false)), none, none⟩, ⟨.mov (.reg 9), none, none⟩, ⟨.mov (.loc 4), none, (some (10, false))⟩, ⟨.bin .geq (.reg 11) (.cst (.int .i64 32)), none, (some (10, false))⟩, ⟨.mov (.reg 12), none, (some (10, false))⟩, ⟨.mov (.loc 1), none, (some (13, true))⟩, ⟨.mov (.loc 4), none, (some (13, true))⟩, ⟨.indexAddrS 1 (.reg 14) (.reg 15), none, (some (13, true))⟩, ⟨.load1 (.reg 16), none, (some (13, true))⟩, ⟨.bin .neq (.reg 17) (.cst (.int .i64 (-1))), none, (some (13, true))⟩, ⟨.pick (.reg 13) (.reg 18) (.cst (.bool false)), none, (some (10, false))⟩, ⟨.mov (.reg 19), none, (some (10, false))⟩, ⟨.mov (.loc 1), none, (some (20, true))⟩, ⟨.mov (.loc 4), none, (some (20, true))⟩, ⟨.indexAddrS 1 (.reg 21) (.reg 22), none, (some (20, true))⟩, ⟨.load1 (.reg 23), none, (some (20, true))⟩, ⟨.bin .lss (.reg 24) (.cst (.int .i64 1)), none, (some (20, true))⟩, ⟨.mov (.reg 25), none, (some (20, true))⟩, ⟨.mov (.loc 1), none, (some (26, false))⟩, ⟨.mov (.loc 4), none, (some (26, false))⟩, ⟨.indexAddrS 1 (.reg 27) (.reg 28), none, (some (26, false))⟩, ⟨.load1 (.reg 29), none, (some (26, false))⟩, ⟨.bin .gtr (.reg 30) (.cst (.int .i64 24)), none, (some (26, false))⟩, ⟨.pick (.reg 26) (.cst (.bool true)) (.reg 31), none, (some (20, true))⟩, ⟨.pick (.reg 20) (.reg 32) (.cst (.bool false)), none, (some (10, false))⟩, ⟨.pick (.reg 10) (.cst (.bool true)) (.reg 33), (some 9), none⟩])
    (.cond (.loc 9)
     (.seq (.region [⟨.mov (.cst (.bool false)), (some 3), none⟩])
     .ret)
     .skip)))
   (.region [⟨.mov (.loc 4), none, none⟩, ⟨.bin .add (.reg 0) (.cst (.int .i64 1)), none, none⟩, ⟨.mov (.reg 1), (some 4), none⟩])))
def t12 : TFunc := ⟨2, 12, [.loc 3],
 (.seq (.region [⟨.boxL 2 (.loc 0), none, none⟩, ⟨.mov (.cst (.bool false)), (some 3), none⟩])
 (.seq (.seq (.region [⟨.loadN 3 (.loc 2), none, none⟩, ⟨.call true false 11 [(.reg 0)], none, none⟩, ⟨.un .not (.reg 1), none, none⟩, ⟨.mov (.reg 2), none, none⟩, ⟨.mov (.loc 1), none, (some (3, false))⟩, ⟨.len .sl (.reg 4), none, (some (3, false))⟩, ⟨.fieldAddr 0 (.loc 2), none, (some (3, false))⟩, ⟨.load1 (.reg 6), none, (some (3, false))⟩, ⟨.bin .neq (.reg 5) (.reg 7), none, (some (3, false))⟩, ⟨.pick (.reg 3) (.cst (.bool true)) (.reg 8), (some 7), none⟩])
 (.cond (.loc 7)
  (.seq (.region [⟨.mov (.cst (.bool false)), (some 3), none⟩])
  .ret)
  .skip))
 (.seq (.seq (.region [⟨.mov (.cst (.int .i64 0)), (some 4), none⟩])
 (.block 0
  (.loop t12L1)))
 (.seq (.seq (.region [⟨.mov (.cst (.int .i64 0)), (some 5), none⟩])
 (.block 2
  (.loop t12L0)))
 (.seq (.region [⟨.mov (.cst (.bool true)), (some 3), none⟩])
 .ret)))))⟩
theorem c12 : compFunc Try.prog opts a12 Try.f12 = some t12 := by kernel_rfl
/-- pennant/graph.Right -/
def a14 : Ann := { slots := [0, 1, 2, 3, 4, 5, 6, 16, 17, 18, 19, 20, 43], lb := [2], mu := [], trunc := [], draws := [] }
def t14L0 : TCode := (.seq (.region [⟨.bin .lss (.loc 10) (.loc 9), (some 11), none⟩])
   (.seq (.cond (.loc 11)
    .skip
    (.exit 0))
   (.seq (.block 1
    (.seq (.region [⟨.mov (.loc 10), none, none⟩, ⟨.indexAddrS 1 (.loc 8) (.loc 10), none, none⟩, ⟨.load1 (.reg 1), none, none⟩, ⟨.mov (.reg 0), (some 5), none⟩, ⟨.mov (.reg 2), (some 6), none⟩])
    (.seq (.region [⟨.mov (.loc 5), none, none⟩, ⟨.bin .lss (.reg 0) (.cst (.int .i64 32)), none, none⟩, ⟨.mov (.reg 1), none, none⟩, ⟨.mov (.loc 6), none, (some (2, true))⟩, ⟨.mov (.loc 5), none, (some (2, true))⟩, ⟨.bin .neq (.reg 3) (.reg 4), none, (some (2, true))⟩, ⟨.pick (.reg 2) (.reg 5) (.cst (.bool false)), none, none⟩, ⟨.mov (.reg 6), none, none⟩, ⟨.mov (.loc 5), none, (some (7, false))⟩, ⟨.bin .geq (.reg 8) (.cst (.int .i64 32)), none, (some (7, false))⟩, ⟨.mov (.reg 9), none, (some (7, false))⟩, ⟨.mov (.loc 6), none, (some (10, true))⟩, ⟨.bin .neq (.reg 11) (.cst (.int .i64 (-1))), none, (some (10, true))⟩, ⟨.pick (.reg 10) (.reg 12) (.cst (.bool false)), none, (some (7, false))⟩, ⟨.mov (.reg 13), none, (some (7, false))⟩, ⟨.mov (.loc 6), none, (some (14, true))⟩, ⟨.call true false 24 [(.reg 15)], none, (some (14, true))⟩, ⟨.un .not (.reg 16), none, (some (14, true))⟩, ⟨.pick (.reg 14) (.reg 17) (.cst (.bool false)), none, (some (7, false))⟩, ⟨.pick (.reg 7) (.cst (.bool true)) (.reg 18), (some 12), none⟩])
    (.cond (.loc 12)
     (.seq (.region [⟨.mov (.cst (.bool false)), (some 4), none⟩])
     .ret)
     .skip))))
   (.region [⟨.bin .add (.loc 10) (.cst (.int .i64 1)), none, none⟩, ⟨.mov (.reg 0), (some 10), none⟩]))))
def t14 : TFunc := ⟨2, 13, [.loc 4],
 (.seq (.region [⟨.boxL 2 (.loc 0), none, none⟩, ⟨.boxH 28 (.loc 1), (some 3), none⟩, ⟨.mov (.cst (.bool false)), (some 4), none⟩])
 (.seq (.seq (.region [⟨.loadN 3 (.loc 2), none, none⟩, ⟨.call true false 16 [(.reg 0)], none, none⟩, ⟨.un .not (.reg 1), none, none⟩, ⟨.mov (.reg 2), none, none⟩, ⟨.load1 (.loc 3), none, (some (3, false))⟩, ⟨.len .sl (.reg 4), none, (some (3, false))⟩, ⟨.fieldAddr 0 (.loc 2), none, (some (3, false))⟩, ⟨.load1 (.reg 6), none, (some (3, false))⟩, ⟨.bin .neq (.reg 5) (.reg 7), none, (some (3, false))⟩, ⟨.pick (.reg 3) (.cst (.bool true)) (.reg 8), (some 7), none⟩])
 (.cond (.loc 7)
  (.seq (.region [⟨.mov (.cst (.bool false)), (some 4), none⟩])
  .ret)
  .skip))
 (.seq (.seq (.region [⟨.load1 (.loc 3), (some 8), none⟩, ⟨.len .sl (.reg 0), (some 9), none⟩, ⟨.mov (.cst (.int .i64 0)), (some 10), none⟩])
 (.block 0
  (.loop t14L0)))
 (.seq (.region [⟨.fieldAddr 1 (.loc 2), none, none⟩, ⟨.load1 (.reg 0), none, none⟩, ⟨.mkFn 26 [] [(.loc 3)], none, none⟩, ⟨.call false false 25 [(.reg 1), (.reg 2)], none, none⟩, ⟨.un .not (.reg 3), none, none⟩, ⟨.mov (.reg 4), (some 4), none⟩])
 .ret))))⟩
theorem c14 : compFunc Try.prog opts a14 Try.f14 = some t14 := by kernel_rfl
/-- (pennant/graph.Graph).may -/
def a16 : Ann := { slots := [0, 1, 2, 3], lb := [], mu := [], trunc := [], draws := [] }
def t16 : TFunc := ⟨1, 4, [.loc 2],
 (.seq (.region [⟨.boxH 25 (.loc 0), (some 1), none⟩, ⟨.mov (.cst (.bool false)), (some 2), none⟩])
 (.seq (.region [⟨.mkFn 27 [] [(.loc 1)], none, none⟩, ⟨.mov (.reg 0), (some 3), none⟩])
 (.seq (.region [⟨.fieldAddr 0 (.loc 1), none, none⟩, ⟨.load1 (.reg 0), none, none⟩, ⟨.bin .geq (.reg 1) (.cst (.int .i64 32)), none, none⟩, ⟨.mov (.reg 2), none, none⟩, ⟨.fieldAddr 1 (.loc 1), none, (some (3, true))⟩, ⟨.load1 (.reg 4), none, (some (3, true))⟩, ⟨.mov (.loc 3), none, (some (3, true))⟩, ⟨.call false false 25 [(.reg 5), (.reg 6)], none, (some (3, true))⟩, ⟨.un .not (.reg 7), none, (some (3, true))⟩, ⟨.pick (.reg 3) (.reg 8) (.cst (.bool false)), none, none⟩, ⟨.mov (.reg 9), none, none⟩, ⟨.fieldAddr 2 (.loc 1), none, (some (10, true))⟩, ⟨.load1 (.reg 11), none, (some (10, true))⟩, ⟨.mov (.loc 3), none, (some (10, true))⟩, ⟨.call false false 25 [(.reg 12), (.reg 13)], none, (some (10, true))⟩, ⟨.un .not (.reg 14), none, (some (10, true))⟩, ⟨.pick (.reg 10) (.reg 15) (.cst (.bool false)), none, none⟩, ⟨.mov (.reg 16), (some 2), none⟩])
 .ret)))⟩
theorem c16 : compFunc Try.prog opts a16 Try.f16 = some t16 := by kernel_rfl
/-- pennant/graph.laid -/
def a17 : Ann := { slots := [0, 1, 2, 3, 4, 6, 14, 15, 16, 50, 51, 52, 53, 73], lb := [6, 1], mu := [(5, 23)], trunc := [], draws := [(1, ⟨[0, 0, 2, 6, 15, 31, 63], [0, 1, 2, 3, 4, 5, 6], []⟩), (5, ⟨[0, 0, 0, 0, 8, 24, 56, 0, 128, 504, 0, 1024, 3072, 7168, 0, 16384, 65528, 0, 131072, 393216, 917504, 0, 2097152, 8388600, 16777209, 33554425, 67108857, 134217723, 268435451, 536870907, 1073741823, 2147483647, 4294967295], [0, 1, 2, 3, 4, 5, 6, 7, 8, 10, 11, 12, 13, 14, 15, 17, 18, 19, 20, 21, 22], [(9, [13, 20], []), (16, [20], []), (23, [], [24, 25]), (26, [], [27, 28]), (29, [], [30, 31]), (32, [], [])]⟩), (12, ⟨[0, 1, 3, 7, 0, 16, 63, 127, 0, 256, 1023, 2047, 4095], [0, 1, 2, 3, 4, 5, 6, 7, 8, 9, 10, 11], [(12, [], [])]⟩), (13, ⟨[0, 1, 3, 7, 0, 16, 63, 127, 0, 256, 1023, 2047, 4095], [0, 1, 2, 3, 4, 5, 6, 7, 8, 9, 10, 11], [(12, [], [])]⟩)] }
def t17L0 : TCode := (.seq (.region [⟨.bin .lss (.loc 11) (.loc 10), (some 12), none⟩])
   (.seq (.cond (.loc 12)
    .skip
    (.exit 2))
   (.seq (.block 3
    (.seq (.region [⟨.indexAddrS 2 (.loc 9) (.loc 11), none, none⟩, ⟨.loadN 2 (.reg 0), none, none⟩, ⟨.allocL 5 [(.int .i64 0), (.int .i64 0)], none, none⟩, ⟨.store 2 (.reg 2) (.reg 1), none, none⟩])
    (.seq (.region [⟨.indexAddrA 2 1 (.loc 5) (.cst (.int .i64 0)), none, none⟩, ⟨.load1 (.reg 0), none, none⟩, ⟨.call true false 24 [(.reg 1)], none, none⟩, ⟨.mov (.reg 2), none, none⟩, ⟨.indexAddrA 2 1 (.loc 5) (.cst (.int .i64 0)), none, (some (3, false))⟩, ⟨.load1 (.reg 4), none, (some (3, false))⟩, ⟨.bin .geq (.reg 5) (.cst (.int .i64 32)), none, (some (3, false))⟩, ⟨.pick (.reg 3) (.cst (.bool true)) (.reg 6), none, none⟩, ⟨.mov (.reg 7), none, none⟩, ⟨.indexAddrA 2 1 (.loc 5) (.cst (.int .i64 1)), none, (some (8, true))⟩, ⟨.load1 (.reg 9), none, (some (8, true))⟩, ⟨.call true false 24 [(.reg 10)], none, (some (8, true))⟩, ⟨.mov (.reg 11), none, (some (8, true))⟩, ⟨.indexAddrA 2 1 (.loc 5) (.cst (.int .i64 1)), none, (some (12, false))⟩, ⟨.load1 (.reg 13), none, (some (12, false))⟩, ⟨.bin .geq (.reg 14) (.cst (.int .i64 32)), none, (some (12, false))⟩, ⟨.pick (.reg 12) (.cst (.bool true)) (.reg 15), none, (some (8, true))⟩, ⟨.pick (.reg 8) (.reg 16) (.cst (.bool false)), (some 13), none⟩])
    (.cond (.loc 13)
     (.seq (.region [⟨.mov (.loc 3), none, none⟩, ⟨.indexAddrA 2 1 (.loc 5) (.cst (.int .i64 0)), none, none⟩, ⟨.load1 (.reg 1), none, none⟩, ⟨.indexAddrA 2 1 (.loc 5) (.cst (.int .i64 1)), none, none⟩, ⟨.load1 (.reg 3), none, none⟩, ⟨.call false false 28 [(.reg 0), (.reg 2), (.reg 4)], none, none⟩])
     (.seq (.draw [0, 1, 2, 3, 4, 5, 6, 7, 8, 9, 10, 11] [(12, [], [])] [⟨.mov (.loc 3), none, none⟩, ⟨.nilCheck (.reg 0), none, none⟩, ⟨.fieldAddr 4 (.reg 1), none, none⟩, ⟨.load1 (.reg 2), none, none⟩, ⟨.indexAddrA 2 1 (.loc 5) (.cst (.int .i64 0)), none, none⟩, ⟨.load1 (.reg 4), none, none⟩, ⟨.indexAddrS 1 (.reg 3) (.reg 5), none, none⟩, ⟨.load1 (.reg 6), none, none⟩, ⟨.indexAddrA 2 1 (.loc 5) (.cst (.int .i64 1)), none, none⟩, ⟨.load1 (.reg 8), none, none⟩, ⟨.lookup (.leaf .int) (.int .i64 0) false (.reg 7) (.reg 9), none, none⟩, ⟨.bin .add (.reg 10) (.cst (.int .i64 1)), none, none⟩, ⟨.update (.leaf .int) (.reg 7) (.reg 9) (.reg 11), none, none⟩])
     (.draw [0, 1, 2, 3, 4, 5, 6, 7, 8, 9, 10, 11] [(12, [], [])] [⟨.mov (.loc 3), none, none⟩, ⟨.nilCheck (.reg 0), none, none⟩, ⟨.fieldAddr 4 (.reg 1), none, none⟩, ⟨.load1 (.reg 2), none, none⟩, ⟨.indexAddrA 2 1 (.loc 5) (.cst (.int .i64 1)), none, none⟩, ⟨.load1 (.reg 4), none, none⟩, ⟨.indexAddrS 1 (.reg 3) (.reg 5), none, none⟩, ⟨.load1 (.reg 6), none, none⟩, ⟨.indexAddrA 2 1 (.loc 5) (.cst (.int .i64 0)), none, none⟩, ⟨.load1 (.reg 8), none, none⟩, ⟨.lookup (.leaf .int) (.int .i64 0) false (.reg 7) (.reg 9), none, none⟩, ⟨.bin .add (.reg 10) (.cst (.int .i64 1)), none, none⟩, ⟨.update (.leaf .int) (.reg 7) (.reg 9) (.reg 11), none, none⟩])))
     .skip))))
   (.region [⟨.bin .add (.loc 11) (.cst (.int .i64 1)), none, none⟩, ⟨.mov (.reg 0), (some 11), none⟩]))))
def t17L1 : TCode := (.seq (.region [⟨.bin .lss (.loc 7) (.loc 6), (some 8), none⟩])
   (.seq (.cond (.loc 8)
    .skip
    (.exit 0))
   (.seq (.block 1
    (.seq (.region [⟨.mov (.loc 7), none, none⟩, ⟨.mov (.reg 0), (some 4), none⟩])
    (.draw [0, 1, 2, 3, 4, 5, 6, 7, 8, 10, 11, 12, 13, 14, 15, 17, 18, 19, 20, 21, 22] [(9, [13, 20], []), (16, [20], []), (23, [], [24, 25]), (26, [], [27, 28]), (29, [], [30, 31]), (32, [], [])] [⟨.mov (.loc 3), none, none⟩, ⟨.mov (.loc 3), none, none⟩, ⟨.mov (.loc 3), none, none⟩, ⟨.mov (.loc 3), none, none⟩, ⟨.nilCheck (.reg 3), none, none⟩, ⟨.fieldAddr 3 (.reg 4), none, none⟩, ⟨.load1 (.reg 5), none, none⟩, ⟨.mkMap, none, none⟩, ⟨.lit false [.nilm] 1 [(0, (.reg 7))], none, none⟩, ⟨.append false 1 8 54 (.reg 6) (.reg 8), none, none⟩, ⟨.mov (.loc 3), none, none⟩, ⟨.nilCheck (.reg 10), none, none⟩, ⟨.fieldAddr 4 (.reg 11), none, none⟩, ⟨.load1 (.reg 12), none, none⟩, ⟨.mkMap, none, none⟩, ⟨.lit false [.nilm] 1 [(0, (.reg 14))], none, none⟩, ⟨.append false 1 8 54 (.reg 13) (.reg 15), none, none⟩, ⟨.mov (.loc 3), none, none⟩, ⟨.nilCheck (.reg 17), none, none⟩, ⟨.fieldAddr 5 (.reg 18), none, none⟩, ⟨.load1 (.reg 19), none, none⟩, ⟨.mov (.loc 4), none, none⟩, ⟨.lit false [(.int .i64 0)] 1 [(0, (.reg 21))], none, none⟩, ⟨.append true 1 8 3 (.reg 20) (.reg 22), none, none⟩, ⟨.nilCheck (.reg 0), none, none⟩, ⟨.fieldAddr 3 (.reg 24), none, none⟩, ⟨.store 1 (.reg 25) (.reg 9), none, none⟩, ⟨.nilCheck (.reg 1), none, none⟩, ⟨.fieldAddr 4 (.reg 27), none, none⟩, ⟨.store 1 (.reg 28) (.reg 16), none, none⟩, ⟨.nilCheck (.reg 2), none, none⟩, ⟨.fieldAddr 5 (.reg 30), none, none⟩, ⟨.store 1 (.reg 31) (.reg 23), none, none⟩])))
   (.region [⟨.bin .add (.loc 7) (.cst (.int .i64 1)), none, none⟩, ⟨.mov (.reg 0), (some 7), none⟩]))))
def t17 : TFunc := ⟨1, 14, [.loc 2],
 (.seq (.region [⟨.boxL 1 (.loc 0), none, none⟩, ⟨.mov (.cst .nilp), (some 2), none⟩])
 (.seq (.draw [0, 1, 2, 3, 4, 5, 6] [] [⟨.loadN 3 (.loc 1), none, none⟩, ⟨.fieldAddr 0 (.loc 1), none, none⟩, ⟨.load1 (.reg 1), none, none⟩, ⟨.mkSlice [(.int .i64 0)] 8 (.reg 2) (.reg 2), none, none⟩, ⟨.build [(.int .i64 0), (.sl .nil []), (.sl .nil []), (.sl .nil []), (.sl .nil []), (.sl .nil []), (.sl .nil [])] [(0, 3, (.reg 0)), (6, 1, (.reg 3))], none, none⟩, ⟨.boxH 44 (.reg 4), none, none⟩, ⟨.mov (.reg 5), (some 3), none⟩])
 (.seq (.seq (.region [⟨.fieldAddr 0 (.loc 1), none, none⟩, ⟨.load1 (.reg 0), (some 6), none⟩, ⟨.mov (.cst (.int .i64 0)), (some 7), none⟩])
 (.block 0
  (.loop t17L1)))
 (.seq (.seq (.region [⟨.fieldAddr 1 (.loc 1), none, none⟩, ⟨.load1 (.reg 0), (some 9), none⟩, ⟨.len .sl (.reg 1), (some 10), none⟩, ⟨.mov (.cst (.int .i64 0)), (some 11), none⟩])
 (.block 2
  (.loop t17L0)))
 (.seq (.region [⟨.mov (.loc 3), none, none⟩, ⟨.mov (.reg 0), (some 2), none⟩])
 .ret)))))⟩
theorem c17 : compFunc Try.prog opts a17 Try.f17 = some t17 := by kernel_rfl
/-- (*pennant/graph.painter).joined -/
def a18 : Ann := { slots := [0, 2, 4, 5, 6, 8, 9, 14, 15, 16, 17, 30, 70], lb := [4], mu := [], trunc := [], draws := [(6, ⟨[0, 0, 2, 7, 0, 0, 32, 127, 255, 511], [0, 1, 2, 4, 5, 6], [(3, [6], []), (7, [], [8, 9])]⟩)] }
def t18L0 : TCode := (.seq (.region [⟨.bin .lss (.loc 9) (.loc 8), (some 10), none⟩])
      (.seq (.cond (.loc 10)
       .skip
       (.exit 2))
      (.seq (.block 3
       (.seq (.region [⟨.indexAddrS 2 (.loc 7) (.loc 9), none, none⟩, ⟨.loadN 2 (.reg 0), none, none⟩, ⟨.allocL 2 [(.int .i64 0), (.int .i64 0)], none, none⟩, ⟨.store 2 (.reg 2) (.reg 1), none, none⟩])
       (.seq (.draw [0, 1, 2, 4, 5, 6] [(3, [6], []), (7, [], [8, 9])] [⟨.mov (.loc 0), none, none⟩, ⟨.indexAddrA 2 1 (.loc 2) (.cst (.int .i64 0)), none, none⟩, ⟨.load1 (.reg 1), none, none⟩, ⟨.call false false 29 [(.reg 0), (.reg 2)], none, none⟩, ⟨.mov (.loc 0), none, none⟩, ⟨.indexAddrA 2 1 (.loc 2) (.cst (.int .i64 1)), none, none⟩, ⟨.load1 (.reg 5), none, none⟩, ⟨.call false false 29 [(.reg 4), (.reg 6)], none, none⟩, ⟨.mov (.reg 3), (some 3), none⟩, ⟨.mov (.reg 7), (some 4), none⟩])
       (.seq (.seq (.region [⟨.mov (.loc 3), none, none⟩, ⟨.mov (.loc 4), none, none⟩, ⟨.bin .gtr (.reg 0) (.reg 1), (some 11), none⟩])
       (.cond (.loc 11)
        (.region [⟨.mov (.loc 4), none, none⟩, ⟨.mov (.loc 3), none, none⟩, ⟨.mov (.reg 0), (some 3), none⟩, ⟨.mov (.reg 1), (some 4), none⟩])
        .skip))
       (.seq (.region [⟨.mov (.loc 0), none, none⟩, ⟨.nilCheck (.reg 0), none, none⟩, ⟨.fieldAddr 3 (.reg 1), none, none⟩, ⟨.load1 (.reg 2), none, none⟩, ⟨.mov (.loc 3), none, none⟩, ⟨.indexAddrS 1 (.reg 3) (.reg 4), none, none⟩, ⟨.load1 (.reg 5), none, none⟩, ⟨.mov (.loc 4), none, none⟩, ⟨.lookup (.leaf .int) (.int .i64 0) true (.reg 6) (.reg 7), none, none⟩, ⟨.mov (.reg 8), none, none⟩, ⟨.extract 0 (.reg 9), none, none⟩, ⟨.extract 1 (.reg 9), none, none⟩, ⟨.mov (.reg 10), none, none⟩, ⟨.mov (.reg 11), (some 5), none⟩])
       (.seq (.seq (.region [⟨.mov (.loc 3), none, none⟩, ⟨.mov (.loc 4), none, none⟩, ⟨.bin .eql (.reg 0) (.reg 1), none, none⟩, ⟨.mov (.reg 2), none, none⟩, ⟨.mov (.loc 4), none, (some (3, false))⟩, ⟨.bin .lss (.reg 4) (.cst (.int .i64 32)), none, (some (3, false))⟩, ⟨.pick (.reg 3) (.cst (.bool true)) (.reg 5), none, none⟩, ⟨.mov (.reg 6), none, none⟩, ⟨.mov (.loc 3), none, (some (7, false))⟩, ⟨.bin .lss (.reg 8) (.cst (.int .i64 32)), none, (some (7, false))⟩, ⟨.mov (.reg 9), none, (some (7, false))⟩, ⟨.mov (.loc 3), none, (some (10, true))⟩, ⟨.call true false 24 [(.reg 11)], none, (some (10, true))⟩, ⟨.un .not (.reg 12), none, (some (10, true))⟩, ⟨.pick (.reg 10) (.reg 13) (.cst (.bool false)), none, (some (7, false))⟩, ⟨.pick (.reg 7) (.cst (.bool true)) (.reg 14), none, none⟩, ⟨.mov (.reg 15), none, none⟩, ⟨.mov (.loc 5), none, (some (16, false))⟩, ⟨.pick (.reg 16) (.cst (.bool true)) (.reg 17), none, none⟩, ⟨.mov (.reg 18), none, none⟩, ⟨.mov (.loc 0), none, (some (19, false))⟩, ⟨.mov (.loc 3), none, (some (19, false))⟩, ⟨.mov (.loc 4), none, (some (19, false))⟩, ⟨.call false false 30 [(.reg 20), (.reg 21), (.reg 22)], none, (some (19, false))⟩, ⟨.un .not (.reg 23), none, (some (19, false))⟩, ⟨.pick (.reg 19) (.cst (.bool true)) (.reg 24), (some 12), none⟩])
       (.cond (.loc 12)
        (.exit 3)
        .skip))
       (.seq (.region [⟨.mov (.loc 0), none, none⟩, ⟨.mov (.loc 3), none, none⟩, ⟨.mov (.loc 4), none, none⟩, ⟨.call false false 31 [(.reg 0), (.reg 1), (.reg 2)], none, none⟩])
       (.region [⟨.mov (.cst (.bool true)), (some 1), none⟩]))))))))
      (.region [⟨.bin .add (.loc 9) (.cst (.int .i64 1)), none, none⟩, ⟨.mov (.reg 0), (some 9), none⟩]))))
def t18L1 : TCode := (.seq (.seq (.region [⟨.mov (.loc 1), (some 6), none⟩])
   (.cond (.loc 6)
    .skip
    (.exit 0)))
   (.block 1
    (.seq (.region [⟨.mov (.cst (.bool false)), (some 1), none⟩])
    (.seq (.region [⟨.mov (.loc 0), none, none⟩, ⟨.nilCheck (.reg 0), none, none⟩, ⟨.fieldAddr 0 (.reg 1), none, none⟩, ⟨.fieldAddr 2 (.reg 2), none, none⟩, ⟨.load1 (.reg 3), (some 7), none⟩, ⟨.len .sl (.reg 4), (some 8), none⟩, ⟨.mov (.cst (.int .i64 0)), (some 9), none⟩])
    (.block 2
     (.loop t18L0))))))
def t18 : TFunc := ⟨1, 13, [],
 (.seq (.region [⟨.mov (.cst (.bool true)), (some 1), none⟩])
 (.block 0
  (.loop t18L1)))⟩
theorem c18 : compFunc Try.prog opts a18 Try.f18 = some t18 := by kernel_rfl
/-- (*pennant/graph.painter).members -/
def a19 : Ann := { slots := [0, 1, 4, 5, 6, 13, 20], lb := [], mu := [], trunc := [], draws := [] }
def t19L0 : TCode := (.seq (.seq (.region [⟨.mov (.loc 4), none, none⟩, ⟨.mov (.loc 0), none, none⟩, ⟨.nilCheck (.reg 1), none, none⟩, ⟨.fieldAddr 0 (.reg 2), none, none⟩, ⟨.fieldAddr 0 (.reg 3), none, none⟩, ⟨.load1 (.reg 4), none, none⟩, ⟨.bin .lss (.reg 0) (.reg 5), (some 5), none⟩])
   (.cond (.loc 5)
    .skip
    (.exit 0)))
   (.seq (.block 1
    (.seq (.region [⟨.mov (.loc 0), none, none⟩, ⟨.mov (.loc 4), none, none⟩, ⟨.call false false 29 [(.reg 0), (.reg 1)], none, none⟩, ⟨.mov (.loc 1), none, none⟩, ⟨.bin .eql (.reg 2) (.reg 3), (some 6), none⟩])
    (.cond (.loc 6)
     (.region [⟨.mov (.loc 3), none, none⟩, ⟨.mov (.loc 4), none, none⟩, ⟨.lit false [(.int .i64 0)] 1 [(0, (.reg 1))], none, none⟩, ⟨.append false 1 8 3 (.reg 0) (.reg 2), none, none⟩, ⟨.mov (.reg 3), (some 3), none⟩])
     .skip)))
   (.region [⟨.mov (.loc 4), none, none⟩, ⟨.bin .add (.reg 0) (.cst (.int .i64 1)), none, none⟩, ⟨.mov (.reg 1), (some 4), none⟩])))
def t19 : TFunc := ⟨2, 7, [.loc 2],
 (.seq (.region [⟨.mov (.cst (.sl .nil [])), (some 2), none⟩])
 (.seq (.region [⟨.mov (.cst (.sl .nil [])), (some 3), none⟩])
 (.seq (.seq (.region [⟨.mov (.cst (.int .i64 32)), (some 4), none⟩])
 (.block 0
  (.loop t19L0)))
 (.seq (.region [⟨.mov (.loc 3), none, none⟩, ⟨.mov (.reg 0), (some 2), none⟩])
 .ret))))⟩
theorem c19 : compFunc Try.prog opts a19 Try.f19 = some t19 := by kernel_rfl
/-- slices.Backward[[]int,int] -/
def a20 : Ann := { slots := [0, 1, 2], lb := [], mu := [], trunc := [], draws := [] }
def t20 : TFunc := ⟨1, 3, [.loc 2],
 (.seq (.region [⟨.boxH 28 (.loc 0), (some 1), none⟩, ⟨.mov (.cst .nilf), (some 2), none⟩])
 (.seq (.region [⟨.mkFn 32 [] [(.loc 1)], none, none⟩, ⟨.mov (.reg 0), (some 2), none⟩])
 .ret))⟩
theorem c20 : compFunc Try.prog opts a20 Try.f20 = some t20 := by kernel_rfl
/-- (*pennant/graph.painter).order -/
def a21 : Ann := { slots := [0, 2, 3, 4, 5, 6, 7, 8, 9, 10, 29, 40, 58, 63, 92, 94, 101], lb := [], mu := [(9, 3)], trunc := [], draws := [(10, ⟨[0, 0, 0, 4, 12, 28, 0, 124, 252, 508, 1023, 2047], [0, 1, 2, 3, 4, 5, 6, 7, 8, 9, 10], [(11, [], [])]⟩)] }
def t21L0 : TCode := (.seq (.region [⟨.nextM (.loc 14), none, none⟩, ⟨.extract 0 (.reg 0), (some 15), none⟩])
      (.seq (.cond (.loc 15)
       .skip
       (.exit 4))
      (.block 5
       (.seq (.region [⟨.entryM (.loc 14), none, none⟩, ⟨.extract 0 (.reg 0), none, none⟩, ⟨.mov (.reg 1), (some 9), none⟩])
       (.seq (.region [⟨.mov (.loc 3), none, none⟩, ⟨.mov (.loc 9), none, none⟩, ⟨.indexAddrS 1 (.reg 0) (.reg 1), none, none⟩, ⟨.load1 (.reg 2), none, none⟩, ⟨.un .not (.reg 3), (some 16), none⟩])
       (.cond (.loc 16)
        (.region [⟨.load1 (.loc 4), none, none⟩, ⟨.mov (.loc 9), none, none⟩, ⟨.indexAddrS 1 (.reg 0) (.reg 1), none, none⟩, ⟨.load1 (.reg 2), none, none⟩, ⟨.bin .sub (.reg 3) (.cst (.int .i64 1)), none, none⟩, ⟨.indexAddrS 1 (.reg 0) (.reg 1), none, none⟩, ⟨.store 1 (.reg 5) (.reg 4), none, none⟩])
        .skip))))))
def t21L1 : TCode := (.seq (.seq (.region [⟨.mov (.loc 5), none, none⟩, ⟨.len .sl (.reg 0), none, none⟩, ⟨.bin .gtr (.reg 1) (.cst (.int .i64 0)), (some 12), none⟩])
   (.cond (.loc 12)
    .skip
    (.exit 2)))
   (.block 3
    (.seq (.region [⟨.mov (.loc 5), none, none⟩, ⟨.mkFn 34 [] [(.loc 4)], none, none⟩, ⟨.call false false 33 [(.reg 0), (.reg 1)], none, none⟩, ⟨.mov (.reg 2), (some 7), none⟩])
    (.seq (.seq (.region [⟨.mov (.loc 7), none, none⟩, ⟨.bin .lss (.reg 0) (.cst (.int .i64 0)), (some 13), none⟩])
    (.cond (.loc 13)
     (.region [⟨.mov (.loc 5), none, none⟩, ⟨.mov (.loc 5), none, none⟩, ⟨.mkFn 37 [] [(.loc 4)], none, none⟩, ⟨.call false false 36 [(.reg 1), (.reg 2)], none, none⟩, ⟨.call true false 35 [(.reg 0), (.reg 3)], none, none⟩, ⟨.mov (.reg 4), (some 7), none⟩])
     .skip))
    (.seq (.region [⟨.mov (.loc 5), none, none⟩, ⟨.mov (.loc 7), none, none⟩, ⟨.indexAddrS 1 (.reg 0) (.reg 1), none, none⟩, ⟨.load1 (.reg 2), none, none⟩, ⟨.mov (.reg 3), (some 8), none⟩])
    (.seq (.region [⟨.mov (.loc 5), none, none⟩, ⟨.mov (.loc 7), none, none⟩, ⟨.mov (.loc 7), none, none⟩, ⟨.bin .add (.reg 2) (.cst (.int .i64 1)), none, none⟩, ⟨.call false false 39 [(.reg 0), (.reg 1), (.reg 3)], none, none⟩, ⟨.mov (.reg 4), (some 5), none⟩])
    (.seq (.region [⟨.mov (.loc 3), none, none⟩, ⟨.mov (.loc 8), none, none⟩, ⟨.indexAddrS 1 (.reg 0) (.reg 1), none, none⟩, ⟨.store 1 (.reg 2) (.cst (.bool true)), none, none⟩])
    (.seq (.region [⟨.mov (.loc 2), none, none⟩, ⟨.mov (.loc 8), none, none⟩, ⟨.lit false [(.int .i64 0)] 1 [(0, (.reg 1))], none, none⟩, ⟨.append false 1 8 3 (.reg 0) (.reg 2), none, none⟩, ⟨.mov (.reg 3), (some 2), none⟩])
    (.seq (.region [⟨.mov (.loc 0), none, none⟩, ⟨.nilCheck (.reg 0), none, none⟩, ⟨.fieldAddr 3 (.reg 1), none, none⟩, ⟨.load1 (.reg 2), none, none⟩, ⟨.mov (.loc 8), none, none⟩, ⟨.indexAddrS 1 (.reg 3) (.reg 4), none, none⟩, ⟨.load1 (.reg 5), none, none⟩, ⟨.range false (.reg 6), (some 14), none⟩])
    (.block 4
     (.loop t21L0)))))))))))
def t21L2 : TCode := (.seq (.seq (.region [⟨.mov (.loc 6), none, none⟩, ⟨.mov (.loc 0), none, none⟩, ⟨.nilCheck (.reg 1), none, none⟩, ⟨.fieldAddr 0 (.reg 2), none, none⟩, ⟨.fieldAddr 0 (.reg 3), none, none⟩, ⟨.load1 (.reg 4), none, none⟩, ⟨.bin .lss (.reg 0) (.reg 5), (some 10), none⟩])
   (.cond (.loc 10)
    .skip
    (.exit 0)))
   (.seq (.block 1
    (.seq (.region [⟨.mov (.loc 0), none, none⟩, ⟨.nilCheck (.reg 0), none, none⟩, ⟨.fieldAddr 5 (.reg 1), none, none⟩, ⟨.load1 (.reg 2), none, none⟩, ⟨.mov (.loc 6), none, none⟩, ⟨.indexAddrS 1 (.reg 3) (.reg 4), none, none⟩, ⟨.load1 (.reg 5), none, none⟩, ⟨.mov (.loc 6), none, none⟩, ⟨.bin .eql (.reg 6) (.reg 7), (some 11), none⟩])
    (.cond (.loc 11)
     (.seq (.region [⟨.mov (.loc 5), none, none⟩, ⟨.mov (.loc 6), none, none⟩, ⟨.lit false [(.int .i64 0)] 1 [(0, (.reg 1))], none, none⟩, ⟨.append true 1 8 3 (.reg 0) (.reg 2), none, none⟩, ⟨.mov (.reg 3), (some 5), none⟩])
     (.draw [0, 1, 2, 3, 4, 5, 6, 7, 8, 9, 10] [(11, [], [])] [⟨.load1 (.loc 4), none, none⟩, ⟨.mov (.loc 6), none, none⟩, ⟨.mov (.loc 0), none, none⟩, ⟨.nilCheck (.reg 2), none, none⟩, ⟨.fieldAddr 3 (.reg 3), none, none⟩, ⟨.load1 (.reg 4), none, none⟩, ⟨.mov (.loc 6), none, none⟩, ⟨.indexAddrS 1 (.reg 5) (.reg 6), none, none⟩, ⟨.load1 (.reg 7), none, none⟩, ⟨.len .mp (.reg 8), none, none⟩, ⟨.indexAddrS 1 (.reg 0) (.reg 1), none, none⟩, ⟨.store 1 (.reg 10) (.reg 9), none, none⟩]))
     .skip)))
   (.region [⟨.mov (.loc 6), none, none⟩, ⟨.bin .add (.reg 0) (.cst (.int .i64 1)), none, none⟩, ⟨.mov (.reg 1), (some 6), none⟩])))
def t21 : TFunc := ⟨1, 17, [.loc 1],
 (.seq (.region [⟨.mov (.cst (.sl .nil [])), (some 1), none⟩])
 (.seq (.region [⟨.mov (.cst (.sl .nil [])), (some 2), none⟩])
 (.seq (.region [⟨.mov (.loc 0), none, none⟩, ⟨.nilCheck (.reg 0), none, none⟩, ⟨.fieldAddr 0 (.reg 1), none, none⟩, ⟨.fieldAddr 0 (.reg 2), none, none⟩, ⟨.load1 (.reg 3), none, none⟩, ⟨.mkSlice [(.bool false)] 1 (.reg 4) (.reg 4), none, none⟩, ⟨.mov (.reg 5), (some 3), none⟩])
 (.seq (.region [⟨.mov (.loc 0), none, none⟩, ⟨.nilCheck (.reg 0), none, none⟩, ⟨.fieldAddr 0 (.reg 1), none, none⟩, ⟨.fieldAddr 0 (.reg 2), none, none⟩, ⟨.load1 (.reg 3), none, none⟩, ⟨.mkSlice [(.int .i64 0)] 8 (.reg 4) (.reg 4), none, none⟩, ⟨.allocH 28 [(.sl .nil [])], (some 4), none⟩, ⟨.store 1 (.reg 6) (.reg 5), none, none⟩])
 (.seq (.region [⟨.mov (.cst (.sl .nil [])), (some 5), none⟩])
 (.seq (.seq (.region [⟨.mov (.cst (.int .i64 32)), (some 6), none⟩])
 (.block 0
  (.loop t21L2)))
 (.seq (.block 2
  (.loop t21L1))
 (.seq (.region [⟨.mov (.loc 2), none, none⟩, ⟨.mov (.reg 0), (some 1), none⟩])
 .ret))))))))⟩
theorem c21 : compFunc Try.prog opts a21 Try.f21 = some t21 := by kernel_rfl
/-- (*pennant/graph.painter).paint -/
def a22 : Ann := { slots := [0, 1, 4, 6, 10, 11, 12, 13, 17], lb := [], mu := [], trunc := [], draws := [(5, ⟨[0, 1, 3, 7, 0, 0, 0, 64, 224, 511, 1023], [0, 1, 2, 3, 4, 5, 6, 7], [(8, [3], [9]), (10, [], [])]⟩)] }
def t22L0 : TCode := (.seq (.region [⟨.bin .lss (.loc 6) (.loc 5), (some 7), none⟩])
   (.seq (.cond (.loc 7)
    .skip
    (.exit 0))
   (.seq (.block 1
    (.seq (.region [⟨.indexAddrS 1 (.loc 4) (.loc 6), none, none⟩, ⟨.load1 (.reg 0), none, none⟩, ⟨.mov (.reg 1), (some 3), none⟩])
    (.seq (.region [⟨.mov (.loc 2), none, none⟩, ⟨.bin .eql (.reg 0) (.cst (.int .i64 (-1))), (some 8), none⟩])
    (.cond (.loc 8)
     (.draw [0, 1, 2, 3, 4, 5, 6, 7] [(8, [3], [9]), (10, [], [])] [⟨.mov (.loc 0), none, none⟩, ⟨.nilCheck (.reg 0), none, none⟩, ⟨.fieldAddr 6 (.reg 1), none, none⟩, ⟨.load1 (.reg 2), none, none⟩, ⟨.mov (.loc 3), none, none⟩, ⟨.mov (.loc 0), none, none⟩, ⟨.mov (.loc 3), none, none⟩, ⟨.lit false [(.int .i64 0)] 1 [(0, (.reg 6))], none, none⟩, ⟨.call false false 40 [(.reg 5), (.reg 7)], none, none⟩, ⟨.indexAddrS 1 (.reg 3) (.reg 4), none, none⟩, ⟨.store 1 (.reg 9) (.reg 8), none, none⟩])
     (.region [⟨.mov (.loc 0), none, none⟩, ⟨.nilCheck (.reg 0), none, none⟩, ⟨.fieldAddr 6 (.reg 1), none, none⟩, ⟨.load1 (.reg 2), none, none⟩, ⟨.mov (.loc 3), none, none⟩, ⟨.mov (.loc 2), none, none⟩, ⟨.indexAddrS 1 (.reg 3) (.reg 4), none, none⟩, ⟨.store 1 (.reg 6) (.reg 5), none, none⟩])))))
   (.region [⟨.bin .add (.loc 6) (.cst (.int .i64 1)), none, none⟩, ⟨.mov (.reg 0), (some 6), none⟩]))))
def t22 : TFunc := ⟨2, 9, [],
 (.seq (.region [⟨.mov (.loc 0), none, none⟩, ⟨.mov (.loc 1), none, none⟩, ⟨.call false false 40 [(.reg 0), (.reg 1)], none, none⟩, ⟨.mov (.reg 2), (some 2), none⟩])
 (.seq (.region [⟨.mov (.loc 1), (some 4), none⟩, ⟨.len .sl (.reg 0), (some 5), none⟩, ⟨.mov (.cst (.int .i64 0)), (some 6), none⟩])
 (.block 0
  (.loop t22L0))))⟩
theorem c22 : compFunc Try.prog opts a22 Try.f22 = some t22 := by kernel_rfl
/-- pennant/graph.isColour -/
def a24 : Ann := { slots := [0, 2], lb := [], mu := [], trunc := [], draws := [] }
def t24 : TFunc := ⟨1, 2, [.loc 1],
 (.seq (.region [⟨.mov (.cst (.bool false)), (some 1), none⟩])
 (.seq (.region [⟨.mov (.loc 0), none, none⟩, ⟨.bin .geq (.reg 0) (.cst (.int .i64 1)), none, none⟩, ⟨.mov (.reg 1), none, none⟩, ⟨.mov (.loc 0), none, (some (2, true))⟩, ⟨.bin .leq (.reg 3) (.cst (.int .i64 24)), none, (some (2, true))⟩, ⟨.pick (.reg 2) (.reg 4) (.cst (.bool false)), none, none⟩, ⟨.mov (.reg 5), (some 1), none⟩])
 .ret))⟩
theorem c24 : compFunc Try.prog opts a24 Try.f24 = some t24 := by kernel_rfl
/-- slices.ContainsFunc[[][2]int,[2]int] -/
def a25 : Ann := { slots := [0, 1, 4], lb := [], mu := [], trunc := [], draws := [] }
def t25 : TFunc := ⟨2, 3, [.loc 2],
 (.seq (.region [⟨.mov (.cst (.bool false)), (some 2), none⟩])
 (.seq (.region [⟨.mov (.loc 0), none, none⟩, ⟨.mov (.loc 1), none, none⟩, ⟨.call false false 42 [(.reg 0), (.reg 1)], none, none⟩, ⟨.bin .geq (.reg 2) (.cst (.int .i64 0)), none, none⟩, ⟨.mov (.reg 3), (some 2), none⟩])
 .ret))⟩
theorem c25 : compFunc Try.prog opts a25 Try.f25 = some t25 := by kernel_rfl
/-- pennant/graph.Right$1 -/
def a26 : Ann := { slots := [0, 1, 2, 3], lb := [2], mu := [], trunc := [], draws := [(1, ⟨[0, 0, 2, 7, 15, 0, 0, 64, 224, 480, 1023, 2047, 4095, 4095, 12287, 32767, 65535, 131071, 262143, 524287], [0, 1, 2, 3, 4, 5, 6, 7, 8, 9, 10, 11, 12, 13, 14, 15, 16, 17, 18, 19], []⟩)] }
def t26 : TFunc := ⟨2, 4, [.loc 3],
 (.seq (.region [⟨.boxL 2 (.loc 0), none, none⟩, ⟨.mov (.cst (.bool false)), (some 3), none⟩])
 (.seq (.draw [0, 1, 2, 3, 4, 5, 6, 7, 8, 9, 10, 11, 12, 13, 14, 15, 16, 17, 18, 19] [] [⟨.load1 (.loc 1), none, none⟩, ⟨.indexAddrA 2 1 (.loc 2) (.cst (.int .i64 0)), none, none⟩, ⟨.load1 (.reg 1), none, none⟩, ⟨.indexAddrS 1 (.reg 0) (.reg 2), none, none⟩, ⟨.load1 (.reg 3), none, none⟩, ⟨.load1 (.loc 1), none, none⟩, ⟨.indexAddrA 2 1 (.loc 2) (.cst (.int .i64 1)), none, none⟩, ⟨.load1 (.reg 6), none, none⟩, ⟨.indexAddrS 1 (.reg 5) (.reg 7), none, none⟩, ⟨.load1 (.reg 8), none, none⟩, ⟨.bin .eql (.reg 4) (.reg 9), none, none⟩, ⟨.mov (.reg 10), none, none⟩, ⟨.load1 (.loc 1), none, (some (11, true))⟩, ⟨.indexAddrA 2 1 (.loc 2) (.cst (.int .i64 0)), none, (some (11, true))⟩, ⟨.load1 (.reg 13), none, (some (11, true))⟩, ⟨.indexAddrS 1 (.reg 12) (.reg 14), none, (some (11, true))⟩, ⟨.load1 (.reg 15), none, (some (11, true))⟩, ⟨.bin .neq (.reg 16) (.cst (.int .i64 (-1))), none, (some (11, true))⟩, ⟨.pick (.reg 11) (.reg 17) (.cst (.bool false)), none, none⟩, ⟨.mov (.reg 18), (some 3), none⟩])
 .ret))⟩
theorem c26 : compFunc Try.prog opts a26 Try.f26 = some t26 := by kernel_rfl
/-- (pennant/graph.Graph).may$1 -/
def a27 : Ann := { slots := [0, 1, 2, 3], lb := [2], mu := [], trunc := [], draws := [] }
def t27 : TFunc := ⟨2, 4, [.loc 3],
 (.seq (.region [⟨.boxL 2 (.loc 0), none, none⟩, ⟨.mov (.cst (.bool false)), (some 3), none⟩])
 (.seq (.region [⟨.indexAddrA 2 1 (.loc 2) (.cst (.int .i64 0)), none, none⟩, ⟨.load1 (.reg 0), none, none⟩, ⟨.bin .lss (.reg 1) (.cst (.int .i64 1)), none, none⟩, ⟨.mov (.reg 2), none, none⟩, ⟨.indexAddrA 2 1 (.loc 2) (.cst (.int .i64 1)), none, (some (3, false))⟩, ⟨.load1 (.reg 4), none, (some (3, false))⟩, ⟨.bin .lss (.reg 5) (.cst (.int .i64 1)), none, (some (3, false))⟩, ⟨.pick (.reg 3) (.cst (.bool true)) (.reg 6), none, none⟩, ⟨.mov (.reg 7), none, none⟩, ⟨.indexAddrA 2 1 (.loc 2) (.cst (.int .i64 0)), none, (some (8, false))⟩, ⟨.load1 (.reg 9), none, (some (8, false))⟩, ⟨.fieldAddr 0 (.loc 1), none, (some (8, false))⟩, ⟨.load1 (.reg 11), none, (some (8, false))⟩, ⟨.bin .geq (.reg 10) (.reg 12), none, (some (8, false))⟩, ⟨.pick (.reg 8) (.cst (.bool true)) (.reg 13), none, none⟩, ⟨.mov (.reg 14), none, none⟩, ⟨.indexAddrA 2 1 (.loc 2) (.cst (.int .i64 1)), none, (some (15, false))⟩, ⟨.load1 (.reg 16), none, (some (15, false))⟩, ⟨.fieldAddr 0 (.loc 1), none, (some (15, false))⟩, ⟨.load1 (.reg 18), none, (some (15, false))⟩, ⟨.bin .geq (.reg 17) (.reg 19), none, (some (15, false))⟩, ⟨.pick (.reg 15) (.cst (.bool true)) (.reg 20), none, none⟩, ⟨.mov (.reg 21), none, none⟩, ⟨.indexAddrA 2 1 (.loc 2) (.cst (.int .i64 0)), none, (some (22, false))⟩, ⟨.load1 (.reg 23), none, (some (22, false))⟩, ⟨.indexAddrA 2 1 (.loc 2) (.cst (.int .i64 1)), none, (some (22, false))⟩, ⟨.load1 (.reg 25), none, (some (22, false))⟩, ⟨.bin .eql (.reg 24) (.reg 26), none, (some (22, false))⟩, ⟨.pick (.reg 22) (.cst (.bool true)) (.reg 27), none, none⟩, ⟨.mov (.reg 28), (some 3), none⟩])
 .ret))⟩
theorem c27 : compFunc Try.prog opts a27 Try.f27 = some t27 := by kernel_rfl
/-- (*pennant/graph.painter).meets -/
def a28 : Ann := { slots := [0, 1, 2], lb := [], mu := [], trunc := [], draws := [] }
def t28 : TFunc := ⟨3, 3, [],
 (.seq (.region [⟨.mov (.loc 0), none, none⟩, ⟨.nilCheck (.reg 0), none, none⟩, ⟨.fieldAddr 3 (.reg 1), none, none⟩, ⟨.load1 (.reg 2), none, none⟩, ⟨.mov (.loc 1), none, none⟩, ⟨.indexAddrS 1 (.reg 3) (.reg 4), none, none⟩, ⟨.load1 (.reg 5), none, none⟩, ⟨.mov (.loc 2), none, none⟩, ⟨.lookup (.leaf .int) (.int .i64 0) false (.reg 6) (.reg 7), none, none⟩, ⟨.bin .add (.reg 8) (.cst (.int .i64 1)), none, none⟩, ⟨.update (.leaf .int) (.reg 6) (.reg 7) (.reg 9), none, none⟩])
 (.region [⟨.mov (.loc 0), none, none⟩, ⟨.nilCheck (.reg 0), none, none⟩, ⟨.fieldAddr 3 (.reg 1), none, none⟩, ⟨.load1 (.reg 2), none, none⟩, ⟨.mov (.loc 2), none, none⟩, ⟨.indexAddrS 1 (.reg 3) (.reg 4), none, none⟩, ⟨.load1 (.reg 5), none, none⟩, ⟨.mov (.loc 1), none, none⟩, ⟨.lookup (.leaf .int) (.int .i64 0) false (.reg 6) (.reg 7), none, none⟩, ⟨.bin .add (.reg 8) (.cst (.int .i64 1)), none, none⟩, ⟨.update (.leaf .int) (.reg 6) (.reg 7) (.reg 9), none, none⟩]))⟩
theorem c28 : compFunc Try.prog opts a28 Try.f28 = some t28 := by kernel_rfl
/-- (*pennant/graph.painter).of -/
def a29 : Ann := { slots := [0, 1, 4, 13], lb := [], mu := [], trunc := [], draws := [] }
def t29L0 : TCode := (.seq (.seq (.region [⟨.mov (.loc 0), none, none⟩, ⟨.nilCheck (.reg 0), none, none⟩, ⟨.fieldAddr 5 (.reg 1), none, none⟩, ⟨.load1 (.reg 2), none, none⟩, ⟨.mov (.loc 1), none, none⟩, ⟨.indexAddrS 1 (.reg 3) (.reg 4), none, none⟩, ⟨.load1 (.reg 5), none, none⟩, ⟨.mov (.loc 1), none, none⟩, ⟨.bin .neq (.reg 6) (.reg 7), (some 3), none⟩])
   (.cond (.loc 3)
    .skip
    (.exit 0)))
   (.block 1
    (.region [⟨.mov (.loc 0), none, none⟩, ⟨.nilCheck (.reg 0), none, none⟩, ⟨.fieldAddr 5 (.reg 1), none, none⟩, ⟨.load1 (.reg 2), none, none⟩, ⟨.mov (.loc 1), none, none⟩, ⟨.indexAddrS 1 (.reg 3) (.reg 4), none, none⟩, ⟨.load1 (.reg 5), none, none⟩, ⟨.mov (.reg 6), (some 1), none⟩])))
def t29 : TFunc := ⟨2, 4, [.loc 2],
 (.seq (.region [⟨.mov (.cst (.int .i64 0)), (some 2), none⟩])
 (.seq (.block 0
  (.loop t29L0))
 (.seq (.region [⟨.mov (.loc 1), none, none⟩, ⟨.mov (.reg 0), (some 2), none⟩])
 .ret)))⟩
theorem c29 : compFunc Try.prog opts a29 Try.f29 = some t29 := by kernel_rfl
/-- (*pennant/graph.painter).safe -/
def a30 : Ann := { slots := [0, 1, 2, 6, 7, 9, 10, 11, 12, 14, 16, 24, 26, 47, 55, 57, 62, 72, 74, 95], lb := [], mu := [], trunc := [], draws := [] }
def t30L0 : TCode := (.seq (.region [⟨.nextM (.loc 17), none, none⟩, ⟨.extract 0 (.reg 0), (some 18), none⟩])
   (.seq (.cond (.loc 18)
    .skip
    (.exit 4))
   (.block 5
    (.seq (.region [⟨.entryM (.loc 17), none, none⟩, ⟨.extract 0 (.reg 0), none, none⟩, ⟨.mov (.reg 1), (some 8), none⟩])
    (.seq (.region [⟨.mov (.loc 0), none, none⟩, ⟨.nilCheck (.reg 0), none, none⟩, ⟨.fieldAddr 3 (.reg 1), none, none⟩, ⟨.load1 (.reg 2), none, none⟩, ⟨.mov (.loc 1), none, none⟩, ⟨.indexAddrS 1 (.reg 3) (.reg 4), none, none⟩, ⟨.load1 (.reg 5), none, none⟩, ⟨.mov (.loc 8), none, none⟩, ⟨.lookup (.leaf .int) (.int .i64 0) true (.reg 6) (.reg 7), none, none⟩, ⟨.mov (.reg 8), none, none⟩, ⟨.extract 0 (.reg 9), none, none⟩, ⟨.extract 1 (.reg 9), none, none⟩, ⟨.mov (.reg 10), none, none⟩, ⟨.mov (.reg 11), (some 9), none⟩])
    (.seq (.region [⟨.mov (.loc 9), none, none⟩, ⟨.un .not (.reg 0), none, none⟩, ⟨.mov (.reg 1), none, none⟩, ⟨.mov (.loc 0), none, (some (2, true))⟩, ⟨.mov (.loc 8), none, (some (2, true))⟩, ⟨.call false false 43 [(.reg 3), (.reg 4)], none, (some (2, true))⟩, ⟨.pick (.reg 2) (.reg 5) (.cst (.bool false)), (some 19), none⟩])
    (.cond (.loc 19)
     (.region [⟨.mov (.loc 6), none, none⟩, ⟨.bin .add (.reg 0) (.cst (.int .i64 1)), none, none⟩, ⟨.mov (.reg 1), (some 6), none⟩])
     .skip)))))))
def t30L1 : TCode := (.seq (.region [⟨.nextM (.loc 14), none, none⟩, ⟨.extract 0 (.reg 0), (some 15), none⟩])
   (.seq (.cond (.loc 15)
    .skip
    (.exit 2))
   (.block 3
    (.seq (.region [⟨.entryM (.loc 14), none, none⟩, ⟨.extract 0 (.reg 0), none, none⟩, ⟨.mov (.reg 1), (some 7), none⟩])
    (.seq (.region [⟨.mov (.loc 0), none, none⟩, ⟨.mov (.loc 7), none, none⟩, ⟨.call false false 43 [(.reg 0), (.reg 1)], (some 16), none⟩])
    (.cond (.loc 16)
     (.region [⟨.mov (.loc 6), none, none⟩, ⟨.bin .add (.reg 0) (.cst (.int .i64 1)), none, none⟩, ⟨.mov (.reg 1), (some 6), none⟩])
     .skip))))))
def t30L2 : TCode := (.seq (.region [⟨.nextM (.loc 11), none, none⟩, ⟨.extract 0 (.reg 0), (some 12), none⟩])
    (.seq (.cond (.loc 12)
     .skip
     (.exit 0))
    (.block 1
     (.seq (.region [⟨.entryM (.loc 11), none, none⟩, ⟨.extract 0 (.reg 0), none, none⟩, ⟨.mov (.reg 1), (some 4), none⟩])
     (.seq (.region [⟨.mov (.loc 0), none, none⟩, ⟨.nilCheck (.reg 0), none, none⟩, ⟨.fieldAddr 3 (.reg 1), none, none⟩, ⟨.load1 (.reg 2), none, none⟩, ⟨.mov (.loc 1), none, none⟩, ⟨.indexAddrS 1 (.reg 3) (.reg 4), none, none⟩, ⟨.load1 (.reg 5), none, none⟩, ⟨.mov (.loc 4), none, none⟩, ⟨.lookup (.leaf .int) (.int .i64 0) true (.reg 6) (.reg 7), none, none⟩, ⟨.mov (.reg 8), none, none⟩, ⟨.extract 0 (.reg 9), none, none⟩, ⟨.extract 1 (.reg 9), none, none⟩, ⟨.mov (.reg 10), none, none⟩, ⟨.mov (.reg 11), (some 5), none⟩])
     (.seq (.region [⟨.mov (.loc 5), none, none⟩, ⟨.un .not (.reg 0), none, none⟩, ⟨.mov (.reg 1), none, none⟩, ⟨.mov (.loc 0), none, (some (2, true))⟩, ⟨.mov (.loc 4), none, (some (2, true))⟩, ⟨.call false false 43 [(.reg 3), (.reg 4)], none, (some (2, true))⟩, ⟨.pick (.reg 2) (.reg 5) (.cst (.bool false)), (some 13), none⟩])
     (.cond (.loc 13)
      (.seq (.region [⟨.mov (.cst (.bool false)), (some 3), none⟩])
      .ret)
      .skip)))))))
def t30 : TFunc := ⟨3, 20, [.loc 3],
 (.seq (.region [⟨.mov (.cst (.bool false)), (some 3), none⟩])
 (.seq (.seq (.region [⟨.mov (.loc 1), none, none⟩, ⟨.bin .lss (.reg 0) (.cst (.int .i64 32)), (some 10), none⟩])
 (.cond (.loc 10)
  (.seq (.seq (.region [⟨.mov (.loc 0), none, none⟩, ⟨.nilCheck (.reg 0), none, none⟩, ⟨.fieldAddr 3 (.reg 1), none, none⟩, ⟨.load1 (.reg 2), none, none⟩, ⟨.mov (.loc 2), none, none⟩, ⟨.indexAddrS 1 (.reg 3) (.reg 4), none, none⟩, ⟨.load1 (.reg 5), none, none⟩, ⟨.range false (.reg 6), (some 11), none⟩])
  (.block 0
   (.loop t30L2)))
  (.seq (.region [⟨.mov (.cst (.bool true)), (some 3), none⟩])
  .ret))
  .skip))
 (.seq (.region [⟨.mov (.cst (.int .i64 0)), (some 6), none⟩])
 (.seq (.seq (.region [⟨.mov (.loc 0), none, none⟩, ⟨.nilCheck (.reg 0), none, none⟩, ⟨.fieldAddr 3 (.reg 1), none, none⟩, ⟨.load1 (.reg 2), none, none⟩, ⟨.mov (.loc 1), none, none⟩, ⟨.indexAddrS 1 (.reg 3) (.reg 4), none, none⟩, ⟨.load1 (.reg 5), none, none⟩, ⟨.range false (.reg 6), (some 14), none⟩])
 (.block 2
  (.loop t30L1)))
 (.seq (.seq (.region [⟨.mov (.loc 0), none, none⟩, ⟨.nilCheck (.reg 0), none, none⟩, ⟨.fieldAddr 3 (.reg 1), none, none⟩, ⟨.load1 (.reg 2), none, none⟩, ⟨.mov (.loc 2), none, none⟩, ⟨.indexAddrS 1 (.reg 3) (.reg 4), none, none⟩, ⟨.load1 (.reg 5), none, none⟩, ⟨.range false (.reg 6), (some 17), none⟩])
 (.block 4
  (.loop t30L0)))
 (.seq (.region [⟨.mov (.loc 6), none, none⟩, ⟨.bin .lss (.reg 0) (.cst (.int .i64 24)), none, none⟩, ⟨.mov (.reg 1), (some 3), none⟩])
 .ret))))))⟩
theorem c30 : compFunc Try.prog opts a30 Try.f30 = some t30 := by kernel_rfl
/-- (*pennant/graph.painter).join -/
def a31 : Ann := { slots := [0, 1, 2, 6, 21, 23], lb := [], mu := [], trunc := [], draws := [] }
def t31L0 : TCode := (.seq (.region [⟨.nextM (.loc 4), none, none⟩, ⟨.extract 0 (.reg 0), (some 5), none⟩])
   (.seq (.cond (.loc 5)
    .skip
    (.exit 0))
   (.block 1
    (.seq (.region [⟨.entryM (.loc 4), none, none⟩, ⟨.extract 0 (.reg 0), none, none⟩, ⟨.mov (.reg 1), (some 3), none⟩])
    (.seq (.region [⟨.mov (.loc 0), none, none⟩, ⟨.nilCheck (.reg 0), none, none⟩, ⟨.fieldAddr 3 (.reg 1), none, none⟩, ⟨.load1 (.reg 2), none, none⟩, ⟨.mov (.loc 3), none, none⟩, ⟨.indexAddrS 1 (.reg 3) (.reg 4), none, none⟩, ⟨.load1 (.reg 5), none, none⟩, ⟨.mov (.loc 2), none, none⟩, ⟨.delete (.leaf .int) (.reg 6) (.reg 7), none, none⟩])
    (.region [⟨.mov (.loc 0), none, none⟩, ⟨.mov (.loc 1), none, none⟩, ⟨.mov (.loc 3), none, none⟩, ⟨.call false false 28 [(.reg 0), (.reg 1), (.reg 2)], none, none⟩]))))))
def t31 : TFunc := ⟨3, 6, [],
 (.seq (.region [⟨.mov (.loc 0), none, none⟩, ⟨.nilCheck (.reg 0), none, none⟩, ⟨.fieldAddr 5 (.reg 1), none, none⟩, ⟨.load1 (.reg 2), none, none⟩, ⟨.mov (.loc 2), none, none⟩, ⟨.mov (.loc 1), none, none⟩, ⟨.indexAddrS 1 (.reg 3) (.reg 4), none, none⟩, ⟨.store 1 (.reg 6) (.reg 5), none, none⟩])
 (.seq (.seq (.region [⟨.mov (.loc 0), none, none⟩, ⟨.nilCheck (.reg 0), none, none⟩, ⟨.fieldAddr 3 (.reg 1), none, none⟩, ⟨.load1 (.reg 2), none, none⟩, ⟨.mov (.loc 2), none, none⟩, ⟨.indexAddrS 1 (.reg 3) (.reg 4), none, none⟩, ⟨.load1 (.reg 5), none, none⟩, ⟨.range false (.reg 6), (some 4), none⟩])
 (.block 0
  (.loop t31L0)))
 (.region [⟨.mov (.loc 0), none, none⟩, ⟨.nilCheck (.reg 0), none, none⟩, ⟨.fieldAddr 3 (.reg 1), none, none⟩, ⟨.load1 (.reg 2), none, none⟩, ⟨.mov (.loc 2), none, none⟩, ⟨.mkMap, none, none⟩, ⟨.indexAddrS 1 (.reg 3) (.reg 4), none, none⟩, ⟨.store 1 (.reg 6) (.reg 5), none, none⟩])))⟩
theorem c31 : compFunc Try.prog opts a31 Try.f31 = some t31 := by kernel_rfl
/-- slices.Backward[[]int,int]$1 -/
def a32 : Ann := { slots := [0, 1, 3, 8, 18], lb := [], mu := [], trunc := [], draws := [] }
def t32L0 : TCode := (.seq (.seq (.region [⟨.mov (.loc 2), none, none⟩, ⟨.bin .geq (.reg 0) (.cst (.int .i64 0)), (some 3), none⟩])
   (.cond (.loc 3)
    .skip
    (.exit 0)))
   (.seq (.block 1
    (.seq (.region [⟨.mov (.loc 0), none, none⟩, ⟨.mov (.loc 2), none, none⟩, ⟨.load1 (.loc 1), none, none⟩, ⟨.mov (.loc 2), none, none⟩, ⟨.indexAddrS 1 (.reg 2) (.reg 3), none, none⟩, ⟨.load1 (.reg 4), none, none⟩, ⟨.callv (.reg 0) [(.reg 1), (.reg 5)], none, none⟩, ⟨.un .not (.reg 6), (some 4), none⟩])
    (.cond (.loc 4)
     .ret
     .skip)))
   (.region [⟨.mov (.loc 2), none, none⟩, ⟨.bin .sub (.reg 0) (.cst (.int .i64 1)), none, none⟩, ⟨.mov (.reg 1), (some 2), none⟩])))
def t32 : TFunc := ⟨2, 5, [],
 (.seq (.region [⟨.load1 (.loc 1), none, none⟩, ⟨.len .sl (.reg 0), none, none⟩, ⟨.bin .sub (.reg 1) (.cst (.int .i64 1)), none, none⟩, ⟨.mov (.reg 2), (some 2), none⟩])
 (.block 0
  (.loop t32L0)))⟩
theorem c32 : compFunc Try.prog opts a32 Try.f32 = some t32 := by kernel_rfl
/-- slices.IndexFunc[[]int,int] -/
def a33 : Ann := { slots := [0, 1, 4, 5, 7, 8, 9, 16], lb := [], mu := [], trunc := [], draws := [] }
def t33L0 : TCode := (.seq (.region [⟨.bin .lss (.loc 5) (.loc 4), (some 6), none⟩])
   (.seq (.cond (.loc 6)
    .skip
    (.exit 0))
   (.seq (.block 1
    (.seq (.region [⟨.mov (.loc 5), none, none⟩, ⟨.mov (.reg 0), (some 3), none⟩])
    (.seq (.region [⟨.mov (.loc 1), none, none⟩, ⟨.mov (.loc 0), none, none⟩, ⟨.mov (.loc 3), none, none⟩, ⟨.indexAddrS 1 (.reg 1) (.reg 2), none, none⟩, ⟨.load1 (.reg 3), none, none⟩, ⟨.callv (.reg 0) [(.reg 4)], (some 7), none⟩])
    (.cond (.loc 7)
     (.seq (.region [⟨.mov (.loc 3), none, none⟩, ⟨.mov (.reg 0), (some 2), none⟩])
     .ret)
     .skip))))
   (.region [⟨.bin .add (.loc 5) (.cst (.int .i64 1)), none, none⟩, ⟨.mov (.reg 0), (some 5), none⟩]))))
def t33 : TFunc := ⟨2, 8, [.loc 2],
 (.seq (.region [⟨.mov (.cst (.int .i64 0)), (some 2), none⟩])
 (.seq (.seq (.region [⟨.mov (.loc 0), none, none⟩, ⟨.len .sl (.reg 0), (some 4), none⟩, ⟨.mov (.cst (.int .i64 0)), (some 5), none⟩])
 (.block 0
  (.loop t33L0)))
 (.seq (.region [⟨.mov (.cst (.int .i64 (-1))), (some 2), none⟩])
 .ret)))⟩
theorem c33 : compFunc Try.prog opts a33 Try.f33 = some t33 := by kernel_rfl
/-- (*pennant/graph.painter).order$1 -/
def a34 : Ann := { slots := [0, 1, 3], lb := [], mu := [], trunc := [], draws := [] }
def t34 : TFunc := ⟨2, 3, [.loc 2],
 (.seq (.region [⟨.mov (.cst (.bool false)), (some 2), none⟩])
 (.seq (.region [⟨.load1 (.loc 1), none, none⟩, ⟨.mov (.loc 0), none, none⟩, ⟨.indexAddrS 1 (.reg 0) (.reg 1), none, none⟩, ⟨.load1 (.reg 2), none, none⟩, ⟨.bin .lss (.reg 3) (.cst (.int .i64 24)), none, none⟩, ⟨.mov (.reg 4), (some 2), none⟩])
 .ret))⟩
theorem c34 : compFunc Try.prog opts a34 Try.f34 = some t34 := by kernel_rfl
/-- slices.Index[[]int,int] -/
def a35 : Ann := { slots := [0, 1, 4, 5, 7, 8, 9, 16], lb := [], mu := [], trunc := [], draws := [] }
def t35L0 : TCode := (.seq (.region [⟨.bin .lss (.loc 5) (.loc 4), (some 6), none⟩])
   (.seq (.cond (.loc 6)
    .skip
    (.exit 0))
   (.seq (.block 1
    (.seq (.region [⟨.mov (.loc 5), none, none⟩, ⟨.mov (.reg 0), (some 3), none⟩])
    (.seq (.region [⟨.mov (.loc 1), none, none⟩, ⟨.mov (.loc 0), none, none⟩, ⟨.mov (.loc 3), none, none⟩, ⟨.indexAddrS 1 (.reg 1) (.reg 2), none, none⟩, ⟨.load1 (.reg 3), none, none⟩, ⟨.bin .eql (.reg 0) (.reg 4), (some 7), none⟩])
    (.cond (.loc 7)
     (.seq (.region [⟨.mov (.loc 3), none, none⟩, ⟨.mov (.reg 0), (some 2), none⟩])
     .ret)
     .skip))))
   (.region [⟨.bin .add (.loc 5) (.cst (.int .i64 1)), none, none⟩, ⟨.mov (.reg 0), (some 5), none⟩]))))
def t35 : TFunc := ⟨2, 8, [.loc 2],
 (.seq (.region [⟨.mov (.cst (.int .i64 0)), (some 2), none⟩])
 (.seq (.seq (.region [⟨.mov (.loc 0), none, none⟩, ⟨.len .sl (.reg 0), (some 4), none⟩, ⟨.mov (.cst (.int .i64 0)), (some 5), none⟩])
 (.block 0
  (.loop t35L0)))
 (.seq (.region [⟨.mov (.cst (.int .i64 (-1))), (some 2), none⟩])
 .ret)))⟩
theorem c35 : compFunc Try.prog opts a35 Try.f35 = some t35 := by kernel_rfl
/-- slices.MaxFunc[[]int,int] -/
def a36 : Ann := { slots := [0, 1, 4, 5, 6, 9, 17, 27], lb := [], mu := [], trunc := [], draws := [] }
def t36L0 : TCode := (.seq (.seq (.region [⟨.mov (.loc 4), none, none⟩, ⟨.mov (.loc 0), none, none⟩, ⟨.len .sl (.reg 1), none, none⟩, ⟨.bin .lss (.reg 0) (.reg 2), (some 6), none⟩])
   (.cond (.loc 6)
    .skip
    (.exit 0)))
   (.seq (.block 1
    (.seq (.region [⟨.mov (.loc 1), none, none⟩, ⟨.mov (.loc 0), none, none⟩, ⟨.mov (.loc 4), none, none⟩, ⟨.indexAddrS 1 (.reg 1) (.reg 2), none, none⟩, ⟨.load1 (.reg 3), none, none⟩, ⟨.mov (.loc 3), none, none⟩, ⟨.callv (.reg 0) [(.reg 4), (.reg 5)], none, none⟩, ⟨.bin .gtr (.reg 6) (.cst (.int .i64 0)), (some 7), none⟩])
    (.cond (.loc 7)
     (.region [⟨.mov (.loc 0), none, none⟩, ⟨.mov (.loc 4), none, none⟩, ⟨.indexAddrS 1 (.reg 0) (.reg 1), none, none⟩, ⟨.load1 (.reg 2), none, none⟩, ⟨.mov (.reg 3), (some 3), none⟩])
     .skip)))
   (.region [⟨.mov (.loc 4), none, none⟩, ⟨.bin .add (.reg 0) (.cst (.int .i64 1)), none, none⟩, ⟨.mov (.reg 1), (some 4), none⟩])))
def t36 : TFunc := ⟨2, 8, [.loc 2],
 (.seq (.region [⟨.mov (.cst (.int .i64 0)), (some 2), none⟩])
 (.seq (.seq (.region [⟨.mov (.loc 0), none, none⟩, ⟨.len .sl (.reg 0), none, none⟩, ⟨.bin .lss (.reg 1) (.cst (.int .i64 1)), (some 5), none⟩])
 (.cond (.loc 5)
  (.region [⟨.bad, none, none⟩, ⟨.bad, none, none⟩])
  .skip))
 (.seq (.region [⟨.mov (.loc 0), none, none⟩, ⟨.indexAddrS 1 (.reg 0) (.cst (.int .i64 0)), none, none⟩, ⟨.load1 (.reg 1), none, none⟩, ⟨.mov (.reg 2), (some 3), none⟩])
 (.seq (.seq (.region [⟨.mov (.cst (.int .i64 1)), (some 4), none⟩])
 (.block 0
  (.loop t36L0)))
 (.seq (.region [⟨.mov (.loc 3), none, none⟩, ⟨.mov (.reg 0), (some 2), none⟩])
 .ret)))))⟩
theorem c36 : compFunc Try.prog opts a36 Try.f36 = some t36 := by kernel_rfl
/-- (*pennant/graph.painter).order$2 -/
def a37 : Ann := { slots := [0, 1, 2, 5], lb := [], mu := [], trunc := [], draws := [(1, ⟨[0, 0, 3, 7, 0, 0, 48, 112, 255, 511], [0, 1, 2, 3, 4, 5, 6, 7], [(8, [], [9])]⟩)] }
def t37 : TFunc := ⟨3, 4, [.loc 3],
 (.seq (.region [⟨.mov (.cst (.int .i64 0)), (some 3), none⟩])
 (.seq (.draw [0, 1, 2, 3, 4, 5, 6, 7] [(8, [], [9])] [⟨.load1 (.loc 2), none, none⟩, ⟨.mov (.loc 0), none, none⟩, ⟨.indexAddrS 1 (.reg 0) (.reg 1), none, none⟩, ⟨.load1 (.reg 2), none, none⟩, ⟨.load1 (.loc 2), none, none⟩, ⟨.mov (.loc 1), none, none⟩, ⟨.indexAddrS 1 (.reg 4) (.reg 5), none, none⟩, ⟨.load1 (.reg 6), none, none⟩, ⟨.call true false 38 [(.reg 3), (.reg 7)], none, none⟩, ⟨.mov (.reg 8), (some 3), none⟩])
 .ret))⟩
theorem c37 : compFunc Try.prog opts a37 Try.f37 = some t37 := by kernel_rfl
/-- cmp.Compare[int] -/
def a38 : Ann := { slots := [0, 1, 4, 5, 6, 11, 12, 13, 16, 19], lb := [], mu := [], trunc := [], draws := [] }
def t38 : TFunc := ⟨2, 10, [.loc 2],
 (.seq (.region [⟨.mov (.cst (.int .i64 0)), (some 2), none⟩])
 (.seq (.region [⟨.mov (.loc 0), none, none⟩, ⟨.call true false 44 [(.reg 0)], none, none⟩, ⟨.mov (.reg 1), (some 3), none⟩])
 (.seq (.region [⟨.mov (.loc 1), none, none⟩, ⟨.call true false 44 [(.reg 0)], none, none⟩, ⟨.mov (.reg 1), (some 4), none⟩])
 (.seq (.seq (.region [⟨.mov (.loc 3), (some 5), none⟩])
 (.cond (.loc 5)
  (.seq (.seq (.region [⟨.mov (.loc 4), (some 6), none⟩])
  (.cond (.loc 6)
   (.seq (.region [⟨.mov (.cst (.int .i64 0)), (some 2), none⟩])
   .ret)
   .skip))
  (.seq (.region [⟨.mov (.cst (.int .i64 (-1))), (some 2), none⟩])
  .ret))
  .skip))
 (.seq (.seq (.region [⟨.mov (.loc 4), (some 7), none⟩])
 (.cond (.loc 7)
  (.seq (.region [⟨.mov (.cst (.int .i64 1)), (some 2), none⟩])
  .ret)
  .skip))
 (.seq (.seq (.region [⟨.mov (.loc 0), none, none⟩, ⟨.mov (.loc 1), none, none⟩, ⟨.bin .lss (.reg 0) (.reg 1), (some 8), none⟩])
 (.cond (.loc 8)
  (.seq (.region [⟨.mov (.cst (.int .i64 (-1))), (some 2), none⟩])
  .ret)
  .skip))
 (.seq (.seq (.region [⟨.mov (.loc 0), none, none⟩, ⟨.mov (.loc 1), none, none⟩, ⟨.bin .gtr (.reg 0) (.reg 1), (some 9), none⟩])
 (.cond (.loc 9)
  (.seq (.region [⟨.mov (.cst (.int .i64 1)), (some 2), none⟩])
  .ret)
  .skip))
 (.seq (.region [⟨.mov (.cst (.int .i64 0)), (some 2), none⟩])
 .ret))))))))⟩
theorem c38 : compFunc Try.prog opts a38 Try.f38 = some t38 := by kernel_rfl
/-- slices.Delete[[]int,int] -/
def a39 : Ann := { slots := [0, 1, 2, 6, 7, 16], lb := [], mu := [], trunc := [], draws := [(5, ⟨[0, 0, 3, 0, 0, 24, 63, 127], [0, 1, 2, 3, 4, 5], [(6, [], [7])]⟩)] }
def t39 : TFunc := ⟨3, 6, [.loc 3],
 (.seq (.region [⟨.mov (.cst (.sl .nil [])), (some 3), none⟩])
 (.seq (.region [⟨.mov (.loc 0), none, none⟩, ⟨.mov (.loc 1), none, none⟩, ⟨.mov (.loc 2), none, none⟩, ⟨.mov (.loc 0), none, none⟩, ⟨.len .sl (.reg 3), none, none⟩, ⟨.slice (.sl 1) (.reg 0) (some (.reg 1)) (some (.reg 2)) (some (.reg 4)), none, none⟩])
 (.seq (.seq (.region [⟨.mov (.loc 1), none, none⟩, ⟨.mov (.loc 2), none, none⟩, ⟨.bin .eql (.reg 0) (.reg 1), (some 5), none⟩])
 (.cond (.loc 5)
  (.seq (.region [⟨.mov (.loc 0), none, none⟩, ⟨.mov (.reg 0), (some 3), none⟩])
  .ret)
  .skip))
 (.seq (.region [⟨.mov (.loc 0), none, none⟩, ⟨.len .sl (.reg 0), none, none⟩, ⟨.mov (.reg 1), (some 4), none⟩])
 (.seq (.draw [0, 1, 2, 3, 4, 5] [(6, [], [7])] [⟨.mov (.loc 0), none, none⟩, ⟨.mov (.loc 1), none, none⟩, ⟨.slice (.sl 1) (.reg 0) none (some (.reg 1)) none, none, none⟩, ⟨.mov (.loc 0), none, none⟩, ⟨.mov (.loc 2), none, none⟩, ⟨.slice (.sl 1) (.reg 3) (some (.reg 4)) none none, none, none⟩, ⟨.append false 1 8 3 (.reg 2) (.reg 5), none, none⟩, ⟨.mov (.reg 6), (some 0), none⟩])
 (.seq (.region [⟨.mov (.loc 0), none, none⟩, ⟨.mov (.loc 0), none, none⟩, ⟨.len .sl (.reg 1), none, none⟩, ⟨.mov (.loc 4), none, none⟩, ⟨.slice (.sl 1) (.reg 0) (some (.reg 2)) (some (.reg 3)) none, none, none⟩, ⟨.clear [(.int .i64 0)] (.reg 4), none, none⟩])
 (.seq (.region [⟨.mov (.loc 0), none, none⟩, ⟨.mov (.reg 0), (some 3), none⟩])
 .ret)))))))⟩
theorem c39 : compFunc Try.prog opts a39 Try.f39 = some t39 := by kernel_rfl
/-- (*pennant/graph.painter).free -/
def a40 : Ann := { slots := [0, 1, 4, 5, 7, 8, 9, 10, 11, 12, 13, 23, 25, 35, 46, 52], lb := [5], mu := [], trunc := [], draws := [] }
def t40L0 : TCode := (.seq (.seq (.region [⟨.mov (.loc 6), none, none⟩, ⟨.bin .leq (.reg 0) (.cst (.int .i64 24)), (some 14), none⟩])
   (.cond (.loc 14)
    .skip
    (.exit 4)))
   (.seq (.block 5
    (.seq (.region [⟨.mov (.loc 6), none, none⟩, ⟨.indexAddrA 25 1 (.loc 3) (.reg 0), none, none⟩, ⟨.load1 (.reg 1), none, none⟩, ⟨.un .not (.reg 2), (some 15), none⟩])
    (.cond (.loc 15)
     (.seq (.region [⟨.mov (.loc 6), none, none⟩, ⟨.mov (.reg 0), (some 2), none⟩])
     .ret)
     .skip)))
   (.region [⟨.mov (.loc 6), none, none⟩, ⟨.bin .add (.reg 0) (.cst (.int .i64 1)), none, none⟩, ⟨.mov (.reg 1), (some 6), none⟩])))
def t40L1 : TCode := (.seq (.region [⟨.nextM (.loc 11), none, none⟩, ⟨.extract 0 (.reg 0), (some 12), none⟩])
      (.seq (.cond (.loc 12)
       .skip
       (.exit 2))
      (.block 3
       (.seq (.region [⟨.entryM (.loc 11), none, none⟩, ⟨.extract 0 (.reg 0), none, none⟩, ⟨.mov (.reg 1), (some 5), none⟩])
       (.seq (.region [⟨.mov (.loc 0), none, none⟩, ⟨.nilCheck (.reg 0), none, none⟩, ⟨.fieldAddr 6 (.reg 1), none, none⟩, ⟨.load1 (.reg 2), none, none⟩, ⟨.mov (.loc 5), none, none⟩, ⟨.indexAddrS 1 (.reg 3) (.reg 4), none, none⟩, ⟨.load1 (.reg 5), none, none⟩, ⟨.call true false 24 [(.reg 6)], (some 13), none⟩])
       (.cond (.loc 13)
        (.region [⟨.mov (.loc 0), none, none⟩, ⟨.nilCheck (.reg 0), none, none⟩, ⟨.fieldAddr 6 (.reg 1), none, none⟩, ⟨.load1 (.reg 2), none, none⟩, ⟨.mov (.loc 5), none, none⟩, ⟨.indexAddrS 1 (.reg 3) (.reg 4), none, none⟩, ⟨.load1 (.reg 5), none, none⟩, ⟨.indexAddrA 25 1 (.loc 3) (.reg 6), none, none⟩, ⟨.store 1 (.reg 7) (.cst (.bool true)), none, none⟩])
        .skip))))))
def t40L2 : TCode := (.seq (.region [⟨.bin .lss (.loc 9) (.loc 8), (some 10), none⟩])
   (.seq (.cond (.loc 10)
    .skip
    (.exit 0))
   (.seq (.block 1
    (.seq (.region [⟨.indexAddrS 1 (.loc 7) (.loc 9), none, none⟩, ⟨.load1 (.reg 0), none, none⟩, ⟨.mov (.reg 1), (some 4), none⟩])
    (.seq (.region [⟨.mov (.loc 0), none, none⟩, ⟨.nilCheck (.reg 0), none, none⟩, ⟨.fieldAddr 4 (.reg 1), none, none⟩, ⟨.load1 (.reg 2), none, none⟩, ⟨.mov (.loc 4), none, none⟩, ⟨.indexAddrS 1 (.reg 3) (.reg 4), none, none⟩, ⟨.load1 (.reg 5), none, none⟩, ⟨.range false (.reg 6), (some 11), none⟩])
    (.block 2
     (.loop t40L1)))))
   (.region [⟨.bin .add (.loc 9) (.cst (.int .i64 1)), none, none⟩, ⟨.mov (.reg 0), (some 9), none⟩]))))
def t40 : TFunc := ⟨2, 16, [.loc 2],
 (.seq (.region [⟨.mov (.cst (.int .i64 0)), (some 2), none⟩])
 (.seq (.region [⟨.allocL 3 [(.bool false), (.bool false), (.bool false), (.bool false), (.bool false), (.bool false), (.bool false), (.bool false), (.bool false), (.bool false), (.bool false), (.bool false), (.bool false), (.bool false), (.bool false), (.bool false), (.bool false), (.bool false), (.bool false), (.bool false), (.bool false), (.bool false), (.bool false), (.bool false), (.bool false)], none, none⟩])
 (.seq (.seq (.region [⟨.mov (.loc 1), (some 7), none⟩, ⟨.len .sl (.reg 0), (some 8), none⟩, ⟨.mov (.cst (.int .i64 0)), (some 9), none⟩])
 (.block 0
  (.loop t40L2)))
 (.seq (.seq (.region [⟨.mov (.cst (.int .i64 1)), (some 6), none⟩])
 (.block 4
  (.loop t40L0)))
 (.seq (.region [⟨.mov (.cst (.int .i64 (-1))), (some 2), none⟩])
 .ret)))))⟩
theorem c40 : compFunc Try.prog opts a40 Try.f40 = some t40 := by kernel_rfl
/-- slices.IndexFunc[[][2]int,[2]int] -/
def a42 : Ann := { slots := [0, 1, 4, 5, 7, 8, 9, 16], lb := [], mu := [], trunc := [], draws := [] }
def t42L0 : TCode := (.seq (.region [⟨.bin .lss (.loc 5) (.loc 4), (some 6), none⟩])
   (.seq (.cond (.loc 6)
    .skip
    (.exit 0))
   (.seq (.block 1
    (.seq (.region [⟨.mov (.loc 5), none, none⟩, ⟨.mov (.reg 0), (some 3), none⟩])
    (.seq (.region [⟨.mov (.loc 1), none, none⟩, ⟨.mov (.loc 0), none, none⟩, ⟨.mov (.loc 3), none, none⟩, ⟨.indexAddrS 2 (.reg 1) (.reg 2), none, none⟩, ⟨.loadN 2 (.reg 3), none, none⟩, ⟨.callv (.reg 0) [(.reg 4)], (some 7), none⟩])
    (.cond (.loc 7)
     (.seq (.region [⟨.mov (.loc 3), none, none⟩, ⟨.mov (.reg 0), (some 2), none⟩])
     .ret)
     .skip))))
   (.region [⟨.bin .add (.loc 5) (.cst (.int .i64 1)), none, none⟩, ⟨.mov (.reg 0), (some 5), none⟩]))))
def t42 : TFunc := ⟨2, 8, [.loc 2],
 (.seq (.region [⟨.mov (.cst (.int .i64 0)), (some 2), none⟩])
 (.seq (.seq (.region [⟨.mov (.loc 0), none, none⟩, ⟨.len .sl (.reg 0), (some 4), none⟩, ⟨.mov (.cst (.int .i64 0)), (some 5), none⟩])
 (.block 0
  (.loop t42L0)))
 (.seq (.region [⟨.mov (.cst (.int .i64 (-1))), (some 2), none⟩])
 .ret)))⟩
theorem c42 : compFunc Try.prog opts a42 Try.f42 = some t42 := by kernel_rfl
/-- (*pennant/graph.painter).high -/
def a43 : Ann := { slots := [0, 1, 4], lb := [], mu := [], trunc := [], draws := [] }
def t43 : TFunc := ⟨2, 3, [.loc 2],
 (.seq (.region [⟨.mov (.cst (.bool false)), (some 2), none⟩])
 (.seq (.region [⟨.mov (.loc 1), none, none⟩, ⟨.bin .lss (.reg 0) (.cst (.int .i64 32)), none, none⟩, ⟨.mov (.reg 1), none, none⟩, ⟨.mov (.loc 0), none, (some (2, false))⟩, ⟨.nilCheck (.reg 3), none, (some (2, false))⟩, ⟨.fieldAddr 3 (.reg 4), none, (some (2, false))⟩, ⟨.load1 (.reg 5), none, (some (2, false))⟩, ⟨.mov (.loc 1), none, (some (2, false))⟩, ⟨.indexAddrS 1 (.reg 6) (.reg 7), none, (some (2, false))⟩, ⟨.load1 (.reg 8), none, (some (2, false))⟩, ⟨.len .mp (.reg 9), none, (some (2, false))⟩, ⟨.bin .geq (.reg 10) (.cst (.int .i64 24)), none, (some (2, false))⟩, ⟨.pick (.reg 2) (.cst (.bool true)) (.reg 11), none, none⟩, ⟨.mov (.reg 12), (some 2), none⟩])
 .ret))⟩
theorem c43 : compFunc Try.prog opts a43 Try.f43 = some t43 := by kernel_rfl
/-- cmp.isNaN[int] -/
def a44 : Ann := { slots := [0, 2], lb := [], mu := [], trunc := [], draws := [] }
def t44 : TFunc := ⟨1, 2, [.loc 1],
 (.seq (.region [⟨.mov (.cst (.bool false)), (some 1), none⟩])
 (.seq (.region [⟨.mov (.loc 0), none, none⟩, ⟨.mov (.loc 0), none, none⟩, ⟨.bin .neq (.reg 0) (.reg 1), none, none⟩, ⟨.mov (.reg 2), (some 1), none⟩])
 .ret))⟩
theorem c44 : compFunc Try.prog opts a44 Try.f44 = some t44 := by kernel_rfl
def tbl : List (Option TFunc) := [none, none, none, none, some t4, none, none, some t7, some t8, some t9, some t10, some t11, some t12, none, some t14, none, some t16, some t17, some t18, some t19, some t20, some t21, some t22, none, some t24, some t25, some t26, some t27, some t28, some t29, some t30, some t31, some t32, some t33, some t34, some t35, some t36, some t37, some t38, some t39, some t40, none, some t42, some t43, some t44]
def gtbl : List (Option (List IV)) := []
def K : TM.Prog := ⟨fun k => tbl.getD k none, fun g => gtbl.getD g none, fun _ => none⟩
/-- A function that stands in the table. -/
def Good (k : Nat) (tf : TFunc) : Prop := ∃ (A : Ann) (fn : Func), Try.prog.funcs[k]? = some fn ∧ fn.name ≠ "runtime.NumGoroutine" ∧ compFunc Try.prog opts A fn = some tf
theorem n4 : (Try.f4.name == "runtime.NumGoroutine") = false := by kernel_rfl
theorem q4 : Good 4 t4 := ⟨a4, Try.f4, Try.func4, fun e => by have h := n4; rw [e] at h; simp at h, c4⟩
theorem n7 : (Try.f7.name == "runtime.NumGoroutine") = false := by kernel_rfl
theorem q7 : Good 7 t7 := ⟨a7, Try.f7, Try.func7, fun e => by have h := n7; rw [e] at h; simp at h, c7⟩
theorem n8 : (Try.f8.name == "runtime.NumGoroutine") = false := by kernel_rfl
theorem q8 : Good 8 t8 := ⟨a8, Try.f8, Try.func8, fun e => by have h := n8; rw [e] at h; simp at h, c8⟩
theorem n9 : (Try.f9.name == "runtime.NumGoroutine") = false := by kernel_rfl
theorem q9 : Good 9 t9 := ⟨a9, Try.f9, Try.func9, fun e => by have h := n9; rw [e] at h; simp at h, c9⟩
theorem n10 : (Try.f10.name == "runtime.NumGoroutine") = false := by kernel_rfl
theorem q10 : Good 10 t10 := ⟨a10, Try.f10, Try.func10, fun e => by have h := n10; rw [e] at h; simp at h, c10⟩
theorem n11 : (Try.f11.name == "runtime.NumGoroutine") = false := by kernel_rfl
theorem q11 : Good 11 t11 := ⟨a11, Try.f11, Try.func11, fun e => by have h := n11; rw [e] at h; simp at h, c11⟩
theorem n12 : (Try.f12.name == "runtime.NumGoroutine") = false := by kernel_rfl
theorem q12 : Good 12 t12 := ⟨a12, Try.f12, Try.func12, fun e => by have h := n12; rw [e] at h; simp at h, c12⟩
theorem n14 : (Try.f14.name == "runtime.NumGoroutine") = false := by kernel_rfl
theorem q14 : Good 14 t14 := ⟨a14, Try.f14, Try.func14, fun e => by have h := n14; rw [e] at h; simp at h, c14⟩
theorem n16 : (Try.f16.name == "runtime.NumGoroutine") = false := by kernel_rfl
theorem q16 : Good 16 t16 := ⟨a16, Try.f16, Try.func16, fun e => by have h := n16; rw [e] at h; simp at h, c16⟩
theorem n17 : (Try.f17.name == "runtime.NumGoroutine") = false := by kernel_rfl
theorem q17 : Good 17 t17 := ⟨a17, Try.f17, Try.func17, fun e => by have h := n17; rw [e] at h; simp at h, c17⟩
theorem n18 : (Try.f18.name == "runtime.NumGoroutine") = false := by kernel_rfl
theorem q18 : Good 18 t18 := ⟨a18, Try.f18, Try.func18, fun e => by have h := n18; rw [e] at h; simp at h, c18⟩
theorem n19 : (Try.f19.name == "runtime.NumGoroutine") = false := by kernel_rfl
theorem q19 : Good 19 t19 := ⟨a19, Try.f19, Try.func19, fun e => by have h := n19; rw [e] at h; simp at h, c19⟩
theorem n20 : (Try.f20.name == "runtime.NumGoroutine") = false := by kernel_rfl
theorem q20 : Good 20 t20 := ⟨a20, Try.f20, Try.func20, fun e => by have h := n20; rw [e] at h; simp at h, c20⟩
theorem n21 : (Try.f21.name == "runtime.NumGoroutine") = false := by kernel_rfl
theorem q21 : Good 21 t21 := ⟨a21, Try.f21, Try.func21, fun e => by have h := n21; rw [e] at h; simp at h, c21⟩
theorem n22 : (Try.f22.name == "runtime.NumGoroutine") = false := by kernel_rfl
theorem q22 : Good 22 t22 := ⟨a22, Try.f22, Try.func22, fun e => by have h := n22; rw [e] at h; simp at h, c22⟩
theorem n24 : (Try.f24.name == "runtime.NumGoroutine") = false := by kernel_rfl
theorem q24 : Good 24 t24 := ⟨a24, Try.f24, Try.func24, fun e => by have h := n24; rw [e] at h; simp at h, c24⟩
theorem n25 : (Try.f25.name == "runtime.NumGoroutine") = false := by kernel_rfl
theorem q25 : Good 25 t25 := ⟨a25, Try.f25, Try.func25, fun e => by have h := n25; rw [e] at h; simp at h, c25⟩
theorem n26 : (Try.f26.name == "runtime.NumGoroutine") = false := by kernel_rfl
theorem q26 : Good 26 t26 := ⟨a26, Try.f26, Try.func26, fun e => by have h := n26; rw [e] at h; simp at h, c26⟩
theorem n27 : (Try.f27.name == "runtime.NumGoroutine") = false := by kernel_rfl
theorem q27 : Good 27 t27 := ⟨a27, Try.f27, Try.func27, fun e => by have h := n27; rw [e] at h; simp at h, c27⟩
theorem n28 : (Try.f28.name == "runtime.NumGoroutine") = false := by kernel_rfl
theorem q28 : Good 28 t28 := ⟨a28, Try.f28, Try.func28, fun e => by have h := n28; rw [e] at h; simp at h, c28⟩
theorem n29 : (Try.f29.name == "runtime.NumGoroutine") = false := by kernel_rfl
theorem q29 : Good 29 t29 := ⟨a29, Try.f29, Try.func29, fun e => by have h := n29; rw [e] at h; simp at h, c29⟩
theorem n30 : (Try.f30.name == "runtime.NumGoroutine") = false := by kernel_rfl
theorem q30 : Good 30 t30 := ⟨a30, Try.f30, Try.func30, fun e => by have h := n30; rw [e] at h; simp at h, c30⟩
theorem n31 : (Try.f31.name == "runtime.NumGoroutine") = false := by kernel_rfl
theorem q31 : Good 31 t31 := ⟨a31, Try.f31, Try.func31, fun e => by have h := n31; rw [e] at h; simp at h, c31⟩
theorem n32 : (Try.f32.name == "runtime.NumGoroutine") = false := by kernel_rfl
theorem q32 : Good 32 t32 := ⟨a32, Try.f32, Try.func32, fun e => by have h := n32; rw [e] at h; simp at h, c32⟩
theorem n33 : (Try.f33.name == "runtime.NumGoroutine") = false := by kernel_rfl
theorem q33 : Good 33 t33 := ⟨a33, Try.f33, Try.func33, fun e => by have h := n33; rw [e] at h; simp at h, c33⟩
theorem n34 : (Try.f34.name == "runtime.NumGoroutine") = false := by kernel_rfl
theorem q34 : Good 34 t34 := ⟨a34, Try.f34, Try.func34, fun e => by have h := n34; rw [e] at h; simp at h, c34⟩
theorem n35 : (Try.f35.name == "runtime.NumGoroutine") = false := by kernel_rfl
theorem q35 : Good 35 t35 := ⟨a35, Try.f35, Try.func35, fun e => by have h := n35; rw [e] at h; simp at h, c35⟩
theorem n36 : (Try.f36.name == "runtime.NumGoroutine") = false := by kernel_rfl
theorem q36 : Good 36 t36 := ⟨a36, Try.f36, Try.func36, fun e => by have h := n36; rw [e] at h; simp at h, c36⟩
theorem n37 : (Try.f37.name == "runtime.NumGoroutine") = false := by kernel_rfl
theorem q37 : Good 37 t37 := ⟨a37, Try.f37, Try.func37, fun e => by have h := n37; rw [e] at h; simp at h, c37⟩
theorem n38 : (Try.f38.name == "runtime.NumGoroutine") = false := by kernel_rfl
theorem q38 : Good 38 t38 := ⟨a38, Try.f38, Try.func38, fun e => by have h := n38; rw [e] at h; simp at h, c38⟩
theorem n39 : (Try.f39.name == "runtime.NumGoroutine") = false := by kernel_rfl
theorem q39 : Good 39 t39 := ⟨a39, Try.f39, Try.func39, fun e => by have h := n39; rw [e] at h; simp at h, c39⟩
theorem n40 : (Try.f40.name == "runtime.NumGoroutine") = false := by kernel_rfl
theorem q40 : Good 40 t40 := ⟨a40, Try.f40, Try.func40, fun e => by have h := n40; rw [e] at h; simp at h, c40⟩
theorem n42 : (Try.f42.name == "runtime.NumGoroutine") = false := by kernel_rfl
theorem q42 : Good 42 t42 := ⟨a42, Try.f42, Try.func42, fun e => by have h := n42; rw [e] at h; simp at h, c42⟩
theorem n43 : (Try.f43.name == "runtime.NumGoroutine") = false := by kernel_rfl
theorem q43 : Good 43 t43 := ⟨a43, Try.f43, Try.func43, fun e => by have h := n43; rw [e] at h; simp at h, c43⟩
theorem n44 : (Try.f44.name == "runtime.NumGoroutine") = false := by kernel_rfl
theorem q44 : Good 44 t44 := ⟨a44, Try.f44, Try.func44, fun e => by have h := n44; rw [e] at h; simp at h, c44⟩
theorem good : AllAt Good 0 tbl := ⟨q4, q7, q8, q9, q10, q11, q12, q14, q16, q17, q18, q19, q20, q21, q22, q24, q25, q26, q27, q28, q29, q30, q31, q32, q33, q34, q35, q36, q37, q38, q39, q40, q42, q43, q44, trivial⟩
theorem kok : KOK Try.prog opts K := ⟨fun k tf h => allAt_get good k tf h, fun f p h => by simp [K] at h, by kernel_rfl⟩
end Go.Proofs.Ytmlhjdekfihdnaa
