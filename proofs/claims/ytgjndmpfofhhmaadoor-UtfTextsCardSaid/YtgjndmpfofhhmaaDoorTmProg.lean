/- The functions of this seat, compiled for the evaluator TM; each held against the translation by the kernel. By program. Condition: none. -/
import Derived.Test.YtgjndmpfofhhmaaDoorRows
import Derived.Test.YtgjndmpfofhhmaaDoorTmD
set_option maxRecDepth 100000
set_option linter.unusedVariables false
namespace Go.Proofs.YtgjndmpfofhhmaaDoor
open Go Go.TM
def opts : Opts := ⟨fun f => ([29, 31, 40, 41, 42, 43, 44, 45, 46] : List Nat).contains f, fun f => ([] : List Nat).contains f⟩
/-- pennant/pennantlaw06.UtfChars -/
def a3 : Ann := { slots := [0, 1, 2, 6, 7, 8, 9, 10, 11, 12, 13, 14, 15, 16], lb := [], mu := [], trunc := [], draws := [] }
def t3 : TFunc := ⟨3, 14, [.loc 3],
 (.seq (.region [⟨.mov (.cst (.bool false)), (some 3), none⟩])
 (.seq (.region [⟨.mov (.loc 1), none, none⟩, ⟨.call true false 9 [(.reg 0)], none, none⟩, ⟨.mov (.reg 1), (some 1), none⟩])
 (.seq (.region [⟨.mov (.loc 0), none, none⟩, ⟨.call true false 10 [(.reg 0)], none, none⟩, ⟨.mov (.reg 1), none, none⟩, ⟨.extract 0 (.reg 2), none, none⟩, ⟨.extract 1 (.reg 2), none, none⟩, ⟨.mov (.reg 3), (some 4), none⟩, ⟨.mov (.reg 4), (some 5), none⟩])
 (.seq (.region [⟨.mov (.loc 0), none, none⟩, ⟨.call true false 11 [(.reg 0)], none, none⟩, ⟨.mov (.reg 1), none, none⟩, ⟨.extract 0 (.reg 2), none, none⟩, ⟨.extract 1 (.reg 2), none, none⟩, ⟨.mov (.reg 3), (some 6), none⟩, ⟨.mov (.reg 4), (some 7), none⟩])
 (.seq (.region [⟨.mov (.loc 1), none, none⟩, ⟨.mov (.loc 2), none, none⟩, ⟨.call true false 12 [(.reg 0), (.reg 1)], none, none⟩, ⟨.mov (.reg 2), none, none⟩, ⟨.extract 0 (.reg 3), none, none⟩, ⟨.extract 1 (.reg 3), none, none⟩, ⟨.extract 2 (.reg 3), none, none⟩, ⟨.mov (.reg 4), (some 8), none⟩, ⟨.mov (.reg 5), (some 9), none⟩, ⟨.mov (.reg 6), (some 10), none⟩])
 (.seq (.region [⟨.mov (.loc 1), none, none⟩, ⟨.mov (.loc 2), none, none⟩, ⟨.call true false 13 [(.reg 0), (.reg 1)], none, none⟩, ⟨.mov (.reg 2), none, none⟩, ⟨.extract 0 (.reg 3), none, none⟩, ⟨.extract 1 (.reg 3), none, none⟩, ⟨.extract 2 (.reg 3), none, none⟩, ⟨.mov (.reg 4), (some 11), none⟩, ⟨.mov (.reg 5), (some 12), none⟩, ⟨.mov (.reg 6), (some 13), none⟩])
 (.seq (.region [⟨.mov (.loc 0), none, none⟩, ⟨.call true false 14 [(.reg 0)], none, none⟩, ⟨.mov (.loc 0), none, none⟩, ⟨.call true false 15 [(.reg 2)], none, none⟩, ⟨.eqB false .bool (.reg 1) (.reg 3), none, none⟩, ⟨.mov (.reg 4), none, none⟩, ⟨.mov (.loc 4), none, (some (5, true))⟩, ⟨.mov (.loc 6), none, (some (5, true))⟩, ⟨.bin .eql (.reg 6) (.reg 7), none, (some (5, true))⟩, ⟨.pick (.reg 5) (.reg 8) (.cst (.bool false)), none, none⟩, ⟨.mov (.reg 9), none, none⟩, ⟨.mov (.loc 5), none, (some (10, true))⟩, ⟨.mov (.loc 7), none, (some (10, true))⟩, ⟨.bin .eql (.reg 11) (.reg 12), none, (some (10, true))⟩, ⟨.pick (.reg 10) (.reg 13) (.cst (.bool false)), none, none⟩, ⟨.mov (.reg 14), none, none⟩, ⟨.mov (.loc 8), none, (some (15, true))⟩, ⟨.mov (.loc 11), none, (some (15, true))⟩, ⟨.bin .eql (.reg 16) (.reg 17), none, (some (15, true))⟩, ⟨.pick (.reg 15) (.reg 18) (.cst (.bool false)), none, none⟩, ⟨.mov (.reg 19), none, none⟩, ⟨.mov (.loc 9), none, (some (20, true))⟩, ⟨.mov (.loc 12), none, (some (20, true))⟩, ⟨.bin .eql (.reg 21) (.reg 22), none, (some (20, true))⟩, ⟨.pick (.reg 20) (.reg 23) (.cst (.bool false)), none, none⟩, ⟨.mov (.reg 24), none, none⟩, ⟨.mov (.loc 10), none, (some (25, true))⟩, ⟨.mov (.loc 13), none, (some (25, true))⟩, ⟨.bin .eql (.reg 26) (.reg 27), none, (some (25, true))⟩, ⟨.pick (.reg 25) (.reg 28) (.cst (.bool false)), none, none⟩, ⟨.mov (.reg 29), none, none⟩, ⟨.call true false 16 [], none, (some (30, true))⟩, ⟨.pick (.reg 30) (.reg 31) (.cst (.bool false)), none, none⟩, ⟨.mov (.reg 32), (some 3), none⟩])
 .ret)))))))⟩
theorem c3 : compFunc Tryd.prog opts a3 Tryd.f3 = some t3 := by kernel_rfl
/-- pennant/pennantlaw06.UtfBack -/
def a4 : Ann := { slots := [0, 1, 2, 6, 7, 8, 9, 10, 11, 12, 15, 26, 69], lb := [], mu := [], trunc := [], draws := [] }
def t4 : TFunc := ⟨3, 13, [.loc 3],
 (.seq (.region [⟨.mov (.cst (.bool false)), (some 3), none⟩])
 (.seq (.region [⟨.mov (.loc 1), none, none⟩, ⟨.call true false 9 [(.reg 0)], none, none⟩, ⟨.mov (.loc 2), none, none⟩, ⟨.call true false 9 [(.reg 2)], none, none⟩, ⟨.mov (.reg 1), (some 1), none⟩, ⟨.mov (.reg 3), (some 2), none⟩])
 (.seq (.region [⟨.mov (.loc 0), none, none⟩, ⟨.call true false 10 [(.reg 0)], none, none⟩, ⟨.mov (.reg 1), none, none⟩, ⟨.extract 0 (.reg 2), none, none⟩, ⟨.extract 1 (.reg 2), none, none⟩, ⟨.mov (.reg 3), (some 4), none⟩, ⟨.mov (.reg 4), (some 5), none⟩])
 (.seq (.seq (.region [⟨.mov (.loc 5), none, none⟩, ⟨.bin .neq (.reg 0) (.cst (.int .i64 0)), (some 11), none⟩])
 (.cond (.loc 11)
  (.seq (.region [⟨.mov (.loc 0), none, none⟩, ⟨.call true false 14 [(.reg 0)], none, none⟩, ⟨.un .not (.reg 1), none, none⟩, ⟨.mov (.reg 2), none, none⟩, ⟨.mov (.loc 4), none, (some (3, true))⟩, ⟨.bin .eql (.reg 4) (.cst (.str [])), none, (some (3, true))⟩, ⟨.pick (.reg 3) (.reg 5) (.cst (.bool false)), none, none⟩, ⟨.mov (.reg 6), none, none⟩, ⟨.call true false 16 [], none, (some (7, true))⟩, ⟨.pick (.reg 7) (.reg 8) (.cst (.bool false)), none, none⟩, ⟨.mov (.reg 9), (some 3), none⟩])
  .ret)
  .skip))
 (.seq (.region [⟨.lit false [(.int .u8 0)] 0 [], none, none⟩, ⟨.mov (.loc 1), none, none⟩, ⟨.append false 1 1 5 (.reg 0) (.reg 1), none, none⟩, ⟨.mov (.loc 4), none, none⟩, ⟨.append false 1 1 5 (.reg 2) (.reg 3), none, none⟩, ⟨.mov (.loc 2), none, none⟩, ⟨.append false 1 1 5 (.reg 4) (.reg 5), none, none⟩, ⟨.mov (.reg 6), (some 6), none⟩])
 (.seq (.region [⟨.mov (.loc 6), none, none⟩, ⟨.mov (.loc 1), none, none⟩, ⟨.len .sl (.reg 1), none, none⟩, ⟨.call true false 12 [(.reg 0), (.reg 2)], none, none⟩, ⟨.mov (.reg 3), none, none⟩, ⟨.extract 0 (.reg 4), none, none⟩, ⟨.extract 1 (.reg 4), none, none⟩, ⟨.extract 2 (.reg 4), none, none⟩, ⟨.mov (.reg 5), (some 7), none⟩, ⟨.mov (.reg 6), (some 8), none⟩, ⟨.mov (.reg 7), (some 9), none⟩])
 (.seq (.seq (.region [⟨.mov (.loc 4), none, none⟩, ⟨.len .str (.reg 0), none, none⟩, ⟨.bin .lss (.reg 1) (.cst (.int .i64 1)), none, none⟩, ⟨.mov (.reg 2), none, none⟩, ⟨.mov (.loc 7), none, (some (3, false))⟩, ⟨.mov (.loc 0), none, (some (3, false))⟩, ⟨.bin .neq (.reg 4) (.reg 5), none, (some (3, false))⟩, ⟨.pick (.reg 3) (.cst (.bool true)) (.reg 6), none, none⟩, ⟨.mov (.reg 7), none, none⟩, ⟨.mov (.loc 8), none, (some (8, false))⟩, ⟨.mov (.loc 4), none, (some (8, false))⟩, ⟨.len .str (.reg 10), none, (some (8, false))⟩, ⟨.bin .neq (.reg 9) (.reg 11), none, (some (8, false))⟩, ⟨.pick (.reg 8) (.cst (.bool true)) (.reg 12), none, none⟩, ⟨.mov (.reg 13), none, none⟩, ⟨.mov (.loc 9), none, (some (14, false))⟩, ⟨.bin .neq (.reg 15) (.cst (.int .i64 0)), none, (some (14, false))⟩, ⟨.pick (.reg 14) (.cst (.bool true)) (.reg 16), (some 12), none⟩])
 (.cond (.loc 12)
  (.seq (.region [⟨.mov (.cst (.bool false)), (some 3), none⟩])
  .ret)
  .skip))
 (.seq (.region [⟨.mov (.loc 4), none, none⟩, ⟨.mov (.loc 4), none, none⟩, ⟨.len .str (.reg 1), none, none⟩, ⟨.bin .sub (.reg 2) (.cst (.int .i64 1)), none, none⟩, ⟨.slice .str (.reg 0) none (some (.reg 3)) none, none, none⟩, ⟨.conv .strBytes (.reg 4), none, none⟩, ⟨.call true false 12 [(.reg 5), (.cst (.int .i64 0))], none, none⟩, ⟨.mov (.reg 6), none, none⟩, ⟨.extract 0 (.reg 7), none, none⟩, ⟨.extract 1 (.reg 7), none, none⟩, ⟨.extract 2 (.reg 7), none, none⟩, ⟨.mov (.reg 8), none, none⟩, ⟨.mov (.reg 9), none, none⟩, ⟨.mov (.reg 10), (some 10), none⟩])
 (.seq (.region [⟨.mov (.loc 10), none, none⟩, ⟨.bin .neq (.reg 0) (.cst (.int .i64 0)), none, none⟩, ⟨.mov (.reg 1), none, none⟩, ⟨.mov (.loc 0), none, (some (2, true))⟩, ⟨.call true false 14 [(.reg 3)], none, (some (2, true))⟩, ⟨.pick (.reg 2) (.reg 4) (.cst (.bool false)), none, none⟩, ⟨.mov (.reg 5), none, none⟩, ⟨.call true false 16 [], none, (some (6, true))⟩, ⟨.pick (.reg 6) (.reg 7) (.cst (.bool false)), none, none⟩, ⟨.mov (.reg 8), (some 3), none⟩])
 .ret)))))))))⟩
theorem c4 : compFunc Tryd.prog opts a4 Tryd.f4 = some t4 := by kernel_rfl
/-- pennant/pennantlaw06.UtfApart -/
def a5 : Ann := { slots := [0, 1, 4, 5, 6, 7, 8, 9, 25], lb := [], mu := [], trunc := [], draws := [(6, ⟨[0, 1, 3, 7, 7, 31, 7, 7, 199, 511, 7, 7, 3079, 8191, 16383, 32767, 65535, 65535, 262143, 65535, 65535, 1638399, 4194303, 8388607, 16777215, 33554431, 67108863, 134217727], [0, 1, 2, 3, 4, 5, 6, 7, 8, 9, 10, 11, 12, 13, 14, 15, 16, 17, 18, 19, 20, 21, 22, 23, 24], [(25, [], [26, 27])]⟩)] }
def t5 : TFunc := ⟨2, 9, [.loc 2],
 (.seq (.region [⟨.mov (.cst (.bool false)), (some 2), none⟩])
 (.seq (.region [⟨.mov (.loc 0), none, none⟩, ⟨.call true false 10 [(.reg 0)], none, none⟩, ⟨.mov (.reg 1), none, none⟩, ⟨.extract 0 (.reg 2), none, none⟩, ⟨.extract 1 (.reg 2), none, none⟩, ⟨.mov (.reg 3), (some 3), none⟩, ⟨.mov (.reg 4), (some 4), none⟩])
 (.seq (.region [⟨.mov (.loc 1), none, none⟩, ⟨.call true false 10 [(.reg 0)], none, none⟩, ⟨.mov (.reg 1), none, none⟩, ⟨.extract 0 (.reg 2), none, none⟩, ⟨.extract 1 (.reg 2), none, none⟩, ⟨.mov (.reg 3), (some 5), none⟩, ⟨.mov (.reg 4), (some 6), none⟩])
 (.seq (.seq (.region [⟨.mov (.loc 4), none, none⟩, ⟨.bin .neq (.reg 0) (.cst (.int .i64 0)), none, none⟩, ⟨.mov (.reg 1), none, none⟩, ⟨.mov (.loc 6), none, (some (2, false))⟩, ⟨.bin .neq (.reg 3) (.cst (.int .i64 0)), none, (some (2, false))⟩, ⟨.pick (.reg 2) (.cst (.bool true)) (.reg 4), (some 8), none⟩])
 (.cond (.loc 8)
  (.seq (.region [⟨.call true false 16 [], none, none⟩, ⟨.mov (.reg 0), (some 2), none⟩])
  .ret)
  .skip))
 (.seq (.region [⟨.mov (.loc 3), none, none⟩, ⟨.len .str (.reg 0), none, none⟩, ⟨.mov (.loc 5), none, none⟩, ⟨.len .str (.reg 2), none, none⟩, ⟨.minmax false [(.reg 1), (.reg 3)], none, none⟩, ⟨.mov (.reg 4), (some 7), none⟩])
 (.seq (.draw [0, 1, 2, 3, 4, 5, 6, 7, 8, 9, 10, 11, 12, 13, 14, 15, 16, 17, 18, 19, 20, 21, 22, 23, 24] [(25, [], [26, 27])] [⟨.mov (.loc 7), none, none⟩, ⟨.bin .gtr (.reg 0) (.cst (.int .i64 0)), none, none⟩, ⟨.mov (.reg 1), none, none⟩, ⟨.mov (.loc 3), none, (some (2, true))⟩, ⟨.mov (.loc 7), none, (some (2, true))⟩, ⟨.slice .str (.reg 3) none (some (.reg 4)) none, none, (some (2, true))⟩, ⟨.mov (.loc 5), none, (some (2, true))⟩, ⟨.mov (.loc 7), none, (some (2, true))⟩, ⟨.slice .str (.reg 6) none (some (.reg 7)) none, none, (some (2, true))⟩, ⟨.bin .eql (.reg 5) (.reg 8), none, (some (2, true))⟩, ⟨.mov (.loc 0), none, (some (2, true))⟩, ⟨.mov (.loc 1), none, (some (2, true))⟩, ⟨.bin .eql (.reg 10) (.reg 11), none, (some (2, true))⟩, ⟨.eqB false .bool (.reg 9) (.reg 12), none, (some (2, true))⟩, ⟨.pick (.reg 2) (.reg 13) (.cst (.bool false)), none, none⟩, ⟨.mov (.reg 14), none, none⟩, ⟨.mov (.loc 3), none, (some (15, true))⟩, ⟨.mov (.loc 5), none, (some (15, true))⟩, ⟨.bin .lss (.reg 16) (.reg 17), none, (some (15, true))⟩, ⟨.mov (.loc 0), none, (some (15, true))⟩, ⟨.mov (.loc 1), none, (some (15, true))⟩, ⟨.bin .lss (.reg 19) (.reg 20), none, (some (15, true))⟩, ⟨.eqB false .bool (.reg 18) (.reg 21), none, (some (15, true))⟩, ⟨.pick (.reg 15) (.reg 22) (.cst (.bool false)), none, none⟩, ⟨.mov (.reg 23), none, none⟩, ⟨.call true false 16 [], none, (some (24, true))⟩, ⟨.pick (.reg 24) (.reg 25) (.cst (.bool false)), none, none⟩, ⟨.mov (.reg 26), (some 2), none⟩])
 .ret))))))⟩
theorem c5 : compFunc Tryd.prog opts a5 Tryd.f5 = some t5 := by kernel_rfl
/-- pennant/pennantlaw06.UtfTexts -/
def a6 : Ann := { slots := [0, 1, 4, 5, 6, 7, 8, 9, 10, 11, 12, 13, 14, 15, 16, 17, 18, 53, 57, 83], lb := [6], mu := [], trunc := [], draws := [(10, ⟨[0, 0, 3, 7, 15, 0, 0, 96, 224, 480, 1023, 2047, 4095, 4095, 16383, 32767, 65535, 4095, 4095, 397311, 921599, 1970175, 4194303, 8388607], [0, 1, 2, 3, 4, 5, 6, 7, 8, 9, 10, 11, 12, 13, 14, 15, 16, 17, 18, 19, 20, 21, 22, 23], []⟩)] }
def t6L0 : TCode := (.seq (.seq (.region [⟨.mov (.loc 8), none, none⟩, ⟨.mov (.loc 3), none, none⟩, ⟨.len .sl (.reg 1), none, none⟩, ⟨.bin .lss (.reg 0) (.reg 2), (some 18), none⟩])
   (.cond (.loc 18)
    .skip
    (.exit 0)))
   (.seq (.block 1
    (.seq (.draw [0, 1, 2, 3, 4, 5, 6, 7, 8, 9, 10, 11, 12, 13, 14, 15, 16, 17, 18, 19, 20, 21, 22, 23] [] [⟨.mov (.loc 3), none, none⟩, ⟨.mov (.loc 8), none, none⟩, ⟨.indexAddrS 2 (.reg 0) (.reg 1), none, none⟩, ⟨.fieldAddr 0 (.reg 2), none, none⟩, ⟨.load1 (.reg 3), none, none⟩, ⟨.mov (.loc 5), none, none⟩, ⟨.mov (.loc 8), none, none⟩, ⟨.indexAddrS 2 (.reg 5) (.reg 6), none, none⟩, ⟨.fieldAddr 0 (.reg 7), none, none⟩, ⟨.load1 (.reg 8), none, none⟩, ⟨.bin .neq (.reg 4) (.reg 9), none, none⟩, ⟨.mov (.reg 10), none, none⟩, ⟨.mov (.loc 3), none, (some (11, false))⟩, ⟨.mov (.loc 8), none, (some (11, false))⟩, ⟨.indexAddrS 2 (.reg 12) (.reg 13), none, (some (11, false))⟩, ⟨.fieldAddr 1 (.reg 14), none, (some (11, false))⟩, ⟨.load1 (.reg 15), none, (some (11, false))⟩, ⟨.mov (.loc 5), none, (some (11, false))⟩, ⟨.mov (.loc 8), none, (some (11, false))⟩, ⟨.indexAddrS 2 (.reg 17) (.reg 18), none, (some (11, false))⟩, ⟨.fieldAddr 1 (.reg 19), none, (some (11, false))⟩, ⟨.load1 (.reg 20), none, (some (11, false))⟩, ⟨.bin .neq (.reg 16) (.reg 21), none, (some (11, false))⟩, ⟨.pick (.reg 11) (.cst (.bool true)) (.reg 22), (some 19), none⟩])
    (.cond (.loc 19)
     (.seq (.region [⟨.mov (.cst (.bool false)), (some 2), none⟩])
     .ret)
     .skip)))
   (.region [⟨.mov (.loc 8), none, none⟩, ⟨.bin .add (.reg 0) (.cst (.int .i64 1)), none, none⟩, ⟨.mov (.reg 1), (some 8), none⟩])))
def t6 : TFunc := ⟨2, 20, [.loc 2],
 (.seq (.region [⟨.mov (.cst (.bool false)), (some 2), none⟩])
 (.seq (.region [⟨.mov (.loc 0), none, none⟩, ⟨.call true false 9 [(.reg 0)], none, none⟩, ⟨.mov (.reg 1), (some 0), none⟩])
 (.seq (.region [⟨.mov (.loc 1), none, none⟩, ⟨.mov (.loc 1), none, none⟩, ⟨.len .sl (.reg 1), none, none⟩, ⟨.minmax false [(.reg 2), (.cst (.int .i64 2000))], none, none⟩, ⟨.slice (.sl 1) (.reg 0) none (some (.reg 3)) none, none, none⟩, ⟨.mov (.reg 4), (some 1), none⟩])
 (.seq (.region [⟨.mov (.loc 0), none, none⟩, ⟨.call true false 17 [(.reg 0)], none, none⟩, ⟨.mov (.reg 1), none, none⟩, ⟨.extract 0 (.reg 2), none, none⟩, ⟨.extract 1 (.reg 2), none, none⟩, ⟨.allocL 4 [(.int .i64 0), (.int .i64 0)], none, none⟩, ⟨.mov (.reg 3), (some 3), none⟩, ⟨.store 2 (.reg 5) (.reg 4), none, none⟩])
 (.seq (.region [⟨.mov (.loc 0), none, none⟩, ⟨.call true false 18 [(.reg 0)], none, none⟩, ⟨.mov (.reg 1), none, none⟩, ⟨.extract 0 (.reg 2), none, none⟩, ⟨.extract 1 (.reg 2), none, none⟩, ⟨.extract 2 (.reg 2), none, none⟩, ⟨.mov (.reg 3), (some 5), none⟩, ⟨.mov (.reg 4), (some 6), none⟩, ⟨.mov (.reg 5), (some 7), none⟩])
 (.seq (.seq (.region [⟨.fieldAddr 0 (.loc 4), none, none⟩, ⟨.load1 (.reg 0), none, none⟩, ⟨.mov (.loc 6), none, none⟩, ⟨.bin .neq (.reg 1) (.reg 2), none, none⟩, ⟨.mov (.reg 3), none, none⟩, ⟨.fieldAddr 1 (.loc 4), none, (some (4, false))⟩, ⟨.load1 (.reg 5), none, (some (4, false))⟩, ⟨.mov (.loc 7), none, (some (4, false))⟩, ⟨.bin .neq (.reg 6) (.reg 7), none, (some (4, false))⟩, ⟨.pick (.reg 4) (.cst (.bool true)) (.reg 8), none, none⟩, ⟨.mov (.reg 9), none, none⟩, ⟨.mov (.loc 3), none, (some (10, false))⟩, ⟨.len .sl (.reg 11), none, (some (10, false))⟩, ⟨.mov (.loc 5), none, (some (10, false))⟩, ⟨.len .sl (.reg 13), none, (some (10, false))⟩, ⟨.bin .neq (.reg 12) (.reg 14), none, (some (10, false))⟩, ⟨.pick (.reg 10) (.cst (.bool true)) (.reg 15), (some 17), none⟩])
 (.cond (.loc 17)
  (.seq (.region [⟨.mov (.cst (.bool false)), (some 2), none⟩])
  .ret)
  .skip))
 (.seq (.seq (.region [⟨.mov (.cst (.int .i64 0)), (some 8), none⟩])
 (.block 0
  (.loop t6L0)))
 (.seq (.region [⟨.mov (.loc 0), none, none⟩, ⟨.conv .bytesStr (.reg 0), none, none⟩, ⟨.call true false 19 [(.reg 1)], none, none⟩, ⟨.mov (.reg 2), none, none⟩, ⟨.extract 0 (.reg 3), none, none⟩, ⟨.extract 1 (.reg 3), none, none⟩, ⟨.mov (.reg 4), (some 9), none⟩, ⟨.mov (.reg 5), (some 10), none⟩])
 (.seq (.region [⟨.mov (.loc 0), none, none⟩, ⟨.conv .bytesStr (.reg 0), none, none⟩, ⟨.call true false 20 [(.reg 1)], none, none⟩, ⟨.mov (.reg 2), none, none⟩, ⟨.extract 0 (.reg 3), none, none⟩, ⟨.extract 1 (.reg 3), none, none⟩, ⟨.mov (.reg 4), (some 11), none⟩, ⟨.mov (.reg 5), (some 12), none⟩])
 (.seq (.region [⟨.mov (.loc 1), none, none⟩, ⟨.call true false 21 [(.reg 0)], none, none⟩, ⟨.mov (.reg 1), none, none⟩, ⟨.extract 0 (.reg 2), none, none⟩, ⟨.extract 1 (.reg 2), none, none⟩, ⟨.mov (.reg 3), (some 13), none⟩, ⟨.mov (.reg 4), (some 14), none⟩])
 (.seq (.region [⟨.mov (.loc 1), none, none⟩, ⟨.call true false 22 [(.reg 0)], none, none⟩, ⟨.mov (.reg 1), none, none⟩, ⟨.extract 0 (.reg 2), none, none⟩, ⟨.extract 1 (.reg 2), none, none⟩, ⟨.mov (.reg 3), (some 15), none⟩, ⟨.mov (.reg 4), (some 16), none⟩])
 (.seq (.region [⟨.mov (.loc 9), none, none⟩, ⟨.mov (.loc 11), none, none⟩, ⟨.call true false 23 [(.reg 0), (.reg 1)], none, none⟩, ⟨.mov (.reg 2), none, none⟩, ⟨.mov (.loc 10), none, (some (3, true))⟩, ⟨.mov (.loc 12), none, (some (3, true))⟩, ⟨.bin .eql (.reg 4) (.reg 5), none, (some (3, true))⟩, ⟨.pick (.reg 3) (.reg 6) (.cst (.bool false)), none, none⟩, ⟨.mov (.reg 7), none, none⟩, ⟨.mov (.loc 13), none, (some (8, true))⟩, ⟨.mov (.loc 15), none, (some (8, true))⟩, ⟨.bin .eql (.reg 9) (.reg 10), none, (some (8, true))⟩, ⟨.pick (.reg 8) (.reg 11) (.cst (.bool false)), none, none⟩, ⟨.mov (.reg 12), none, none⟩, ⟨.mov (.loc 14), none, (some (13, true))⟩, ⟨.mov (.loc 16), none, (some (13, true))⟩, ⟨.bin .eql (.reg 14) (.reg 15), none, (some (13, true))⟩, ⟨.pick (.reg 13) (.reg 16) (.cst (.bool false)), none, none⟩, ⟨.mov (.reg 17), none, none⟩, ⟨.call true false 16 [], none, (some (18, true))⟩, ⟨.pick (.reg 18) (.reg 19) (.cst (.bool false)), none, none⟩, ⟨.mov (.reg 20), (some 2), none⟩])
 .ret))))))))))))⟩
theorem c6 : compFunc Tryd.prog opts a6 Tryd.f6 = some t6 := by kernel_rfl
/-- pennant/pennantlaw06.UtfOnce -/
def a7 : Ann := { slots := [0, 2, 3, 4, 7, 9, 10, 11, 12, 13, 14, 15, 16, 17, 18, 28, 48, 78, 121], lb := [9, 4], mu := [], trunc := [], draws := [] }
def t7L0 : TCode := (.seq (.seq (.region [⟨.mov (.loc 8), none, none⟩, ⟨.mov (.loc 2), none, none⟩, ⟨.len .sl (.reg 1), none, none⟩, ⟨.bin .lss (.reg 0) (.reg 2), (some 17), none⟩])
   (.cond (.loc 17)
    .skip
    (.exit 0)))
   (.seq (.block 1
    (.seq (.region [⟨.mov (.loc 2), none, none⟩, ⟨.mov (.loc 8), none, none⟩, ⟨.indexAddrS 2 (.reg 0) (.reg 1), none, none⟩, ⟨.fieldAddr 0 (.reg 2), none, none⟩, ⟨.load1 (.reg 3), none, none⟩, ⟨.call true false 10 [(.reg 4)], none, none⟩, ⟨.mov (.reg 5), none, none⟩, ⟨.extract 0 (.reg 6), none, none⟩, ⟨.extract 1 (.reg 6), none, none⟩, ⟨.mov (.reg 7), (some 9), none⟩, ⟨.mov (.reg 8), (some 10), none⟩])
    (.seq (.seq (.region [⟨.mov (.loc 10), none, none⟩, ⟨.bin .neq (.reg 0) (.cst (.int .i64 0)), none, none⟩, ⟨.mov (.reg 1), none, none⟩, ⟨.mov (.loc 2), none, (some (2, false))⟩, ⟨.mov (.loc 8), none, (some (2, false))⟩, ⟨.indexAddrS 2 (.reg 3) (.reg 4), none, (some (2, false))⟩, ⟨.fieldAddr 1 (.reg 5), none, (some (2, false))⟩, ⟨.load1 (.reg 6), none, (some (2, false))⟩, ⟨.mov (.loc 6), none, (some (2, false))⟩, ⟨.bin .neq (.reg 7) (.reg 8), none, (some (2, false))⟩, ⟨.pick (.reg 2) (.cst (.bool true)) (.reg 9), none, none⟩, ⟨.mov (.reg 10), none, none⟩, ⟨.mov (.loc 6), none, (some (11, false))⟩, ⟨.mov (.loc 9), none, (some (11, false))⟩, ⟨.len .str (.reg 13), none, (some (11, false))⟩, ⟨.bin .add (.reg 12) (.reg 14), none, (some (11, false))⟩, ⟨.mov (.loc 0), none, (some (11, false))⟩, ⟨.len .sl (.reg 16), none, (some (11, false))⟩, ⟨.bin .gtr (.reg 15) (.reg 17), none, (some (11, false))⟩, ⟨.pick (.reg 11) (.cst (.bool true)) (.reg 18), none, none⟩, ⟨.mov (.reg 19), none, none⟩, ⟨.mov (.loc 0), none, (some (20, false))⟩, ⟨.mov (.loc 6), none, (some (20, false))⟩, ⟨.mov (.loc 6), none, (some (20, false))⟩, ⟨.mov (.loc 9), none, (some (20, false))⟩, ⟨.len .str (.reg 24), none, (some (20, false))⟩, ⟨.bin .add (.reg 23) (.reg 25), none, (some (20, false))⟩, ⟨.slice (.sl 1) (.reg 21) (some (.reg 22)) (some (.reg 26)) none, none, (some (20, false))⟩, ⟨.conv .bytesStr (.reg 27), none, (some (20, false))⟩, ⟨.mov (.loc 9), none, (some (20, false))⟩, ⟨.bin .neq (.reg 28) (.reg 29), none, (some (20, false))⟩, ⟨.pick (.reg 20) (.cst (.bool true)) (.reg 30), (some 18), none⟩])
    (.cond (.loc 18)
     (.seq (.region [⟨.mov (.cst (.bool false)), (some 1), none⟩])
     .ret)
     .skip))
    (.seq (.region [⟨.mov (.loc 6), none, none⟩, ⟨.mov (.loc 9), none, none⟩, ⟨.len .str (.reg 1), none, none⟩, ⟨.bin .add (.reg 0) (.reg 2), none, none⟩, ⟨.mov (.reg 3), (some 6), none⟩])
    (.region [⟨.mov (.loc 7), none, none⟩, ⟨.mov (.loc 2), none, none⟩, ⟨.mov (.loc 8), none, none⟩, ⟨.indexAddrS 2 (.reg 1) (.reg 2), none, none⟩, ⟨.fieldAddr 0 (.reg 3), none, none⟩, ⟨.load1 (.reg 4), none, none⟩, ⟨.lit false [(.int .i64 0)] 1 [(0, (.reg 5))], none, none⟩, ⟨.append false 1 8 3 (.reg 0) (.reg 6), none, none⟩, ⟨.mov (.reg 7), (some 7), none⟩])))))
   (.region [⟨.mov (.loc 8), none, none⟩, ⟨.bin .add (.reg 0) (.cst (.int .i64 1)), none, none⟩, ⟨.mov (.reg 1), (some 8), none⟩])))
def t7 : TFunc := ⟨1, 19, [.loc 1],
 (.seq (.region [⟨.mov (.cst (.bool false)), (some 1), none⟩])
 (.seq (.region [⟨.mov (.loc 0), none, none⟩, ⟨.call true false 9 [(.reg 0)], none, none⟩, ⟨.mov (.reg 1), (some 0), none⟩])
 (.seq (.region [⟨.mov (.loc 0), none, none⟩, ⟨.call true false 17 [(.reg 0)], none, none⟩, ⟨.mov (.reg 1), none, none⟩, ⟨.extract 0 (.reg 2), none, none⟩, ⟨.extract 1 (.reg 2), none, none⟩, ⟨.allocL 3 [(.int .i64 0), (.int .i64 0)], none, none⟩, ⟨.mov (.reg 3), (some 2), none⟩, ⟨.store 2 (.reg 5) (.reg 4), none, none⟩])
 (.seq (.seq (.region [⟨.fieldAddr 0 (.loc 3), none, none⟩, ⟨.load1 (.reg 0), none, none⟩, ⟨.bin .neq (.reg 1) (.cst (.int .i64 0)), (some 15), none⟩])
 (.cond (.loc 15)
  (.seq (.seq (.region [⟨.fieldAddr 0 (.loc 3), none, none⟩, ⟨.load1 (.reg 0), none, none⟩, ⟨.bin .neq (.reg 1) (.cst (.int .i64 4)), none, none⟩, ⟨.mov (.reg 2), none, none⟩, ⟨.fieldAddr 1 (.loc 3), none, (some (3, false))⟩, ⟨.load1 (.reg 4), none, (some (3, false))⟩, ⟨.bin .lss (.reg 5) (.cst (.int .i64 0)), none, (some (3, false))⟩, ⟨.pick (.reg 3) (.cst (.bool true)) (.reg 6), none, none⟩, ⟨.mov (.reg 7), none, none⟩, ⟨.fieldAddr 1 (.loc 3), none, (some (8, false))⟩, ⟨.load1 (.reg 9), none, (some (8, false))⟩, ⟨.mov (.loc 0), none, (some (8, false))⟩, ⟨.len .sl (.reg 11), none, (some (8, false))⟩, ⟨.bin .geq (.reg 10) (.reg 12), none, (some (8, false))⟩, ⟨.pick (.reg 8) (.cst (.bool true)) (.reg 13), none, none⟩, ⟨.mov (.reg 14), none, none⟩, ⟨.mov (.loc 2), none, (some (15, false))⟩, ⟨.len .sl (.reg 16), none, (some (15, false))⟩, ⟨.bin .neq (.reg 17) (.cst (.int .i64 0)), none, (some (15, false))⟩, ⟨.pick (.reg 15) (.cst (.bool true)) (.reg 18), (some 16), none⟩])
  (.cond (.loc 16)
   (.seq (.region [⟨.mov (.cst (.bool false)), (some 1), none⟩])
   .ret)
   .skip))
  (.seq (.region [⟨.mov (.loc 0), none, none⟩, ⟨.fieldAddr 1 (.loc 3), none, none⟩, ⟨.load1 (.reg 1), none, none⟩, ⟨.call true false 12 [(.reg 0), (.reg 2)], none, none⟩, ⟨.mov (.reg 3), none, none⟩, ⟨.extract 0 (.reg 4), none, none⟩, ⟨.extract 1 (.reg 4), none, none⟩, ⟨.extract 2 (.reg 4), none, none⟩, ⟨.mov (.reg 5), none, none⟩, ⟨.mov (.reg 6), none, none⟩, ⟨.mov (.reg 7), (some 4), none⟩])
  (.seq (.region [⟨.mov (.loc 0), none, none⟩, ⟨.fieldAddr 1 (.loc 3), none, none⟩, ⟨.load1 (.reg 1), none, none⟩, ⟨.slice (.sl 1) (.reg 0) none (some (.reg 2)) none, none, none⟩, ⟨.call true false 17 [(.reg 3)], none, none⟩, ⟨.mov (.reg 4), none, none⟩, ⟨.extract 0 (.reg 5), none, none⟩, ⟨.extract 1 (.reg 5), none, none⟩, ⟨.allocL 5 [(.int .i64 0), (.int .i64 0)], none, none⟩, ⟨.mov (.reg 6), none, none⟩, ⟨.store 2 (.reg 8) (.reg 7), none, none⟩])
  (.seq (.region [⟨.mov (.loc 4), none, none⟩, ⟨.bin .eql (.reg 0) (.cst (.int .i64 4)), none, none⟩, ⟨.mov (.reg 1), none, none⟩, ⟨.fieldAddr 0 (.loc 5), none, (some (2, true))⟩, ⟨.load1 (.reg 3), none, (some (2, true))⟩, ⟨.bin .eql (.reg 4) (.cst (.int .i64 0)), none, (some (2, true))⟩, ⟨.pick (.reg 2) (.reg 5) (.cst (.bool false)), none, none⟩, ⟨.mov (.reg 6), none, none⟩, ⟨.call true false 16 [], none, (some (7, true))⟩, ⟨.pick (.reg 7) (.reg 8) (.cst (.bool false)), none, none⟩, ⟨.mov (.reg 9), (some 1), none⟩])
  .ret))))
  .skip))
 (.seq (.region [⟨.mov (.cst (.int .i64 0)), (some 6), none⟩])
 (.seq (.region [⟨.mov (.cst (.sl .nil [])), (some 7), none⟩])
 (.seq (.seq (.region [⟨.mov (.cst (.int .i64 0)), (some 8), none⟩])
 (.block 0
  (.loop t7L0)))
 (.seq (.region [⟨.mov (.loc 7), none, none⟩, ⟨.call true false 21 [(.reg 0)], none, none⟩, ⟨.mov (.reg 1), none, none⟩, ⟨.extract 0 (.reg 2), none, none⟩, ⟨.extract 1 (.reg 2), none, none⟩, ⟨.mov (.reg 3), (some 11), none⟩, ⟨.mov (.reg 4), (some 12), none⟩])
 (.seq (.region [⟨.mov (.loc 0), none, none⟩, ⟨.conv .bytesStr (.reg 0), none, none⟩, ⟨.call true false 19 [(.reg 1)], none, none⟩, ⟨.mov (.reg 2), none, none⟩, ⟨.extract 0 (.reg 3), none, none⟩, ⟨.extract 1 (.reg 3), none, none⟩, ⟨.mov (.reg 4), (some 13), none⟩, ⟨.mov (.reg 5), (some 14), none⟩])
 (.seq (.region [⟨.mov (.loc 6), none, none⟩, ⟨.mov (.loc 0), none, none⟩, ⟨.len .sl (.reg 1), none, none⟩, ⟨.bin .eql (.reg 0) (.reg 2), none, none⟩, ⟨.mov (.reg 3), none, none⟩, ⟨.mov (.loc 12), none, (some (4, true))⟩, ⟨.bin .eql (.reg 5) (.cst (.int .i64 0)), none, (some (4, true))⟩, ⟨.pick (.reg 4) (.reg 6) (.cst (.bool false)), none, none⟩, ⟨.mov (.reg 7), none, none⟩, ⟨.mov (.loc 11), none, (some (8, true))⟩, ⟨.mov (.loc 0), none, (some (8, true))⟩, ⟨.conv .bytesStr (.reg 10), none, (some (8, true))⟩, ⟨.bin .eql (.reg 9) (.reg 11), none, (some (8, true))⟩, ⟨.pick (.reg 8) (.reg 12) (.cst (.bool false)), none, none⟩, ⟨.mov (.reg 13), none, none⟩, ⟨.mov (.loc 14), none, (some (14, true))⟩, ⟨.bin .eql (.reg 15) (.cst (.int .i64 0)), none, (some (14, true))⟩, ⟨.pick (.reg 14) (.reg 16) (.cst (.bool false)), none, none⟩, ⟨.mov (.reg 17), none, none⟩, ⟨.mov (.loc 13), none, (some (18, true))⟩, ⟨.mov (.loc 7), none, (some (18, true))⟩, ⟨.call true false 23 [(.reg 19), (.reg 20)], none, (some (18, true))⟩, ⟨.pick (.reg 18) (.reg 21) (.cst (.bool false)), none, none⟩, ⟨.mov (.reg 22), none, none⟩, ⟨.call true false 16 [], none, (some (23, true))⟩, ⟨.pick (.reg 23) (.reg 24) (.cst (.bool false)), none, none⟩, ⟨.mov (.reg 25), (some 1), none⟩])
 .ret))))))))))⟩
theorem c7 : compFunc Tryd.prog opts a7 Tryd.f7 = some t7 := by kernel_rfl
/-- pennant/pennantlaw06.UtfKnown -/
def a8 : Ann := { slots := [0, 1, 3, 5, 7, 10, 11, 12, 13, 14, 17, 18, 19, 20, 23, 26, 29, 32, 35, 37, 38, 39, 40, 41, 79, 173], lb := [37], mu := [], trunc := [], draws := [] }
def t8 : TFunc := ⟨0, 26, [.loc 0],
 (.seq (.region [⟨.mov (.cst (.bool false)), (some 0), none⟩])
 (.seq (.region [⟨.call true false 10 [(.cst (.int .i64 65))], none, none⟩, ⟨.mov (.reg 0), none, none⟩, ⟨.extract 0 (.reg 1), none, none⟩, ⟨.extract 1 (.reg 1), none, none⟩, ⟨.mov (.reg 2), (some 1), none⟩, ⟨.mov (.reg 3), none, none⟩])
 (.seq (.region [⟨.call true false 10 [(.cst (.int .i64 233))], none, none⟩, ⟨.mov (.reg 0), none, none⟩, ⟨.extract 0 (.reg 1), none, none⟩, ⟨.extract 1 (.reg 1), none, none⟩, ⟨.mov (.reg 2), (some 2), none⟩, ⟨.mov (.reg 3), none, none⟩])
 (.seq (.region [⟨.call true false 10 [(.cst (.int .i64 8364))], none, none⟩, ⟨.mov (.reg 0), none, none⟩, ⟨.extract 0 (.reg 1), none, none⟩, ⟨.extract 1 (.reg 1), none, none⟩, ⟨.mov (.reg 2), (some 3), none⟩, ⟨.mov (.reg 3), none, none⟩])
 (.seq (.region [⟨.call true false 10 [(.cst (.int .i64 128512))], none, none⟩, ⟨.mov (.reg 0), none, none⟩, ⟨.extract 0 (.reg 1), none, none⟩, ⟨.extract 1 (.reg 1), none, none⟩, ⟨.mov (.reg 2), (some 4), none⟩, ⟨.mov (.reg 3), none, none⟩])
 (.seq (.region [⟨.call true false 10 [(.cst (.int .i64 55296))], none, none⟩, ⟨.mov (.reg 0), none, none⟩, ⟨.extract 0 (.reg 1), none, none⟩, ⟨.extract 1 (.reg 1), none, none⟩, ⟨.mov (.reg 2), none, none⟩, ⟨.mov (.reg 3), (some 5), none⟩])
 (.seq (.seq (.region [⟨.mov (.loc 1), none, none⟩, ⟨.bin .neq (.reg 0) (.cst (.str [65])), none, none⟩, ⟨.mov (.reg 1), none, none⟩, ⟨.mov (.loc 2), none, (some (2, false))⟩, ⟨.bin .neq (.reg 3) (.cst (.str [195, 169])), none, (some (2, false))⟩, ⟨.pick (.reg 2) (.cst (.bool true)) (.reg 4), none, none⟩, ⟨.mov (.reg 5), none, none⟩, ⟨.mov (.loc 3), none, (some (6, false))⟩, ⟨.bin .neq (.reg 7) (.cst (.str [226, 130, 172])), none, (some (6, false))⟩, ⟨.pick (.reg 6) (.cst (.bool true)) (.reg 8), none, none⟩, ⟨.mov (.reg 9), none, none⟩, ⟨.mov (.loc 4), none, (some (10, false))⟩, ⟨.bin .neq (.reg 11) (.cst (.str [240, 159, 152, 128])), none, (some (10, false))⟩, ⟨.pick (.reg 10) (.cst (.bool true)) (.reg 12), none, none⟩, ⟨.mov (.reg 13), none, none⟩, ⟨.mov (.loc 5), none, (some (14, false))⟩, ⟨.bin .neq (.reg 15) (.cst (.int .i64 2)), none, (some (14, false))⟩, ⟨.pick (.reg 14) (.cst (.bool true)) (.reg 16), (some 24), none⟩])
 (.cond (.loc 24)
  (.seq (.region [⟨.mov (.cst (.bool false)), (some 0), none⟩])
  .ret)
  .skip))
 (.seq (.region [⟨.lit false [(.int .u8 0)] 3 [(0, (.cst (.int .u8 195))), (1, (.cst (.int .u8 169))), (2, (.cst (.int .u8 65)))], none, none⟩, ⟨.mov (.reg 0), (some 6), none⟩])
 (.seq (.region [⟨.mov (.loc 6), none, none⟩, ⟨.call true false 12 [(.reg 0), (.cst (.int .i64 0))], none, none⟩, ⟨.mov (.reg 1), none, none⟩, ⟨.extract 0 (.reg 2), none, none⟩, ⟨.extract 1 (.reg 2), none, none⟩, ⟨.extract 2 (.reg 2), none, none⟩, ⟨.mov (.reg 3), (some 7), none⟩, ⟨.mov (.reg 4), (some 8), none⟩, ⟨.mov (.reg 5), (some 9), none⟩])
 (.seq (.region [⟨.mov (.loc 6), none, none⟩, ⟨.call true false 12 [(.reg 0), (.cst (.int .i64 1))], none, none⟩, ⟨.mov (.reg 1), none, none⟩, ⟨.extract 0 (.reg 2), none, none⟩, ⟨.extract 1 (.reg 2), none, none⟩, ⟨.extract 2 (.reg 2), none, none⟩, ⟨.mov (.reg 3), none, none⟩, ⟨.mov (.reg 4), none, none⟩, ⟨.mov (.reg 5), (some 10), none⟩])
 (.seq (.region [⟨.mov (.loc 6), none, none⟩, ⟨.call true false 12 [(.reg 0), (.cst (.int .i64 2))], none, none⟩, ⟨.mov (.reg 1), none, none⟩, ⟨.extract 0 (.reg 2), none, none⟩, ⟨.extract 1 (.reg 2), none, none⟩, ⟨.extract 2 (.reg 2), none, none⟩, ⟨.mov (.reg 3), (some 11), none⟩, ⟨.mov (.reg 4), (some 12), none⟩, ⟨.mov (.reg 5), (some 13), none⟩])
 (.seq (.region [⟨.mov (.loc 6), none, none⟩, ⟨.call true false 12 [(.reg 0), (.cst (.int .i64 3))], none, none⟩, ⟨.mov (.reg 1), none, none⟩, ⟨.extract 0 (.reg 2), none, none⟩, ⟨.extract 1 (.reg 2), none, none⟩, ⟨.extract 2 (.reg 2), none, none⟩, ⟨.mov (.reg 3), none, none⟩, ⟨.mov (.reg 4), none, none⟩, ⟨.mov (.reg 5), (some 14), none⟩])
 (.seq (.region [⟨.lit false [(.int .u8 0)] 2 [(0, (.cst (.int .u8 192))), (1, (.cst (.int .u8 128)))], none, none⟩, ⟨.call true false 12 [(.reg 0), (.cst (.int .i64 0))], none, none⟩, ⟨.mov (.reg 1), none, none⟩, ⟨.extract 0 (.reg 2), none, none⟩, ⟨.extract 1 (.reg 2), none, none⟩, ⟨.extract 2 (.reg 2), none, none⟩, ⟨.mov (.reg 3), none, none⟩, ⟨.mov (.reg 4), none, none⟩, ⟨.mov (.reg 5), (some 15), none⟩])
 (.seq (.region [⟨.lit false [(.int .u8 0)] 3 [(0, (.cst (.int .u8 237))), (1, (.cst (.int .u8 160))), (2, (.cst (.int .u8 128)))], none, none⟩, ⟨.call true false 12 [(.reg 0), (.cst (.int .i64 0))], none, none⟩, ⟨.mov (.reg 1), none, none⟩, ⟨.extract 0 (.reg 2), none, none⟩, ⟨.extract 1 (.reg 2), none, none⟩, ⟨.extract 2 (.reg 2), none, none⟩, ⟨.mov (.reg 3), none, none⟩, ⟨.mov (.reg 4), none, none⟩, ⟨.mov (.reg 5), (some 16), none⟩])
 (.seq (.region [⟨.lit false [(.int .u8 0)] 4 [(0, (.cst (.int .u8 244))), (1, (.cst (.int .u8 144))), (2, (.cst (.int .u8 128))), (3, (.cst (.int .u8 128)))], none, none⟩, ⟨.call true false 12 [(.reg 0), (.cst (.int .i64 0))], none, none⟩, ⟨.mov (.reg 1), none, none⟩, ⟨.extract 0 (.reg 2), none, none⟩, ⟨.extract 1 (.reg 2), none, none⟩, ⟨.extract 2 (.reg 2), none, none⟩, ⟨.mov (.reg 3), none, none⟩, ⟨.mov (.reg 4), none, none⟩, ⟨.mov (.reg 5), (some 17), none⟩])
 (.seq (.region [⟨.lit false [(.int .u8 0)] 2 [(0, (.cst (.int .u8 226))), (1, (.cst (.int .u8 130)))], none, none⟩, ⟨.call true false 12 [(.reg 0), (.cst (.int .i64 0))], none, none⟩, ⟨.mov (.reg 1), none, none⟩, ⟨.extract 0 (.reg 2), none, none⟩, ⟨.extract 1 (.reg 2), none, none⟩, ⟨.extract 2 (.reg 2), none, none⟩, ⟨.mov (.reg 3), none, none⟩, ⟨.mov (.reg 4), none, none⟩, ⟨.mov (.reg 5), (some 18), none⟩])
 (.seq (.region [⟨.lit false [(.int .u8 0)] 2 [(0, (.cst (.int .u8 65))), (1, (.cst (.int .u8 255)))], none, none⟩, ⟨.call true false 17 [(.reg 0)], none, none⟩, ⟨.mov (.reg 1), none, none⟩, ⟨.extract 0 (.reg 2), none, none⟩, ⟨.extract 1 (.reg 2), none, none⟩, ⟨.allocL 19 [(.int .i64 0), (.int .i64 0)], none, none⟩, ⟨.mov (.reg 3), none, none⟩, ⟨.store 2 (.reg 5) (.reg 4), none, none⟩])
 (.seq (.region [⟨.lit false [(.int .i64 0)] 1 [(0, (.cst (.int .i64 65533)))], none, none⟩, ⟨.call true false 21 [(.reg 0)], none, none⟩, ⟨.mov (.reg 1), none, none⟩, ⟨.extract 0 (.reg 2), none, none⟩, ⟨.extract 1 (.reg 2), none, none⟩, ⟨.mov (.reg 3), (some 20), none⟩, ⟨.mov (.reg 4), (some 21), none⟩])
 (.seq (.region [⟨.mov (.loc 20), none, none⟩, ⟨.call true false 19 [(.reg 0)], none, none⟩, ⟨.mov (.reg 1), none, none⟩, ⟨.extract 0 (.reg 2), none, none⟩, ⟨.extract 1 (.reg 2), none, none⟩, ⟨.mov (.reg 3), (some 22), none⟩, ⟨.mov (.reg 4), (some 23), none⟩])
 (.seq (.seq (.region [⟨.mov (.loc 7), none, none⟩, ⟨.bin .neq (.reg 0) (.cst (.int .i64 233)), none, none⟩, ⟨.mov (.reg 1), none, none⟩, ⟨.mov (.loc 8), none, (some (2, false))⟩, ⟨.bin .neq (.reg 3) (.cst (.int .i64 2)), none, (some (2, false))⟩, ⟨.pick (.reg 2) (.cst (.bool true)) (.reg 4), none, none⟩, ⟨.mov (.reg 5), none, none⟩, ⟨.mov (.loc 9), none, (some (6, false))⟩, ⟨.bin .neq (.reg 7) (.cst (.int .i64 0)), none, (some (6, false))⟩, ⟨.pick (.reg 6) (.cst (.bool true)) (.reg 8), none, none⟩, ⟨.mov (.reg 9), none, none⟩, ⟨.mov (.loc 10), none, (some (10, false))⟩, ⟨.bin .neq (.reg 11) (.cst (.int .i64 4)), none, (some (10, false))⟩, ⟨.pick (.reg 10) (.cst (.bool true)) (.reg 12), none, none⟩, ⟨.mov (.reg 13), none, none⟩, ⟨.mov (.loc 11), none, (some (14, false))⟩, ⟨.bin .neq (.reg 15) (.cst (.int .i64 65)), none, (some (14, false))⟩, ⟨.pick (.reg 14) (.cst (.bool true)) (.reg 16), none, none⟩, ⟨.mov (.reg 17), none, none⟩, ⟨.mov (.loc 12), none, (some (18, false))⟩, ⟨.bin .neq (.reg 19) (.cst (.int .i64 1)), none, (some (18, false))⟩, ⟨.pick (.reg 18) (.cst (.bool true)) (.reg 20), none, none⟩, ⟨.mov (.reg 21), none, none⟩, ⟨.mov (.loc 13), none, (some (22, false))⟩, ⟨.bin .neq (.reg 23) (.cst (.int .i64 0)), none, (some (22, false))⟩, ⟨.pick (.reg 22) (.cst (.bool true)) (.reg 24), none, none⟩, ⟨.mov (.reg 25), none, none⟩, ⟨.mov (.loc 14), none, (some (26, false))⟩, ⟨.bin .neq (.reg 27) (.cst (.int .i64 2)), none, (some (26, false))⟩, ⟨.pick (.reg 26) (.cst (.bool true)) (.reg 28), (some 25), none⟩])
 (.cond (.loc 25)
  (.seq (.region [⟨.mov (.cst (.bool false)), (some 0), none⟩])
  .ret)
  .skip))
 (.seq (.region [⟨.mov (.loc 15), none, none⟩, ⟨.bin .eql (.reg 0) (.cst (.int .i64 4)), none, none⟩, ⟨.mov (.reg 1), none, none⟩, ⟨.mov (.loc 16), none, (some (2, true))⟩, ⟨.bin .eql (.reg 3) (.cst (.int .i64 4)), none, (some (2, true))⟩, ⟨.pick (.reg 2) (.reg 4) (.cst (.bool false)), none, none⟩, ⟨.mov (.reg 5), none, none⟩, ⟨.mov (.loc 17), none, (some (6, true))⟩, ⟨.bin .eql (.reg 7) (.cst (.int .i64 4)), none, (some (6, true))⟩, ⟨.pick (.reg 6) (.reg 8) (.cst (.bool false)), none, none⟩, ⟨.mov (.reg 9), none, none⟩, ⟨.mov (.loc 18), none, (some (10, true))⟩, ⟨.bin .eql (.reg 11) (.cst (.int .i64 4)), none, (some (10, true))⟩, ⟨.pick (.reg 10) (.reg 12) (.cst (.bool false)), none, none⟩, ⟨.mov (.reg 13), none, none⟩, ⟨.fieldAddr 0 (.loc 19), none, (some (14, true))⟩, ⟨.load1 (.reg 15), none, (some (14, true))⟩, ⟨.bin .eql (.reg 16) (.cst (.int .i64 4)), none, (some (14, true))⟩, ⟨.pick (.reg 14) (.reg 17) (.cst (.bool false)), none, none⟩, ⟨.mov (.reg 18), none, none⟩, ⟨.fieldAddr 1 (.loc 19), none, (some (19, true))⟩, ⟨.load1 (.reg 20), none, (some (19, true))⟩, ⟨.bin .eql (.reg 21) (.cst (.int .i64 1)), none, (some (19, true))⟩, ⟨.pick (.reg 19) (.reg 22) (.cst (.bool false)), none, none⟩, ⟨.mov (.reg 23), none, none⟩, ⟨.mov (.loc 20), none, (some (24, true))⟩, ⟨.bin .eql (.reg 25) (.cst (.str [239, 191, 189])), none, (some (24, true))⟩, ⟨.pick (.reg 24) (.reg 26) (.cst (.bool false)), none, none⟩, ⟨.mov (.reg 27), none, none⟩, ⟨.mov (.loc 21), none, (some (28, true))⟩, ⟨.bin .eql (.reg 29) (.cst (.int .i64 0)), none, (some (28, true))⟩, ⟨.pick (.reg 28) (.reg 30) (.cst (.bool false)), none, none⟩, ⟨.mov (.reg 31), none, none⟩, ⟨.mov (.loc 22), none, (some (32, true))⟩, ⟨.len .sl (.reg 33), none, (some (32, true))⟩, ⟨.bin .eql (.reg 34) (.cst (.int .i64 1)), none, (some (32, true))⟩, ⟨.pick (.reg 32) (.reg 35) (.cst (.bool false)), none, none⟩, ⟨.mov (.reg 36), none, none⟩, ⟨.mov (.loc 22), none, (some (37, true))⟩, ⟨.indexAddrS 1 (.reg 38) (.cst (.int .i64 0)), none, (some (37, true))⟩, ⟨.load1 (.reg 39), none, (some (37, true))⟩, ⟨.bin .eql (.reg 40) (.cst (.int .i64 65533)), none, (some (37, true))⟩, ⟨.pick (.reg 37) (.reg 41) (.cst (.bool false)), none, none⟩, ⟨.mov (.reg 42), none, none⟩, ⟨.mov (.loc 23), none, (some (43, true))⟩, ⟨.bin .eql (.reg 44) (.cst (.int .i64 0)), none, (some (43, true))⟩, ⟨.pick (.reg 43) (.reg 45) (.cst (.bool false)), none, none⟩, ⟨.mov (.reg 46), none, none⟩, ⟨.call true false 16 [], none, (some (47, true))⟩, ⟨.pick (.reg 47) (.reg 48) (.cst (.bool false)), none, none⟩, ⟨.mov (.reg 49), (some 0), none⟩])
 .ret)))))))))))))))))))))⟩
theorem c8 : compFunc Tryd.prog opts a8 Tryd.f8 = some t8 := by kernel_rfl
/-- pennant/pennantlaw06.cut -/
def a9 : Ann := { slots := [0, 2], lb := [], mu := [], trunc := [], draws := [] }
def t9 : TFunc := ⟨1, 2, [.loc 1],
 (.seq (.region [⟨.mov (.cst (.sl .nil [])), (some 1), none⟩])
 (.seq (.region [⟨.mov (.loc 0), none, none⟩, ⟨.mov (.loc 0), none, none⟩, ⟨.len .sl (.reg 1), none, none⟩, ⟨.minmax false [(.reg 2), (.cst (.int .i64 2000))], none, none⟩, ⟨.slice (.sl 1) (.reg 0) none (some (.reg 3)) none, none, none⟩, ⟨.mov (.reg 4), (some 1), none⟩])
 .ret))⟩
theorem c9 : compFunc Tryd.prog opts a9 Tryd.f9 = some t9 := by kernel_rfl
/-- pennant/utf.Put -/
def a10 : Ann := { slots := [0, 2, 3, 6], lb := [], mu := [], trunc := [], draws := [] }
def t10 : TFunc := ⟨1, 4, [.loc 1, .loc 2],
 (.seq (.region [⟨.mov (.cst (.str [])), (some 1), none⟩, ⟨.mov (.cst (.int .i64 0)), (some 2), none⟩])
 (.seq (.seq (.region [⟨.mov (.loc 0), none, none⟩, ⟨.call true false 14 [(.reg 0)], none, none⟩, ⟨.un .not (.reg 1), (some 3), none⟩])
 (.cond (.loc 3)
  (.seq (.region [⟨.mov (.cst (.str [])), (some 1), none⟩, ⟨.mov (.cst (.int .i64 2)), (some 2), none⟩])
  .ret)
  .skip))
 (.seq (.region [⟨.mov (.loc 0), none, none⟩, ⟨.conv (.toInt .i32) (.reg 0), none, none⟩, ⟨.conv .intStr (.reg 1), none, none⟩, ⟨.mov (.reg 2), (some 1), none⟩, ⟨.mov (.cst (.int .i64 0)), (some 2), none⟩])
 .ret)))⟩
theorem c10 : compFunc Tryd.prog opts a10 Tryd.f10 = some t10 := by kernel_rfl
/-- pennant/pennantref06.Put -/
def a11 : Ann := { slots := [0, 2, 3, 6], lb := [], mu := [], trunc := [], draws := [] }
def t11 : TFunc := ⟨1, 4, [.loc 1, .loc 2],
 (.seq (.region [⟨.mov (.cst (.str [])), (some 1), none⟩, ⟨.mov (.cst (.int .i64 0)), (some 2), none⟩])
 (.seq (.seq (.region [⟨.mov (.loc 0), none, none⟩, ⟨.call true false 15 [(.reg 0)], none, none⟩, ⟨.un .not (.reg 1), (some 3), none⟩])
 (.cond (.loc 3)
  (.seq (.region [⟨.mov (.cst (.str [])), (some 1), none⟩, ⟨.mov (.cst (.int .i64 2)), (some 2), none⟩])
  .ret)
  .skip))
 (.seq (.region [⟨.mov (.loc 0), none, none⟩, ⟨.call true false 24 [(.reg 0)], none, none⟩, ⟨.conv .bytesStr (.reg 1), none, none⟩, ⟨.mov (.reg 2), (some 1), none⟩, ⟨.mov (.cst (.int .i64 0)), (some 2), none⟩])
 .ret)))⟩
theorem c11 : compFunc Tryd.prog opts a11 Tryd.f11 = some t11 := by kernel_rfl
/-- pennant/utf.Get -/
def a12 : Ann := { slots := [0, 1, 4, 5, 6, 7, 15, 25], lb := [], mu := [], trunc := [], draws := [] }
def t12 : TFunc := ⟨2, 8, [.loc 2, .loc 3, .loc 4],
 (.seq (.region [⟨.mov (.cst (.int .i64 0)), (some 2), none⟩, ⟨.mov (.cst (.int .i64 0)), (some 3), none⟩, ⟨.mov (.cst (.int .i64 0)), (some 4), none⟩])
 (.seq (.seq (.region [⟨.mov (.loc 1), none, none⟩, ⟨.bin .lss (.reg 0) (.cst (.int .i64 0)), none, none⟩, ⟨.mov (.reg 1), none, none⟩, ⟨.mov (.loc 1), none, (some (2, false))⟩, ⟨.mov (.loc 0), none, (some (2, false))⟩, ⟨.len .sl (.reg 4), none, (some (2, false))⟩, ⟨.bin .geq (.reg 3) (.reg 5), none, (some (2, false))⟩, ⟨.pick (.reg 2) (.cst (.bool true)) (.reg 6), (some 6), none⟩])
 (.cond (.loc 6)
  (.seq (.region [⟨.mov (.cst (.int .i64 0)), (some 2), none⟩, ⟨.mov (.cst (.int .i64 0)), (some 3), none⟩, ⟨.mov (.cst (.int .i64 2)), (some 4), none⟩])
  .ret)
  .skip))
 (.seq (.region [⟨.mov (.loc 0), none, none⟩, ⟨.mov (.loc 1), none, none⟩, ⟨.slice (.sl 1) (.reg 0) (some (.reg 1)) none none, none, none⟩, ⟨.call true false 25 [(.reg 2)], none, none⟩, ⟨.mov (.reg 3), none, none⟩, ⟨.extract 0 (.reg 4), none, none⟩, ⟨.extract 1 (.reg 4), none, none⟩, ⟨.mov (.reg 5), (some 5), none⟩, ⟨.mov (.reg 6), (some 3), none⟩])
 (.seq (.seq (.region [⟨.mov (.loc 5), none, none⟩, ⟨.mov (.loc 3), none, none⟩, ⟨.call true false 26 [(.reg 0), (.reg 1)], (some 7), none⟩])
 (.cond (.loc 7)
  (.seq (.region [⟨.mov (.cst (.int .i64 0)), (some 2), none⟩, ⟨.mov (.cst (.int .i64 0)), (some 3), none⟩, ⟨.mov (.cst (.int .i64 4)), (some 4), none⟩])
  .ret)
  .skip))
 (.seq (.region [⟨.mov (.loc 5), none, none⟩, ⟨.conv (.toInt .i64) (.reg 0), none, none⟩, ⟨.mov (.loc 3), none, none⟩, ⟨.mov (.reg 1), (some 2), none⟩, ⟨.mov (.reg 2), (some 3), none⟩, ⟨.mov (.cst (.int .i64 0)), (some 4), none⟩])
 .ret)))))⟩
theorem c12 : compFunc Tryd.prog opts a12 Tryd.f12 = some t12 := by kernel_rfl
/-- pennant/pennantref06.Get -/
def a13 : Ann := { slots := [0, 1, 4, 5, 6, 7, 8, 16, 26, 50], lb := [], mu := [], trunc := [], draws := [(7, ⟨[0, 1, 3, 7, 15, 31, 7, 7, 7, 7, 775, 1991, 4039, 8191, 16383], [0], [(1, [], [2, 3, 6, 7, 8, 9, 10, 11, 12]), (4, [11, 12], [5, 13, 14])]⟩)] }
def t13L0 : TCode := (.seq (.seq (.region [⟨.mov (.loc 5), none, none⟩, ⟨.bin .leq (.reg 0) (.cst (.int .i64 4)), none, none⟩, ⟨.mov (.reg 1), none, none⟩, ⟨.mov (.loc 1), none, (some (2, true))⟩, ⟨.mov (.loc 5), none, (some (2, true))⟩, ⟨.bin .add (.reg 3) (.reg 4), none, (some (2, true))⟩, ⟨.mov (.loc 0), none, (some (2, true))⟩, ⟨.len .sl (.reg 6), none, (some (2, true))⟩, ⟨.bin .leq (.reg 5) (.reg 7), none, (some (2, true))⟩, ⟨.pick (.reg 2) (.reg 8) (.cst (.bool false)), (some 8), none⟩])
   (.cond (.loc 8)
    .skip
    (.exit 0)))
   (.seq (.block 1
    (.seq (.region [⟨.mov (.loc 0), none, none⟩, ⟨.mov (.loc 1), none, none⟩, ⟨.mov (.loc 1), none, none⟩, ⟨.mov (.loc 5), none, none⟩, ⟨.bin .add (.reg 2) (.reg 3), none, none⟩, ⟨.slice (.sl 1) (.reg 0) (some (.reg 1)) (some (.reg 4)) none, none, none⟩, ⟨.call true false 27 [(.reg 5)], none, none⟩, ⟨.mov (.reg 6), (some 6), none⟩])
    (.seq (.draw [0] [(1, [], [2, 3, 6, 7, 8, 9, 10, 11, 12]), (4, [11, 12], [5, 13, 14])] [⟨.mov (.loc 6), none, none⟩, ⟨.call true false 15 [(.reg 0)], none, none⟩, ⟨.mov (.reg 1), none, none⟩, ⟨.mov (.loc 6), none, (some (2, true))⟩, ⟨.call true false 24 [(.reg 3)], none, (some (2, true))⟩, ⟨.conv .bytesStr (.reg 4), none, (some (2, true))⟩, ⟨.mov (.loc 0), none, (some (2, true))⟩, ⟨.mov (.loc 1), none, (some (2, true))⟩, ⟨.mov (.loc 1), none, (some (2, true))⟩, ⟨.mov (.loc 5), none, (some (2, true))⟩, ⟨.bin .add (.reg 8) (.reg 9), none, (some (2, true))⟩, ⟨.slice (.sl 1) (.reg 6) (some (.reg 7)) (some (.reg 10)) none, none, (some (2, true))⟩, ⟨.conv .bytesStr (.reg 11), none, (some (2, true))⟩, ⟨.bin .eql (.reg 5) (.reg 12), none, (some (2, true))⟩, ⟨.pick (.reg 2) (.reg 13) (.cst (.bool false)), (some 9), none⟩])
    (.cond (.loc 9)
     (.seq (.region [⟨.mov (.loc 6), none, none⟩, ⟨.mov (.loc 5), none, none⟩, ⟨.mov (.reg 0), (some 2), none⟩, ⟨.mov (.reg 1), (some 3), none⟩, ⟨.mov (.cst (.int .i64 0)), (some 4), none⟩])
     .ret)
     .skip))))
   (.region [⟨.mov (.loc 5), none, none⟩, ⟨.bin .add (.reg 0) (.cst (.int .i64 1)), none, none⟩, ⟨.mov (.reg 1), (some 5), none⟩])))
def t13 : TFunc := ⟨2, 10, [.loc 2, .loc 3, .loc 4],
 (.seq (.region [⟨.mov (.cst (.int .i64 0)), (some 2), none⟩, ⟨.mov (.cst (.int .i64 0)), (some 3), none⟩, ⟨.mov (.cst (.int .i64 0)), (some 4), none⟩])
 (.seq (.seq (.region [⟨.mov (.loc 1), none, none⟩, ⟨.bin .lss (.reg 0) (.cst (.int .i64 0)), none, none⟩, ⟨.mov (.reg 1), none, none⟩, ⟨.mov (.loc 1), none, (some (2, false))⟩, ⟨.mov (.loc 0), none, (some (2, false))⟩, ⟨.len .sl (.reg 4), none, (some (2, false))⟩, ⟨.bin .geq (.reg 3) (.reg 5), none, (some (2, false))⟩, ⟨.pick (.reg 2) (.cst (.bool true)) (.reg 6), (some 7), none⟩])
 (.cond (.loc 7)
  (.seq (.region [⟨.mov (.cst (.int .i64 0)), (some 2), none⟩, ⟨.mov (.cst (.int .i64 0)), (some 3), none⟩, ⟨.mov (.cst (.int .i64 2)), (some 4), none⟩])
  .ret)
  .skip))
 (.seq (.seq (.region [⟨.mov (.cst (.int .i64 1)), (some 5), none⟩])
 (.block 0
  (.loop t13L0)))
 (.seq (.region [⟨.mov (.cst (.int .i64 0)), (some 2), none⟩, ⟨.mov (.cst (.int .i64 0)), (some 3), none⟩, ⟨.mov (.cst (.int .i64 4)), (some 4), none⟩])
 .ret))))⟩
theorem c13 : compFunc Tryd.prog opts a13 Tryd.f13 = some t13 := by kernel_rfl
/-- pennant/utf.Is -/
def a14 : Ann := { slots := [0, 2], lb := [], mu := [], trunc := [], draws := [] }
def t14 : TFunc := ⟨1, 2, [.loc 1],
 (.seq (.region [⟨.mov (.cst (.bool false)), (some 1), none⟩])
 (.seq (.region [⟨.mov (.loc 0), none, none⟩, ⟨.bin .geq (.reg 0) (.cst (.int .i64 0)), none, none⟩, ⟨.mov (.reg 1), none, none⟩, ⟨.mov (.loc 0), none, (some (2, true))⟩, ⟨.bin .leq (.reg 3) (.cst (.int .i64 1114111)), none, (some (2, true))⟩, ⟨.pick (.reg 2) (.reg 4) (.cst (.bool false)), none, none⟩, ⟨.mov (.reg 5), none, none⟩, ⟨.mov (.loc 0), none, (some (6, true))⟩, ⟨.conv (.toInt .i32) (.reg 7), none, (some (6, true))⟩, ⟨.call true false 28 [(.reg 8)], none, (some (6, true))⟩, ⟨.pick (.reg 6) (.reg 9) (.cst (.bool false)), none, none⟩, ⟨.mov (.reg 10), (some 1), none⟩])
 .ret))⟩
theorem c14 : compFunc Tryd.prog opts a14 Tryd.f14 = some t14 := by kernel_rfl
/-- pennant/pennantref06.Is -/
def a15 : Ann := { slots := [0, 2], lb := [], mu := [], trunc := [], draws := [] }
def t15 : TFunc := ⟨1, 2, [.loc 1],
 (.seq (.region [⟨.mov (.cst (.bool false)), (some 1), none⟩])
 (.seq (.region [⟨.mov (.loc 0), none, none⟩, ⟨.bin .geq (.reg 0) (.cst (.int .i64 0)), none, none⟩, ⟨.mov (.reg 1), none, none⟩, ⟨.mov (.loc 0), none, (some (2, true))⟩, ⟨.bin .leq (.reg 3) (.cst (.int .i64 1114111)), none, (some (2, true))⟩, ⟨.pick (.reg 2) (.reg 4) (.cst (.bool false)), none, none⟩, ⟨.mov (.reg 5), none, none⟩, ⟨.mov (.loc 0), none, (some (6, true))⟩, ⟨.bin .lss (.reg 7) (.cst (.int .i64 55296)), none, (some (6, true))⟩, ⟨.mov (.reg 8), none, (some (6, true))⟩, ⟨.mov (.loc 0), none, (some (9, false))⟩, ⟨.bin .gtr (.reg 10) (.cst (.int .i64 57343)), none, (some (9, false))⟩, ⟨.pick (.reg 9) (.cst (.bool true)) (.reg 11), none, (some (6, true))⟩, ⟨.pick (.reg 6) (.reg 12) (.cst (.bool false)), none, none⟩, ⟨.mov (.reg 13), (some 1), none⟩])
 .ret))⟩
theorem c15 : compFunc Tryd.prog opts a15 Tryd.f15 = some t15 := by kernel_rfl
/-- pennant/pennantlaw06.works -/
def a16 : Ann := { slots := [0, 1, 2, 3, 4, 5], lb := [], mu := [], trunc := [], draws := [] }
def t16 : TFunc := ⟨0, 6, [.loc 0],
 (.seq (.region [⟨.mov (.cst (.bool false)), (some 0), none⟩])
 (.seq (.region [⟨.call true false 10 [(.cst (.int .i64 8364))], none, none⟩, ⟨.mov (.reg 0), none, none⟩, ⟨.extract 0 (.reg 1), none, none⟩, ⟨.extract 1 (.reg 1), none, none⟩, ⟨.mov (.reg 2), (some 1), none⟩, ⟨.mov (.reg 3), (some 2), none⟩])
 (.seq (.region [⟨.mov (.loc 1), none, none⟩, ⟨.conv .strBytes (.reg 0), none, none⟩, ⟨.call true false 12 [(.reg 1), (.cst (.int .i64 0))], none, none⟩, ⟨.mov (.reg 2), none, none⟩, ⟨.extract 0 (.reg 3), none, none⟩, ⟨.extract 1 (.reg 3), none, none⟩, ⟨.extract 2 (.reg 3), none, none⟩, ⟨.mov (.reg 4), (some 3), none⟩, ⟨.mov (.reg 5), (some 4), none⟩, ⟨.mov (.reg 6), (some 5), none⟩])
 (.seq (.region [⟨.mov (.loc 2), none, none⟩, ⟨.bin .eql (.reg 0) (.cst (.int .i64 0)), none, none⟩, ⟨.mov (.reg 1), none, none⟩, ⟨.mov (.loc 5), none, (some (2, true))⟩, ⟨.bin .eql (.reg 3) (.cst (.int .i64 0)), none, (some (2, true))⟩, ⟨.pick (.reg 2) (.reg 4) (.cst (.bool false)), none, none⟩, ⟨.mov (.reg 5), none, none⟩, ⟨.mov (.loc 1), none, (some (6, true))⟩, ⟨.len .str (.reg 7), none, (some (6, true))⟩, ⟨.bin .eql (.reg 8) (.cst (.int .i64 3)), none, (some (6, true))⟩, ⟨.pick (.reg 6) (.reg 9) (.cst (.bool false)), none, none⟩, ⟨.mov (.reg 10), none, none⟩, ⟨.mov (.loc 1), none, (some (11, true))⟩, ⟨.indexS (.reg 12) (.cst (.int .i64 0)), none, (some (11, true))⟩, ⟨.bin .eql (.reg 13) (.cst (.int .u8 226)), none, (some (11, true))⟩, ⟨.pick (.reg 11) (.reg 14) (.cst (.bool false)), none, none⟩, ⟨.mov (.reg 15), none, none⟩, ⟨.mov (.loc 3), none, (some (16, true))⟩, ⟨.bin .eql (.reg 17) (.cst (.int .i64 8364)), none, (some (16, true))⟩, ⟨.pick (.reg 16) (.reg 18) (.cst (.bool false)), none, none⟩, ⟨.mov (.reg 19), none, none⟩, ⟨.mov (.loc 4), none, (some (20, true))⟩, ⟨.bin .eql (.reg 21) (.cst (.int .i64 3)), none, (some (20, true))⟩, ⟨.pick (.reg 20) (.reg 22) (.cst (.bool false)), none, none⟩, ⟨.mov (.reg 23), none, none⟩, ⟨.call true false 14 [(.cst (.int .i64 97))], none, (some (24, true))⟩, ⟨.pick (.reg 24) (.reg 25) (.cst (.bool false)), none, none⟩, ⟨.mov (.reg 26), none, none⟩, ⟨.call true false 14 [(.cst (.int .i64 55296))], none, (some (27, true))⟩, ⟨.un .not (.reg 28), none, (some (27, true))⟩, ⟨.pick (.reg 27) (.reg 29) (.cst (.bool false)), none, none⟩, ⟨.mov (.reg 30), (some 0), none⟩])
 .ret))))⟩
theorem c16 : compFunc Tryd.prog opts a16 Tryd.f16 = some t16 := by kernel_rfl
/-- pennant/utf.All -/
def a17 : Ann := { slots := [0, 2, 3, 4, 5, 6, 8, 11, 12, 13, 17, 27], lb := [3], mu := [], trunc := [], draws := [] }
def t17L0 : TCode := (.seq (.region [⟨.nextS (.loc 7), (some 8), none⟩, ⟨.extract 0 (.reg 0), (some 9), none⟩])
   (.seq (.cond (.loc 9)
    .skip
    (.exit 0))
   (.block 1
    (.seq (.region [⟨.extract 1 (.loc 8), none, none⟩, ⟨.extract 2 (.loc 8), none, none⟩, ⟨.mov (.reg 0), (some 4), none⟩, ⟨.mov (.reg 1), (some 5), none⟩])
    (.seq (.seq (.region [⟨.mov (.loc 5), none, none⟩, ⟨.bin .eql (.reg 0) (.cst (.int .i32 65533)), (some 10), none⟩])
    (.cond (.loc 10)
     (.seq (.region [⟨.mov (.loc 0), none, none⟩, ⟨.mov (.loc 4), none, none⟩, ⟨.slice (.sl 1) (.reg 0) (some (.reg 1)) none none, none, none⟩, ⟨.call true false 25 [(.reg 2)], none, none⟩, ⟨.mov (.reg 3), none, none⟩, ⟨.extract 0 (.reg 4), none, none⟩, ⟨.extract 1 (.reg 4), none, none⟩, ⟨.mov (.reg 5), none, none⟩, ⟨.mov (.reg 6), (some 6), none⟩])
     (.seq (.region [⟨.mov (.loc 5), none, none⟩, ⟨.mov (.loc 6), none, none⟩, ⟨.call true false 26 [(.reg 0), (.reg 1)], (some 11), none⟩])
     (.cond (.loc 11)
      (.seq (.region [⟨.mov (.loc 4), none, none⟩, ⟨.build [(.int .i64 0), (.int .i64 0)] [(0, 1, (.cst (.int .i64 4))), (1, 1, (.reg 0))], none, none⟩, ⟨.mov (.cst (.sl .nil [])), (some 1), none⟩, ⟨.store 2 (.loc 2) (.reg 1), none, none⟩])
      .ret)
      .skip)))
     .skip))
    (.region [⟨.mov (.loc 3), none, none⟩, ⟨.mov (.loc 5), none, none⟩, ⟨.conv (.toInt .i64) (.reg 1), none, none⟩, ⟨.mov (.loc 4), none, none⟩, ⟨.build [(.int .i64 0), (.int .i64 0)] [(0, 1, (.reg 2)), (1, 1, (.reg 3))], none, none⟩, ⟨.lit false [(.int .i64 0), (.int .i64 0)] 1 [(0, (.reg 4))], none, none⟩, ⟨.append false 2 16 48 (.reg 0) (.reg 5), none, none⟩, ⟨.mov (.reg 6), (some 3), none⟩]))))))
def t17 : TFunc := ⟨1, 12, [.loc 1, .cell 2 2 true],
 (.seq (.region [⟨.mov (.cst (.sl .nil [])), (some 1), none⟩, ⟨.allocL 2 [(.int .i64 0), (.int .i64 0)], none, none⟩])
 (.seq (.region [⟨.mov (.cst (.sl .nil [])), (some 3), none⟩])
 (.seq (.seq (.region [⟨.mov (.loc 0), none, none⟩, ⟨.conv .bytesStr (.reg 0), none, none⟩, ⟨.range true (.reg 1), (some 7), none⟩])
 (.block 0
  (.loop t17L0)))
 (.seq (.region [⟨.mov (.loc 3), none, none⟩, ⟨.build [(.int .i64 0), (.int .i64 0)] [], none, none⟩, ⟨.mov (.reg 0), (some 1), none⟩, ⟨.store 2 (.loc 2) (.reg 1), none, none⟩])
 .ret))))⟩
theorem c17 : compFunc Tryd.prog opts a17 Tryd.f17 = some t17 := by kernel_rfl
/-- pennant/pennantref06.All -/
def a18 : Ann := { slots := [0, 2, 3, 4, 5, 6, 7, 8, 9, 13, 22], lb := [], mu := [], trunc := [], draws := [] }
def t18L0 : TCode := (.seq (.seq (.region [⟨.mov (.loc 5), none, none⟩, ⟨.mov (.loc 0), none, none⟩, ⟨.len .sl (.reg 1), none, none⟩, ⟨.bin .lss (.reg 0) (.reg 2), (some 9), none⟩])
   (.cond (.loc 9)
    .skip
    (.exit 0)))
   (.block 1
    (.seq (.region [⟨.mov (.loc 0), none, none⟩, ⟨.mov (.loc 5), none, none⟩, ⟨.call true false 13 [(.reg 0), (.reg 1)], none, none⟩, ⟨.mov (.reg 2), none, none⟩, ⟨.extract 0 (.reg 3), none, none⟩, ⟨.extract 1 (.reg 3), none, none⟩, ⟨.extract 2 (.reg 3), none, none⟩, ⟨.mov (.reg 4), (some 6), none⟩, ⟨.mov (.reg 5), (some 7), none⟩, ⟨.mov (.reg 6), (some 8), none⟩])
    (.seq (.seq (.region [⟨.mov (.loc 8), none, none⟩, ⟨.bin .neq (.reg 0) (.cst (.int .i64 0)), (some 10), none⟩])
    (.cond (.loc 10)
     (.seq (.region [⟨.mov (.loc 5), none, none⟩, ⟨.mov (.cst (.sl .nil [])), (some 1), none⟩, ⟨.mov (.cst (.int .i64 4)), (some 2), none⟩, ⟨.mov (.reg 0), (some 3), none⟩])
     .ret)
     .skip))
    (.seq (.region [⟨.mov (.loc 4), none, none⟩, ⟨.mov (.loc 6), none, none⟩, ⟨.mov (.loc 5), none, none⟩, ⟨.build [(.int .i64 0), (.int .i64 0)] [(0, 1, (.reg 1)), (1, 1, (.reg 2))], none, none⟩, ⟨.lit false [(.int .i64 0), (.int .i64 0)] 1 [(0, (.reg 3))], none, none⟩, ⟨.append false 2 16 49 (.reg 0) (.reg 4), none, none⟩, ⟨.mov (.reg 5), (some 4), none⟩])
    (.region [⟨.mov (.loc 5), none, none⟩, ⟨.mov (.loc 7), none, none⟩, ⟨.bin .add (.reg 0) (.reg 1), none, none⟩, ⟨.mov (.reg 2), (some 5), none⟩]))))))
def t18 : TFunc := ⟨1, 11, [.loc 1, .loc 2, .loc 3],
 (.seq (.region [⟨.mov (.cst (.sl .nil [])), (some 1), none⟩, ⟨.mov (.cst (.int .i64 0)), (some 2), none⟩, ⟨.mov (.cst (.int .i64 0)), (some 3), none⟩])
 (.seq (.region [⟨.mov (.cst (.sl .nil [])), (some 4), none⟩])
 (.seq (.region [⟨.mov (.cst (.int .i64 0)), (some 5), none⟩])
 (.seq (.block 0
  (.loop t18L0))
 (.seq (.region [⟨.mov (.loc 4), none, none⟩, ⟨.mov (.reg 0), (some 1), none⟩, ⟨.mov (.cst (.int .i64 0)), (some 2), none⟩, ⟨.mov (.cst (.int .i64 0)), (some 3), none⟩])
 .ret)))))⟩
theorem c18 : compFunc Tryd.prog opts a18 Tryd.f18 = some t18 := by kernel_rfl
/-- pennant/utf.Codes -/
def a19 : Ann := { slots := [0, 2, 3, 4, 5, 6, 8, 17, 20, 21, 22, 23], lb := [8, 5], mu := [], trunc := [], draws := [(3, ⟨[0, 1, 0, 7], [0, 1, 2, 3], []⟩)] }
def t19L0 : TCode := (.seq (.region [⟨.bin .lss (.loc 10) (.loc 9), (some 11), none⟩])
   (.seq (.cond (.loc 11)
    .skip
    (.exit 0))
   (.seq (.block 1
    (.seq (.region [⟨.indexAddrS 2 (.loc 8) (.loc 10), none, none⟩, ⟨.loadN 2 (.reg 0), none, none⟩, ⟨.allocL 6 [(.int .i64 0), (.int .i64 0)], none, none⟩, ⟨.store 2 (.reg 2) (.reg 1), none, none⟩])
    (.region [⟨.mov (.loc 5), none, none⟩, ⟨.fieldAddr 0 (.loc 6), none, none⟩, ⟨.load1 (.reg 1), none, none⟩, ⟨.lit false [(.int .i64 0)] 1 [(0, (.reg 2))], none, none⟩, ⟨.append false 1 8 3 (.reg 0) (.reg 3), none, none⟩, ⟨.mov (.reg 4), (some 5), none⟩])))
   (.region [⟨.bin .add (.loc 10) (.cst (.int .i64 1)), none, none⟩, ⟨.mov (.reg 0), (some 10), none⟩]))))
def t19 : TFunc := ⟨1, 12, [.loc 1, .loc 2],
 (.seq (.region [⟨.mov (.cst (.sl .nil [])), (some 1), none⟩, ⟨.mov (.cst (.int .i64 0)), (some 2), none⟩])
 (.seq (.region [⟨.mov (.loc 0), none, none⟩, ⟨.conv .strBytes (.reg 0), none, none⟩, ⟨.call true false 17 [(.reg 1)], none, none⟩, ⟨.mov (.reg 2), none, none⟩, ⟨.extract 0 (.reg 3), none, none⟩, ⟨.extract 1 (.reg 3), none, none⟩, ⟨.allocL 4 [(.int .i64 0), (.int .i64 0)], none, none⟩, ⟨.mov (.reg 4), (some 3), none⟩, ⟨.store 2 (.reg 6) (.reg 5), none, none⟩])
 (.seq (.seq (.region [⟨.fieldAddr 0 (.loc 4), none, none⟩, ⟨.load1 (.reg 0), none, none⟩, ⟨.bin .neq (.reg 1) (.cst (.int .i64 0)), (some 7), none⟩])
 (.cond (.loc 7)
  (.seq (.draw [0, 1, 2, 3] [] [⟨.fieldAddr 0 (.loc 4), none, none⟩, ⟨.load1 (.reg 0), none, none⟩, ⟨.mov (.cst (.sl .nil [])), (some 1), none⟩, ⟨.mov (.reg 1), (some 2), none⟩])
  .ret)
  .skip))
 (.seq (.region [⟨.mov (.cst (.sl .nil [])), (some 5), none⟩])
 (.seq (.seq (.region [⟨.mov (.loc 3), (some 8), none⟩, ⟨.len .sl (.reg 0), (some 9), none⟩, ⟨.mov (.cst (.int .i64 0)), (some 10), none⟩])
 (.block 0
  (.loop t19L0)))
 (.seq (.region [⟨.mov (.loc 5), none, none⟩, ⟨.mov (.reg 0), (some 1), none⟩, ⟨.mov (.cst (.int .i64 0)), (some 2), none⟩])
 .ret))))))⟩
theorem c19 : compFunc Tryd.prog opts a19 Tryd.f19 = some t19 := by kernel_rfl
/-- pennant/pennantref06.Codes -/
def a20 : Ann := { slots := [0, 2, 3, 4, 5, 7, 8, 17, 22], lb := [], mu := [], trunc := [], draws := [] }
def t20L0 : TCode := (.seq (.seq (.region [⟨.mov (.loc 6), none, none⟩, ⟨.mov (.loc 3), none, none⟩, ⟨.len .sl (.reg 1), none, none⟩, ⟨.bin .lss (.reg 0) (.reg 2), (some 8), none⟩])
   (.cond (.loc 8)
    .skip
    (.exit 0)))
   (.seq (.block 1
    (.region [⟨.mov (.loc 5), none, none⟩, ⟨.mov (.loc 3), none, none⟩, ⟨.mov (.loc 6), none, none⟩, ⟨.indexAddrS 2 (.reg 1) (.reg 2), none, none⟩, ⟨.fieldAddr 0 (.reg 3), none, none⟩, ⟨.load1 (.reg 4), none, none⟩, ⟨.lit false [(.int .i64 0)] 1 [(0, (.reg 5))], none, none⟩, ⟨.append false 1 8 3 (.reg 0) (.reg 6), none, none⟩, ⟨.mov (.reg 7), (some 5), none⟩]))
   (.region [⟨.mov (.loc 6), none, none⟩, ⟨.bin .add (.reg 0) (.cst (.int .i64 1)), none, none⟩, ⟨.mov (.reg 1), (some 6), none⟩])))
def t20 : TFunc := ⟨1, 9, [.loc 1, .loc 2],
 (.seq (.region [⟨.mov (.cst (.sl .nil [])), (some 1), none⟩, ⟨.mov (.cst (.int .i64 0)), (some 2), none⟩])
 (.seq (.region [⟨.mov (.loc 0), none, none⟩, ⟨.conv .strBytes (.reg 0), none, none⟩, ⟨.call true false 18 [(.reg 1)], none, none⟩, ⟨.mov (.reg 2), none, none⟩, ⟨.extract 0 (.reg 3), none, none⟩, ⟨.extract 1 (.reg 3), none, none⟩, ⟨.extract 2 (.reg 3), none, none⟩, ⟨.mov (.reg 4), (some 3), none⟩, ⟨.mov (.reg 5), (some 4), none⟩, ⟨.mov (.reg 6), none, none⟩])
 (.seq (.seq (.region [⟨.mov (.loc 4), none, none⟩, ⟨.bin .neq (.reg 0) (.cst (.int .i64 0)), (some 7), none⟩])
 (.cond (.loc 7)
  (.seq (.region [⟨.mov (.loc 4), none, none⟩, ⟨.mov (.cst (.sl .nil [])), (some 1), none⟩, ⟨.mov (.reg 0), (some 2), none⟩])
  .ret)
  .skip))
 (.seq (.region [⟨.mov (.cst (.sl .nil [])), (some 5), none⟩])
 (.seq (.seq (.region [⟨.mov (.cst (.int .i64 0)), (some 6), none⟩])
 (.block 0
  (.loop t20L0)))
 (.seq (.region [⟨.mov (.loc 5), none, none⟩, ⟨.mov (.reg 0), (some 1), none⟩, ⟨.mov (.cst (.int .i64 0)), (some 2), none⟩])
 .ret))))))⟩
theorem c20 : compFunc Tryd.prog opts a20 Tryd.f20 = some t20 := by kernel_rfl
/-- pennant/utf.Text -/
def a21 : Ann := { slots := [0, 2, 3, 4, 6, 7, 8, 9, 10, 15], lb := [], mu := [], trunc := [], draws := [] }
def t21L0 : TCode := (.seq (.region [⟨.bin .lss (.loc 7) (.loc 6), (some 8), none⟩])
   (.seq (.cond (.loc 8)
    .skip
    (.exit 0))
   (.seq (.block 1
    (.seq (.region [⟨.indexAddrS 1 (.loc 5) (.loc 7), none, none⟩, ⟨.load1 (.reg 0), none, none⟩, ⟨.mov (.reg 1), (some 4), none⟩])
    (.seq (.seq (.region [⟨.mov (.loc 4), none, none⟩, ⟨.call true false 14 [(.reg 0)], none, none⟩, ⟨.un .not (.reg 1), (some 9), none⟩])
    (.cond (.loc 9)
     (.seq (.region [⟨.mov (.cst (.str [])), (some 1), none⟩, ⟨.mov (.cst (.int .i64 2)), (some 2), none⟩])
     .ret)
     .skip))
    (.region [⟨.mov (.loc 3), none, none⟩, ⟨.mov (.loc 4), none, none⟩, ⟨.conv (.toInt .i32) (.reg 1), none, none⟩, ⟨.call false false 29 [(.reg 0), (.reg 2)], none, none⟩, ⟨.mov (.reg 3), (some 3), none⟩]))))
   (.region [⟨.bin .add (.loc 7) (.cst (.int .i64 1)), none, none⟩, ⟨.mov (.reg 0), (some 7), none⟩]))))
def t21 : TFunc := ⟨1, 10, [.loc 1, .loc 2],
 (.seq (.region [⟨.mov (.cst (.str [])), (some 1), none⟩, ⟨.mov (.cst (.int .i64 0)), (some 2), none⟩])
 (.seq (.region [⟨.mov (.cst (.sl .nil [])), (some 3), none⟩])
 (.seq (.seq (.region [⟨.mov (.loc 0), (some 5), none⟩, ⟨.len .sl (.reg 0), (some 6), none⟩, ⟨.mov (.cst (.int .i64 0)), (some 7), none⟩])
 (.block 0
  (.loop t21L0)))
 (.seq (.region [⟨.mov (.loc 3), none, none⟩, ⟨.conv .bytesStr (.reg 0), none, none⟩, ⟨.mov (.reg 1), (some 1), none⟩, ⟨.mov (.cst (.int .i64 0)), (some 2), none⟩])
 .ret))))⟩
theorem c21 : compFunc Tryd.prog opts a21 Tryd.f21 = some t21 := by kernel_rfl
/-- pennant/pennantref06.Text -/
def a22 : Ann := { slots := [0, 2, 3, 4, 5, 9, 17], lb := [], mu := [], trunc := [], draws := [] }
def t22L0 : TCode := (.seq (.seq (.region [⟨.mov (.loc 4), none, none⟩, ⟨.mov (.loc 0), none, none⟩, ⟨.len .sl (.reg 1), none, none⟩, ⟨.bin .lss (.reg 0) (.reg 2), (some 5), none⟩])
   (.cond (.loc 5)
    .skip
    (.exit 0)))
   (.seq (.block 1
    (.seq (.seq (.region [⟨.mov (.loc 0), none, none⟩, ⟨.mov (.loc 4), none, none⟩, ⟨.indexAddrS 1 (.reg 0) (.reg 1), none, none⟩, ⟨.load1 (.reg 2), none, none⟩, ⟨.call true false 15 [(.reg 3)], none, none⟩, ⟨.un .not (.reg 4), (some 6), none⟩])
    (.cond (.loc 6)
     (.seq (.region [⟨.mov (.cst (.str [])), (some 1), none⟩, ⟨.mov (.cst (.int .i64 2)), (some 2), none⟩])
     .ret)
     .skip))
    (.region [⟨.mov (.loc 3), none, none⟩, ⟨.mov (.loc 0), none, none⟩, ⟨.mov (.loc 4), none, none⟩, ⟨.indexAddrS 1 (.reg 1) (.reg 2), none, none⟩, ⟨.load1 (.reg 3), none, none⟩, ⟨.call true false 24 [(.reg 4)], none, none⟩, ⟨.append false 1 1 5 (.reg 0) (.reg 5), none, none⟩, ⟨.mov (.reg 6), (some 3), none⟩])))
   (.region [⟨.mov (.loc 4), none, none⟩, ⟨.bin .add (.reg 0) (.cst (.int .i64 1)), none, none⟩, ⟨.mov (.reg 1), (some 4), none⟩])))
def t22 : TFunc := ⟨1, 7, [.loc 1, .loc 2],
 (.seq (.region [⟨.mov (.cst (.str [])), (some 1), none⟩, ⟨.mov (.cst (.int .i64 0)), (some 2), none⟩])
 (.seq (.region [⟨.mov (.cst (.sl .nil [])), (some 3), none⟩])
 (.seq (.seq (.region [⟨.mov (.cst (.int .i64 0)), (some 4), none⟩])
 (.block 0
  (.loop t22L0)))
 (.seq (.region [⟨.mov (.loc 3), none, none⟩, ⟨.conv .bytesStr (.reg 0), none, none⟩, ⟨.mov (.reg 1), (some 1), none⟩, ⟨.mov (.cst (.int .i64 0)), (some 2), none⟩])
 .ret))))⟩
theorem c22 : compFunc Tryd.prog opts a22 Tryd.f22 = some t22 := by kernel_rfl
/-- pennant/pennantref06.Same -/
def a23 : Ann := { slots := [0, 1, 4, 5, 10, 14, 25], lb := [], mu := [], trunc := [], draws := [(6, ⟨[0, 0, 3, 7, 0, 0, 48, 112, 255], [0, 1, 2, 3, 4, 5, 6, 7, 8], []⟩)] }
def t23L0 : TCode := (.seq (.seq (.region [⟨.mov (.loc 3), none, none⟩, ⟨.mov (.loc 0), none, none⟩, ⟨.len .sl (.reg 1), none, none⟩, ⟨.bin .lss (.reg 0) (.reg 2), (some 5), none⟩])
   (.cond (.loc 5)
    .skip
    (.exit 0)))
   (.seq (.block 1
    (.seq (.draw [0, 1, 2, 3, 4, 5, 6, 7, 8] [] [⟨.mov (.loc 0), none, none⟩, ⟨.mov (.loc 3), none, none⟩, ⟨.indexAddrS 1 (.reg 0) (.reg 1), none, none⟩, ⟨.load1 (.reg 2), none, none⟩, ⟨.mov (.loc 1), none, none⟩, ⟨.mov (.loc 3), none, none⟩, ⟨.indexAddrS 1 (.reg 4) (.reg 5), none, none⟩, ⟨.load1 (.reg 6), none, none⟩, ⟨.bin .neq (.reg 3) (.reg 7), (some 6), none⟩])
    (.cond (.loc 6)
     (.seq (.region [⟨.mov (.cst (.bool false)), (some 2), none⟩])
     .ret)
     .skip)))
   (.region [⟨.mov (.loc 3), none, none⟩, ⟨.bin .add (.reg 0) (.cst (.int .i64 1)), none, none⟩, ⟨.mov (.reg 1), (some 3), none⟩])))
def t23 : TFunc := ⟨2, 7, [.loc 2],
 (.seq (.region [⟨.mov (.cst (.bool false)), (some 2), none⟩])
 (.seq (.seq (.region [⟨.mov (.loc 0), none, none⟩, ⟨.len .sl (.reg 0), none, none⟩, ⟨.mov (.loc 1), none, none⟩, ⟨.len .sl (.reg 2), none, none⟩, ⟨.bin .neq (.reg 1) (.reg 3), (some 4), none⟩])
 (.cond (.loc 4)
  (.seq (.region [⟨.mov (.cst (.bool false)), (some 2), none⟩])
  .ret)
  .skip))
 (.seq (.seq (.region [⟨.mov (.cst (.int .i64 0)), (some 3), none⟩])
 (.block 0
  (.loop t23L0)))
 (.seq (.region [⟨.mov (.cst (.bool true)), (some 2), none⟩])
 .ret))))⟩
theorem c23 : compFunc Tryd.prog opts a23 Tryd.f23 = some t23 := by kernel_rfl
/-- pennant/pennantref06.Bytes -/
def a24 : Ann := { slots := [0, 2, 4, 9, 20], lb := [], mu := [], trunc := [], draws := [] }
def t24 : TFunc := ⟨1, 5, [.loc 1],
 (.seq (.region [⟨.mov (.cst (.sl .nil [])), (some 1), none⟩])
 (.seq (.seq (.region [⟨.mov (.loc 0), none, none⟩, ⟨.bin .lss (.reg 0) (.cst (.int .i64 128)), (some 2), none⟩])
 (.cond (.loc 2)
  (.seq (.region [⟨.mov (.loc 0), none, none⟩, ⟨.conv (.toInt .u8) (.reg 0), none, none⟩, ⟨.lit false [(.int .u8 0)] 1 [(0, (.reg 1))], none, none⟩, ⟨.mov (.reg 2), (some 1), none⟩])
  .ret)
  .skip))
 (.seq (.seq (.region [⟨.mov (.loc 0), none, none⟩, ⟨.bin .lss (.reg 0) (.cst (.int .i64 2048)), (some 3), none⟩])
 (.cond (.loc 3)
  (.seq (.region [⟨.mov (.loc 0), none, none⟩, ⟨.bin .quo (.reg 0) (.cst (.int .i64 64)), none, none⟩, ⟨.bin .add (.cst (.int .i64 192)) (.reg 1), none, none⟩, ⟨.conv (.toInt .u8) (.reg 2), none, none⟩, ⟨.mov (.loc 0), none, none⟩, ⟨.bin .rem (.reg 4) (.cst (.int .i64 64)), none, none⟩, ⟨.bin .add (.cst (.int .i64 128)) (.reg 5), none, none⟩, ⟨.conv (.toInt .u8) (.reg 6), none, none⟩, ⟨.lit false [(.int .u8 0)] 2 [(0, (.reg 3)), (1, (.reg 7))], none, none⟩, ⟨.mov (.reg 8), (some 1), none⟩])
  .ret)
  .skip))
 (.seq (.seq (.region [⟨.mov (.loc 0), none, none⟩, ⟨.bin .lss (.reg 0) (.cst (.int .i64 65536)), (some 4), none⟩])
 (.cond (.loc 4)
  (.seq (.region [⟨.mov (.loc 0), none, none⟩, ⟨.bin .quo (.reg 0) (.cst (.int .i64 4096)), none, none⟩, ⟨.bin .add (.cst (.int .i64 224)) (.reg 1), none, none⟩, ⟨.conv (.toInt .u8) (.reg 2), none, none⟩, ⟨.mov (.loc 0), none, none⟩, ⟨.bin .quo (.reg 4) (.cst (.int .i64 64)), none, none⟩, ⟨.bin .rem (.reg 5) (.cst (.int .i64 64)), none, none⟩, ⟨.bin .add (.cst (.int .i64 128)) (.reg 6), none, none⟩, ⟨.conv (.toInt .u8) (.reg 7), none, none⟩, ⟨.mov (.loc 0), none, none⟩, ⟨.bin .rem (.reg 9) (.cst (.int .i64 64)), none, none⟩, ⟨.bin .add (.cst (.int .i64 128)) (.reg 10), none, none⟩, ⟨.conv (.toInt .u8) (.reg 11), none, none⟩, ⟨.lit false [(.int .u8 0)] 3 [(0, (.reg 3)), (1, (.reg 8)), (2, (.reg 12))], none, none⟩, ⟨.mov (.reg 13), (some 1), none⟩])
  .ret)
  .skip))
 (.seq (.region [⟨.mov (.loc 0), none, none⟩, ⟨.bin .quo (.reg 0) (.cst (.int .i64 262144)), none, none⟩, ⟨.bin .add (.cst (.int .i64 240)) (.reg 1), none, none⟩, ⟨.conv (.toInt .u8) (.reg 2), none, none⟩, ⟨.mov (.loc 0), none, none⟩, ⟨.bin .quo (.reg 4) (.cst (.int .i64 4096)), none, none⟩, ⟨.bin .rem (.reg 5) (.cst (.int .i64 64)), none, none⟩, ⟨.bin .add (.cst (.int .i64 128)) (.reg 6), none, none⟩, ⟨.conv (.toInt .u8) (.reg 7), none, none⟩, ⟨.mov (.loc 0), none, none⟩, ⟨.bin .quo (.reg 9) (.cst (.int .i64 64)), none, none⟩, ⟨.bin .rem (.reg 10) (.cst (.int .i64 64)), none, none⟩, ⟨.bin .add (.cst (.int .i64 128)) (.reg 11), none, none⟩, ⟨.conv (.toInt .u8) (.reg 12), none, none⟩, ⟨.mov (.loc 0), none, none⟩, ⟨.bin .rem (.reg 14) (.cst (.int .i64 64)), none, none⟩, ⟨.bin .add (.cst (.int .i64 128)) (.reg 15), none, none⟩, ⟨.conv (.toInt .u8) (.reg 16), none, none⟩, ⟨.lit false [(.int .u8 0)] 4 [(0, (.reg 3)), (1, (.reg 8)), (2, (.reg 13)), (3, (.reg 17))], none, none⟩, ⟨.mov (.reg 18), (some 1), none⟩])
 .ret)))))⟩
theorem c24 : compFunc Tryd.prog opts a24 Tryd.f24 = some t24 := by kernel_rfl
/-- unicode/utf8.DecodeRune -/
def a25 : Ann := { slots := [0, 2, 3, 5, 6, 7, 8, 9, 13], lb := [], mu := [], trunc := [], draws := [] }
def t25L0 : TCode := (.seq (.region [⟨.bin .lss (.loc 6) (.loc 5), (some 7), none⟩])
   (.seq (.cond (.loc 7)
    .skip
    (.exit 0))
   (.seq (.block 1
    (.seq (.region [⟨.indexAddrS 1 (.loc 4) (.loc 6), none, none⟩, ⟨.load1 (.reg 0), none, none⟩, ⟨.mov (.reg 1), (some 3), none⟩])
    (.seq (.seq (.region [⟨.mov (.loc 3), none, none⟩, ⟨.bin .lss (.reg 0) (.cst (.int .u8 128)), (some 8), none⟩])
    (.cond (.loc 8)
     (.seq (.region [⟨.mov (.loc 3), none, none⟩, ⟨.conv (.toInt .i32) (.reg 0), none, none⟩, ⟨.mov (.reg 1), (some 1), none⟩, ⟨.mov (.cst (.int .i64 1)), (some 2), none⟩])
     .ret)
     .skip))
    (.exit 0))))
   (.region [⟨.bin .add (.loc 6) (.cst (.int .i64 1)), none, none⟩, ⟨.mov (.reg 0), (some 6), none⟩]))))
def t25 : TFunc := ⟨1, 9, [.loc 1, .loc 2],
 (.seq (.region [⟨.mov (.cst (.int .i32 0)), (some 1), none⟩, ⟨.mov (.cst (.int .i64 0)), (some 2), none⟩])
 (.seq (.seq (.region [⟨.mov (.loc 0), (some 4), none⟩, ⟨.len .sl (.reg 0), (some 5), none⟩, ⟨.mov (.cst (.int .i64 0)), (some 6), none⟩])
 (.block 0
  (.loop t25L0)))
 (.seq (.region [⟨.mov (.loc 0), none, none⟩, ⟨.call true false 30 [(.reg 0)], none, none⟩, ⟨.mov (.reg 1), none, none⟩, ⟨.extract 0 (.reg 2), none, none⟩, ⟨.extract 1 (.reg 2), none, none⟩, ⟨.mov (.reg 3), (some 1), none⟩, ⟨.mov (.reg 4), (some 2), none⟩])
 .ret)))⟩
theorem c25 : compFunc Tryd.prog opts a25 Tryd.f25 = some t25 := by kernel_rfl
/-- pennant/utf.wrong -/
def a26 : Ann := { slots := [0, 1, 4], lb := [], mu := [], trunc := [], draws := [] }
def t26 : TFunc := ⟨2, 3, [.loc 2],
 (.seq (.region [⟨.mov (.cst (.bool false)), (some 2), none⟩])
 (.seq (.region [⟨.mov (.loc 0), none, none⟩, ⟨.bin .eql (.reg 0) (.cst (.int .i32 65533)), none, none⟩, ⟨.mov (.reg 1), none, none⟩, ⟨.mov (.loc 1), none, (some (2, true))⟩, ⟨.bin .leq (.reg 3) (.cst (.int .i64 1)), none, (some (2, true))⟩, ⟨.pick (.reg 2) (.reg 4) (.cst (.bool false)), none, none⟩, ⟨.mov (.reg 5), (some 2), none⟩])
 .ret))⟩
theorem c26 : compFunc Tryd.prog opts a26 Tryd.f26 = some t26 := by kernel_rfl
/-- pennant/pennantref06.told -/
def a27 : Ann := { slots := [0, 2, 3, 4, 5, 13, 18, 23, 29], lb := [], mu := [], trunc := [], draws := [] }
def t27L0 : TCode := (.seq (.seq (.region [⟨.mov (.loc 4), none, none⟩, ⟨.mov (.loc 0), none, none⟩, ⟨.len .sl (.reg 1), none, none⟩, ⟨.bin .lss (.reg 0) (.reg 2), (some 8), none⟩])
   (.cond (.loc 8)
    .skip
    (.exit 0)))
   (.seq (.block 1
    (.region [⟨.mov (.loc 3), none, none⟩, ⟨.bin .mul (.cst (.int .i64 64)) (.reg 0), none, none⟩, ⟨.mov (.loc 0), none, none⟩, ⟨.mov (.loc 4), none, none⟩, ⟨.indexAddrS 1 (.reg 2) (.reg 3), none, none⟩, ⟨.load1 (.reg 4), none, none⟩, ⟨.conv (.toInt .i64) (.reg 5), none, none⟩, ⟨.bin .rem (.reg 6) (.cst (.int .i64 64)), none, none⟩, ⟨.bin .add (.reg 1) (.reg 7), none, none⟩, ⟨.mov (.reg 8), (some 3), none⟩]))
   (.region [⟨.mov (.loc 4), none, none⟩, ⟨.bin .add (.reg 0) (.cst (.int .i64 1)), none, none⟩, ⟨.mov (.reg 1), (some 4), none⟩])))
def t27 : TFunc := ⟨1, 9, [.loc 1],
 (.seq (.region [⟨.mov (.cst (.int .i64 0)), (some 1), none⟩])
 (.seq (.region [⟨.mov (.loc 0), none, none⟩, ⟨.indexAddrS 1 (.reg 0) (.cst (.int .i64 0)), none, none⟩, ⟨.load1 (.reg 1), none, none⟩, ⟨.conv (.toInt .i64) (.reg 2), none, none⟩, ⟨.mov (.reg 3), (some 2), none⟩])
 (.seq (.region [⟨.mov (.loc 2), none, none⟩, ⟨.mov (.reg 0), (some 3), none⟩])
 (.seq (.seq (.region [⟨.mov (.loc 0), none, none⟩, ⟨.len .sl (.reg 0), none, none⟩, ⟨.bin .eql (.reg 1) (.cst (.int .i64 2)), (some 5), none⟩])
 (.cond (.loc 5)
  (.region [⟨.mov (.loc 2), none, none⟩, ⟨.bin .rem (.reg 0) (.cst (.int .i64 32)), none, none⟩, ⟨.mov (.reg 1), (some 3), none⟩])
  .skip))
 (.seq (.seq (.region [⟨.mov (.loc 0), none, none⟩, ⟨.len .sl (.reg 0), none, none⟩, ⟨.bin .eql (.reg 1) (.cst (.int .i64 3)), (some 6), none⟩])
 (.cond (.loc 6)
  (.region [⟨.mov (.loc 2), none, none⟩, ⟨.bin .rem (.reg 0) (.cst (.int .i64 16)), none, none⟩, ⟨.mov (.reg 1), (some 3), none⟩])
  .skip))
 (.seq (.seq (.region [⟨.mov (.loc 0), none, none⟩, ⟨.len .sl (.reg 0), none, none⟩, ⟨.bin .eql (.reg 1) (.cst (.int .i64 4)), (some 7), none⟩])
 (.cond (.loc 7)
  (.region [⟨.mov (.loc 2), none, none⟩, ⟨.bin .rem (.reg 0) (.cst (.int .i64 8)), none, none⟩, ⟨.mov (.reg 1), (some 3), none⟩])
  .skip))
 (.seq (.seq (.region [⟨.mov (.cst (.int .i64 1)), (some 4), none⟩])
 (.block 0
  (.loop t27L0)))
 (.seq (.region [⟨.mov (.loc 3), none, none⟩, ⟨.mov (.reg 0), (some 1), none⟩])
 .ret))))))))⟩
theorem c27 : compFunc Tryd.prog opts a27 Tryd.f27 = some t27 := by kernel_rfl
/-- unicode/utf8.ValidRune -/
def a28 : Ann := { slots := [0, 2, 3, 10], lb := [], mu := [], trunc := [], draws := [] }
def t28 : TFunc := ⟨1, 4, [.loc 1],
 (.seq (.region [⟨.mov (.cst (.bool false)), (some 1), none⟩])
 (.seq (.block 0
  (.seq (.region [⟨.mov (.loc 0), none, none⟩, ⟨.bin .leq (.cst (.int .i32 0)) (.reg 0), none, none⟩, ⟨.mov (.reg 1), none, none⟩, ⟨.mov (.loc 0), none, (some (2, true))⟩, ⟨.bin .lss (.reg 3) (.cst (.int .i32 55296)), none, (some (2, true))⟩, ⟨.pick (.reg 2) (.reg 4) (.cst (.bool false)), none, none⟩, ⟨.mov (.reg 5), (some 2), none⟩])
  (.cond (.loc 2)
   (.seq (.region [⟨.mov (.cst (.bool true)), (some 1), none⟩])
   .ret)
   (.seq (.region [⟨.mov (.loc 0), none, none⟩, ⟨.bin .lss (.cst (.int .i32 57343)) (.reg 0), none, none⟩, ⟨.mov (.reg 1), none, none⟩, ⟨.mov (.loc 0), none, (some (2, true))⟩, ⟨.bin .leq (.reg 3) (.cst (.int .i32 1114111)), none, (some (2, true))⟩, ⟨.pick (.reg 2) (.reg 4) (.cst (.bool false)), none, none⟩, ⟨.mov (.reg 5), (some 3), none⟩])
   (.cond (.loc 3)
    (.seq (.region [⟨.mov (.cst (.bool true)), (some 1), none⟩])
    .ret)
    .skip)))))
 (.seq (.region [⟨.mov (.cst (.bool false)), (some 1), none⟩])
 .ret)))⟩
theorem c28 : compFunc Tryd.prog opts a28 Tryd.f28 = some t28 := by kernel_rfl
/-- unicode/utf8.AppendRune -/
def a29 : Ann := { slots := [0, 1, 4, 7], lb := [], mu := [], trunc := [], draws := [] }
def t29 : TFunc := ⟨2, 4, [.loc 2],
 (.seq (.region [⟨.mov (.cst (.sl .nil [])), (some 2), none⟩])
 (.seq (.seq (.region [⟨.mov (.loc 1), none, none⟩, ⟨.conv (.toInt .u32) (.reg 0), none, none⟩, ⟨.bin .leq (.reg 1) (.cst (.int .u32 127)), (some 3), none⟩])
 (.cond (.loc 3)
  (.seq (.region [⟨.mov (.loc 0), none, none⟩, ⟨.mov (.loc 1), none, none⟩, ⟨.conv (.toInt .u8) (.reg 1), none, none⟩, ⟨.lit false [(.int .u8 0)] 1 [(0, (.reg 2))], none, none⟩, ⟨.append false 1 1 5 (.reg 0) (.reg 3), none, none⟩, ⟨.mov (.reg 4), (some 2), none⟩])
  .ret)
  .skip))
 (.seq (.region [⟨.mov (.loc 0), none, none⟩, ⟨.mov (.loc 1), none, none⟩, ⟨.call false false 31 [(.reg 0), (.reg 1)], none, none⟩, ⟨.mov (.reg 2), (some 2), none⟩])
 .ret)))⟩
theorem c29 : compFunc Tryd.prog opts a29 Tryd.f29 = some t29 := by kernel_rfl
/-- unicode/utf8.decodeRuneSlow -/
def a30 : Ann := { slots := [0, 2, 3, 4, 5, 6, 7, 8, 9, 10, 11, 12, 16, 24, 47, 60, 62, 79, 81, 103], lb := [9], mu := [], trunc := [], draws := [] }
def t30 : TFunc := ⟨1, 20, [.loc 1, .loc 2],
 (.seq (.region [⟨.mov (.cst (.int .i32 0)), (some 1), none⟩, ⟨.mov (.cst (.int .i64 0)), (some 2), none⟩])
 (.seq (.region [⟨.mov (.loc 0), none, none⟩, ⟨.len .sl (.reg 0), none, none⟩, ⟨.mov (.reg 1), (some 3), none⟩])
 (.seq (.seq (.region [⟨.mov (.loc 3), none, none⟩, ⟨.bin .lss (.reg 0) (.cst (.int .i64 1)), (some 12), none⟩])
 (.cond (.loc 12)
  (.seq (.region [⟨.mov (.cst (.int .i32 65533)), (some 1), none⟩, ⟨.mov (.cst (.int .i64 0)), (some 2), none⟩])
  .ret)
  .skip))
 (.seq (.region [⟨.mov (.loc 0), none, none⟩, ⟨.indexAddrS 1 (.reg 0) (.cst (.int .i64 0)), none, none⟩, ⟨.load1 (.reg 1), none, none⟩, ⟨.mov (.reg 2), (some 4), none⟩])
 (.seq (.region [⟨.mov (.loc 4), none, none⟩, ⟨.indexAddrA 256 1 (.glob 0) (.reg 0), none, none⟩, ⟨.load1 (.reg 1), none, none⟩, ⟨.mov (.reg 2), (some 5), none⟩])
 (.seq (.seq (.region [⟨.mov (.loc 5), none, none⟩, ⟨.bin .geq (.reg 0) (.cst (.int .u8 240)), (some 13), none⟩])
 (.cond (.loc 13)
  (.seq (.region [⟨.mov (.loc 5), none, none⟩, ⟨.conv (.toInt .i32) (.reg 0), none, none⟩, ⟨.bin .shl (.reg 1) (.cst (.int .u64 31)), none, none⟩, ⟨.bin .shr (.reg 2) (.cst (.int .u64 31)), none, none⟩, ⟨.mov (.reg 3), (some 6), none⟩])
  (.seq (.region [⟨.mov (.loc 0), none, none⟩, ⟨.indexAddrS 1 (.reg 0) (.cst (.int .i64 0)), none, none⟩, ⟨.load1 (.reg 1), none, none⟩, ⟨.conv (.toInt .i32) (.reg 2), none, none⟩, ⟨.mov (.loc 6), none, none⟩, ⟨.bin .andNot (.reg 3) (.reg 4), none, none⟩, ⟨.mov (.loc 6), none, none⟩, ⟨.bin .and (.cst (.int .i32 65533)) (.reg 6), none, none⟩, ⟨.bin .or (.reg 5) (.reg 7), none, none⟩, ⟨.mov (.reg 8), (some 1), none⟩, ⟨.mov (.cst (.int .i64 1)), (some 2), none⟩])
  .ret))
  .skip))
 (.seq (.region [⟨.mov (.loc 5), none, none⟩, ⟨.bin .and (.reg 0) (.cst (.int .u8 7)), none, none⟩, ⟨.conv (.toInt .i64) (.reg 1), none, none⟩, ⟨.mov (.reg 2), (some 7), none⟩])
 (.seq (.region [⟨.mov (.loc 5), none, none⟩, ⟨.bin .shr (.reg 0) (.cst (.int .u64 4)), none, none⟩, ⟨.indexAddrA 16 2 (.glob 1) (.reg 1), none, none⟩, ⟨.loadN 2 (.reg 2), none, none⟩, ⟨.allocL 8 [(.int .u8 0), (.int .u8 0)], none, none⟩, ⟨.store 2 (.reg 4) (.reg 3), none, none⟩])
 (.seq (.seq (.region [⟨.mov (.loc 3), none, none⟩, ⟨.mov (.loc 7), none, none⟩, ⟨.bin .lss (.reg 0) (.reg 1), (some 14), none⟩])
 (.cond (.loc 14)
  (.seq (.region [⟨.mov (.cst (.int .i32 65533)), (some 1), none⟩, ⟨.mov (.cst (.int .i64 1)), (some 2), none⟩])
  .ret)
  .skip))
 (.seq (.region [⟨.mov (.loc 0), none, none⟩, ⟨.indexAddrS 1 (.reg 0) (.cst (.int .i64 1)), none, none⟩, ⟨.load1 (.reg 1), none, none⟩, ⟨.mov (.reg 2), (some 9), none⟩])
 (.seq (.seq (.region [⟨.mov (.loc 9), none, none⟩, ⟨.fieldAddr 0 (.loc 8), none, none⟩, ⟨.load1 (.reg 1), none, none⟩, ⟨.bin .lss (.reg 0) (.reg 2), none, none⟩, ⟨.mov (.reg 3), none, none⟩, ⟨.fieldAddr 1 (.loc 8), none, (some (4, false))⟩, ⟨.load1 (.reg 5), none, (some (4, false))⟩, ⟨.mov (.loc 9), none, (some (4, false))⟩, ⟨.bin .lss (.reg 6) (.reg 7), none, (some (4, false))⟩, ⟨.pick (.reg 4) (.cst (.bool true)) (.reg 8), (some 15), none⟩])
 (.cond (.loc 15)
  (.seq (.region [⟨.mov (.cst (.int .i32 65533)), (some 1), none⟩, ⟨.mov (.cst (.int .i64 1)), (some 2), none⟩])
  .ret)
  .skip))
 (.seq (.seq (.region [⟨.mov (.loc 7), none, none⟩, ⟨.bin .leq (.reg 0) (.cst (.int .i64 2)), (some 16), none⟩])
 (.cond (.loc 16)
  (.seq (.region [⟨.mov (.loc 4), none, none⟩, ⟨.bin .and (.reg 0) (.cst (.int .u8 31)), none, none⟩, ⟨.conv (.toInt .i32) (.reg 1), none, none⟩, ⟨.bin .shl (.reg 2) (.cst (.int .u64 6)), none, none⟩, ⟨.mov (.loc 9), none, none⟩, ⟨.bin .and (.reg 4) (.cst (.int .u8 63)), none, none⟩, ⟨.conv (.toInt .i32) (.reg 5), none, none⟩, ⟨.bin .or (.reg 3) (.reg 6), none, none⟩, ⟨.mov (.reg 7), (some 1), none⟩, ⟨.mov (.cst (.int .i64 2)), (some 2), none⟩])
  .ret)
  .skip))
 (.seq (.region [⟨.mov (.loc 0), none, none⟩, ⟨.indexAddrS 1 (.reg 0) (.cst (.int .i64 2)), none, none⟩, ⟨.load1 (.reg 1), none, none⟩, ⟨.mov (.reg 2), (some 10), none⟩])
 (.seq (.seq (.region [⟨.mov (.loc 10), none, none⟩, ⟨.bin .lss (.reg 0) (.cst (.int .u8 128)), none, none⟩, ⟨.mov (.reg 1), none, none⟩, ⟨.mov (.loc 10), none, (some (2, false))⟩, ⟨.bin .lss (.cst (.int .u8 191)) (.reg 3), none, (some (2, false))⟩, ⟨.pick (.reg 2) (.cst (.bool true)) (.reg 4), (some 17), none⟩])
 (.cond (.loc 17)
  (.seq (.region [⟨.mov (.cst (.int .i32 65533)), (some 1), none⟩, ⟨.mov (.cst (.int .i64 1)), (some 2), none⟩])
  .ret)
  .skip))
 (.seq (.seq (.region [⟨.mov (.loc 7), none, none⟩, ⟨.bin .leq (.reg 0) (.cst (.int .i64 3)), (some 18), none⟩])
 (.cond (.loc 18)
  (.seq (.region [⟨.mov (.loc 4), none, none⟩, ⟨.bin .and (.reg 0) (.cst (.int .u8 15)), none, none⟩, ⟨.conv (.toInt .i32) (.reg 1), none, none⟩, ⟨.bin .shl (.reg 2) (.cst (.int .u64 12)), none, none⟩, ⟨.mov (.loc 9), none, none⟩, ⟨.bin .and (.reg 4) (.cst (.int .u8 63)), none, none⟩, ⟨.conv (.toInt .i32) (.reg 5), none, none⟩, ⟨.bin .shl (.reg 6) (.cst (.int .u64 6)), none, none⟩, ⟨.bin .or (.reg 3) (.reg 7), none, none⟩, ⟨.mov (.loc 10), none, none⟩, ⟨.bin .and (.reg 9) (.cst (.int .u8 63)), none, none⟩, ⟨.conv (.toInt .i32) (.reg 10), none, none⟩, ⟨.bin .or (.reg 8) (.reg 11), none, none⟩, ⟨.mov (.reg 12), (some 1), none⟩, ⟨.mov (.cst (.int .i64 3)), (some 2), none⟩])
  .ret)
  .skip))
 (.seq (.region [⟨.mov (.loc 0), none, none⟩, ⟨.indexAddrS 1 (.reg 0) (.cst (.int .i64 3)), none, none⟩, ⟨.load1 (.reg 1), none, none⟩, ⟨.mov (.reg 2), (some 11), none⟩])
 (.seq (.seq (.region [⟨.mov (.loc 11), none, none⟩, ⟨.bin .lss (.reg 0) (.cst (.int .u8 128)), none, none⟩, ⟨.mov (.reg 1), none, none⟩, ⟨.mov (.loc 11), none, (some (2, false))⟩, ⟨.bin .lss (.cst (.int .u8 191)) (.reg 3), none, (some (2, false))⟩, ⟨.pick (.reg 2) (.cst (.bool true)) (.reg 4), (some 19), none⟩])
 (.cond (.loc 19)
  (.seq (.region [⟨.mov (.cst (.int .i32 65533)), (some 1), none⟩, ⟨.mov (.cst (.int .i64 1)), (some 2), none⟩])
  .ret)
  .skip))
 (.seq (.region [⟨.mov (.loc 4), none, none⟩, ⟨.bin .and (.reg 0) (.cst (.int .u8 7)), none, none⟩, ⟨.conv (.toInt .i32) (.reg 1), none, none⟩, ⟨.bin .shl (.reg 2) (.cst (.int .u64 18)), none, none⟩, ⟨.mov (.loc 9), none, none⟩, ⟨.bin .and (.reg 4) (.cst (.int .u8 63)), none, none⟩, ⟨.conv (.toInt .i32) (.reg 5), none, none⟩, ⟨.bin .shl (.reg 6) (.cst (.int .u64 12)), none, none⟩, ⟨.bin .or (.reg 3) (.reg 7), none, none⟩, ⟨.mov (.loc 10), none, none⟩, ⟨.bin .and (.reg 9) (.cst (.int .u8 63)), none, none⟩, ⟨.conv (.toInt .i32) (.reg 10), none, none⟩, ⟨.bin .shl (.reg 11) (.cst (.int .u64 6)), none, none⟩, ⟨.bin .or (.reg 8) (.reg 12), none, none⟩, ⟨.mov (.loc 11), none, none⟩, ⟨.bin .and (.reg 14) (.cst (.int .u8 63)), none, none⟩, ⟨.conv (.toInt .i32) (.reg 15), none, none⟩, ⟨.bin .or (.reg 13) (.reg 16), none, none⟩, ⟨.mov (.reg 17), (some 1), none⟩, ⟨.mov (.cst (.int .i64 4)), (some 2), none⟩])
 .ret))))))))))))))))))⟩
theorem c30 : compFunc Tryd.prog opts a30 Tryd.f30 = some t30 := by kernel_rfl
/-- unicode/utf8.appendRuneNonASCII -/
def a31 : Ann := { slots := [0, 1, 4, 5, 11, 25, 50], lb := [], mu := [], trunc := [], draws := [] }
def t31 : TFunc := ⟨2, 7, [.loc 2],
 (.seq (.region [⟨.mov (.cst (.sl .nil [])), (some 2), none⟩])
 (.seq (.region [⟨.mov (.loc 1), none, none⟩, ⟨.conv (.toInt .u32) (.reg 0), none, none⟩, ⟨.mov (.reg 1), (some 3), none⟩])
 (.block 0
  (.seq (.region [⟨.mov (.loc 3), none, none⟩, ⟨.bin .leq (.reg 0) (.cst (.int .u32 2047)), none, none⟩, ⟨.mov (.reg 1), (some 4), none⟩])
  (.cond (.loc 4)
   (.seq (.region [⟨.mov (.loc 0), none, none⟩, ⟨.mov (.loc 1), none, none⟩, ⟨.bin .shr (.reg 1) (.cst (.int .u64 6)), none, none⟩, ⟨.conv (.toInt .u8) (.reg 2), none, none⟩, ⟨.bin .or (.cst (.int .u8 192)) (.reg 3), none, none⟩, ⟨.mov (.loc 1), none, none⟩, ⟨.conv (.toInt .u8) (.reg 5), none, none⟩, ⟨.bin .and (.reg 6) (.cst (.int .u8 63)), none, none⟩, ⟨.bin .or (.cst (.int .u8 128)) (.reg 7), none, none⟩, ⟨.lit false [(.int .u8 0)] 2 [(0, (.reg 4)), (1, (.reg 8))], none, none⟩, ⟨.append false 1 1 5 (.reg 0) (.reg 9), none, none⟩, ⟨.mov (.reg 10), (some 2), none⟩])
   .ret)
   (.seq (.seq (.region [⟨.mov (.loc 3), none, none⟩, ⟨.bin .lss (.reg 0) (.cst (.int .u32 55296)), none, none⟩, ⟨.mov (.reg 1), (some 5), none⟩])
   (.cond (.loc 5)
    .skip
    (.region [⟨.mov (.loc 3), none, none⟩, ⟨.bin .lss (.cst (.int .u32 57343)) (.reg 0), none, none⟩, ⟨.mov (.reg 1), none, none⟩, ⟨.mov (.loc 3), none, (some (2, true))⟩, ⟨.bin .leq (.reg 3) (.cst (.int .u32 65535)), none, (some (2, true))⟩, ⟨.pick (.reg 2) (.reg 4) (.cst (.bool false)), none, none⟩, ⟨.mov (.reg 5), (some 5), none⟩])))
   (.cond (.loc 5)
    (.seq (.region [⟨.mov (.loc 0), none, none⟩, ⟨.mov (.loc 1), none, none⟩, ⟨.bin .shr (.reg 1) (.cst (.int .u64 12)), none, none⟩, ⟨.conv (.toInt .u8) (.reg 2), none, none⟩, ⟨.bin .or (.cst (.int .u8 224)) (.reg 3), none, none⟩, ⟨.mov (.loc 1), none, none⟩, ⟨.bin .shr (.reg 5) (.cst (.int .u64 6)), none, none⟩, ⟨.conv (.toInt .u8) (.reg 6), none, none⟩, ⟨.bin .and (.reg 7) (.cst (.int .u8 63)), none, none⟩, ⟨.bin .or (.cst (.int .u8 128)) (.reg 8), none, none⟩, ⟨.mov (.loc 1), none, none⟩, ⟨.conv (.toInt .u8) (.reg 10), none, none⟩, ⟨.bin .and (.reg 11) (.cst (.int .u8 63)), none, none⟩, ⟨.bin .or (.cst (.int .u8 128)) (.reg 12), none, none⟩, ⟨.lit false [(.int .u8 0)] 3 [(0, (.reg 4)), (1, (.reg 9)), (2, (.reg 13))], none, none⟩, ⟨.append false 1 1 5 (.reg 0) (.reg 14), none, none⟩, ⟨.mov (.reg 15), (some 2), none⟩])
    .ret)
    (.seq (.region [⟨.mov (.loc 3), none, none⟩, ⟨.bin .gtr (.reg 0) (.cst (.int .u32 65535)), none, none⟩, ⟨.mov (.reg 1), none, none⟩, ⟨.mov (.loc 3), none, (some (2, true))⟩, ⟨.bin .leq (.reg 3) (.cst (.int .u32 1114111)), none, (some (2, true))⟩, ⟨.pick (.reg 2) (.reg 4) (.cst (.bool false)), none, none⟩, ⟨.mov (.reg 5), (some 6), none⟩])
    (.cond (.loc 6)
     (.seq (.region [⟨.mov (.loc 0), none, none⟩, ⟨.mov (.loc 1), none, none⟩, ⟨.bin .shr (.reg 1) (.cst (.int .u64 18)), none, none⟩, ⟨.conv (.toInt .u8) (.reg 2), none, none⟩, ⟨.bin .or (.cst (.int .u8 240)) (.reg 3), none, none⟩, ⟨.mov (.loc 1), none, none⟩, ⟨.bin .shr (.reg 5) (.cst (.int .u64 12)), none, none⟩, ⟨.conv (.toInt .u8) (.reg 6), none, none⟩, ⟨.bin .and (.reg 7) (.cst (.int .u8 63)), none, none⟩, ⟨.bin .or (.cst (.int .u8 128)) (.reg 8), none, none⟩, ⟨.mov (.loc 1), none, none⟩, ⟨.bin .shr (.reg 10) (.cst (.int .u64 6)), none, none⟩, ⟨.conv (.toInt .u8) (.reg 11), none, none⟩, ⟨.bin .and (.reg 12) (.cst (.int .u8 63)), none, none⟩, ⟨.bin .or (.cst (.int .u8 128)) (.reg 13), none, none⟩, ⟨.mov (.loc 1), none, none⟩, ⟨.conv (.toInt .u8) (.reg 15), none, none⟩, ⟨.bin .and (.reg 16) (.cst (.int .u8 63)), none, none⟩, ⟨.bin .or (.cst (.int .u8 128)) (.reg 17), none, none⟩, ⟨.lit false [(.int .u8 0)] 4 [(0, (.reg 4)), (1, (.reg 9)), (2, (.reg 14)), (3, (.reg 18))], none, none⟩, ⟨.append false 1 1 5 (.reg 0) (.reg 19), none, none⟩, ⟨.mov (.reg 20), (some 2), none⟩])
     .ret)
     (.seq (.region [⟨.mov (.loc 0), none, none⟩, ⟨.lit false [(.int .u8 0)] 3 [(0, (.cst (.int .u8 239))), (1, (.cst (.int .u8 191))), (2, (.cst (.int .u8 189)))], none, none⟩, ⟨.append false 1 1 5 (.reg 0) (.reg 1), none, none⟩, ⟨.mov (.reg 2), (some 2), none⟩])
     .ret))))))))))⟩
theorem c31 : compFunc Tryd.prog opts a31 Tryd.f31 = some t31 := by kernel_rfl
def g0 : List IV := [(.int .u8 240), (.int .u8 240), (.int .u8 240), (.int .u8 240), (.int .u8 240), (.int .u8 240), (.int .u8 240), (.int .u8 240), (.int .u8 240), (.int .u8 240), (.int .u8 240), (.int .u8 240), (.int .u8 240), (.int .u8 240), (.int .u8 240), (.int .u8 240), (.int .u8 240), (.int .u8 240), (.int .u8 240), (.int .u8 240), (.int .u8 240), (.int .u8 240), (.int .u8 240), (.int .u8 240), (.int .u8 240), (.int .u8 240), (.int .u8 240), (.int .u8 240), (.int .u8 240), (.int .u8 240), (.int .u8 240), (.int .u8 240), (.int .u8 240), (.int .u8 240), (.int .u8 240), (.int .u8 240), (.int .u8 240), (.int .u8 240), (.int .u8 240), (.int .u8 240), (.int .u8 240), (.int .u8 240), (.int .u8 240), (.int .u8 240), (.int .u8 240), (.int .u8 240), (.int .u8 240), (.int .u8 240), (.int .u8 240), (.int .u8 240), (.int .u8 240), (.int .u8 240), (.int .u8 240), (.int .u8 240), (.int .u8 240), (.int .u8 240), (.int .u8 240), (.int .u8 240), (.int .u8 240), (.int .u8 240), (.int .u8 240), (.int .u8 240), (.int .u8 240), (.int .u8 240), (.int .u8 240), (.int .u8 240), (.int .u8 240), (.int .u8 240), (.int .u8 240), (.int .u8 240), (.int .u8 240), (.int .u8 240), (.int .u8 240), (.int .u8 240), (.int .u8 240), (.int .u8 240), (.int .u8 240), (.int .u8 240), (.int .u8 240), (.int .u8 240), (.int .u8 240), (.int .u8 240), (.int .u8 240), (.int .u8 240), (.int .u8 240), (.int .u8 240), (.int .u8 240), (.int .u8 240), (.int .u8 240), (.int .u8 240), (.int .u8 240), (.int .u8 240), (.int .u8 240), (.int .u8 240), (.int .u8 240), (.int .u8 240), (.int .u8 240), (.int .u8 240), (.int .u8 240), (.int .u8 240), (.int .u8 240), (.int .u8 240), (.int .u8 240), (.int .u8 240), (.int .u8 240), (.int .u8 240), (.int .u8 240), (.int .u8 240), (.int .u8 240), (.int .u8 240), (.int .u8 240), (.int .u8 240), (.int .u8 240), (.int .u8 240), (.int .u8 240), (.int .u8 240), (.int .u8 240), (.int .u8 240), (.int .u8 240), (.int .u8 240), (.int .u8 240), (.int .u8 240), (.int .u8 240), (.int .u8 240), (.int .u8 240), (.int .u8 240), (.int .u8 240), (.int .u8 240), (.int .u8 241), (.int .u8 241), (.int .u8 241), (.int .u8 241), (.int .u8 241), (.int .u8 241), (.int .u8 241), (.int .u8 241), (.int .u8 241), (.int .u8 241), (.int .u8 241), (.int .u8 241), (.int .u8 241), (.int .u8 241), (.int .u8 241), (.int .u8 241), (.int .u8 241), (.int .u8 241), (.int .u8 241), (.int .u8 241), (.int .u8 241), (.int .u8 241), (.int .u8 241), (.int .u8 241), (.int .u8 241), (.int .u8 241), (.int .u8 241), (.int .u8 241), (.int .u8 241), (.int .u8 241), (.int .u8 241), (.int .u8 241), (.int .u8 241), (.int .u8 241), (.int .u8 241), (.int .u8 241), (.int .u8 241), (.int .u8 241), (.int .u8 241), (.int .u8 241), (.int .u8 241), (.int .u8 241), (.int .u8 241), (.int .u8 241), (.int .u8 241), (.int .u8 241), (.int .u8 241), (.int .u8 241), (.int .u8 241), (.int .u8 241), (.int .u8 241), (.int .u8 241), (.int .u8 241), (.int .u8 241), (.int .u8 241), (.int .u8 241), (.int .u8 241), (.int .u8 241), (.int .u8 241), (.int .u8 241), (.int .u8 241), (.int .u8 241), (.int .u8 241), (.int .u8 241), (.int .u8 241), (.int .u8 241), (.int .u8 2), (.int .u8 2), (.int .u8 2), (.int .u8 2), (.int .u8 2), (.int .u8 2), (.int .u8 2), (.int .u8 2), (.int .u8 2), (.int .u8 2), (.int .u8 2), (.int .u8 2), (.int .u8 2), (.int .u8 2), (.int .u8 2), (.int .u8 2), (.int .u8 2), (.int .u8 2), (.int .u8 2), (.int .u8 2), (.int .u8 2), (.int .u8 2), (.int .u8 2), (.int .u8 2), (.int .u8 2), (.int .u8 2), (.int .u8 2), (.int .u8 2), (.int .u8 2), (.int .u8 2), (.int .u8 19), (.int .u8 3), (.int .u8 3), (.int .u8 3), (.int .u8 3), (.int .u8 3), (.int .u8 3), (.int .u8 3), (.int .u8 3), (.int .u8 3), (.int .u8 3), (.int .u8 3), (.int .u8 3), (.int .u8 35), (.int .u8 3), (.int .u8 3), (.int .u8 52), (.int .u8 4), (.int .u8 4), (.int .u8 4), (.int .u8 68), (.int .u8 241), (.int .u8 241), (.int .u8 241), (.int .u8 241), (.int .u8 241), (.int .u8 241), (.int .u8 241), (.int .u8 241), (.int .u8 241), (.int .u8 241), (.int .u8 241)]
def g1 : List IV := [(.int .u8 128), (.int .u8 191), (.int .u8 160), (.int .u8 191), (.int .u8 128), (.int .u8 159), (.int .u8 144), (.int .u8 191), (.int .u8 128), (.int .u8 143), (.int .u8 0), (.int .u8 0), (.int .u8 0), (.int .u8 0), (.int .u8 0), (.int .u8 0), (.int .u8 0), (.int .u8 0), (.int .u8 0), (.int .u8 0), (.int .u8 0), (.int .u8 0), (.int .u8 0), (.int .u8 0), (.int .u8 0), (.int .u8 0), (.int .u8 0), (.int .u8 0), (.int .u8 0), (.int .u8 0), (.int .u8 0), (.int .u8 0)]
def tbl : List (Option TFunc) := [none, none, none, some t3, some t4, some t5, some t6, some t7, some t8, some t9, some t10, some t11, some t12, some t13, some t14, some t15, some t16, some t17, some t18, some t19, some t20, some t21, some t22, some t23, some t24, some t25, some t26, some t27, some t28, some t29, some t30, some t31]
def gtbl : List (Option (List IV)) := [some g0, some g1]
def K : TM.Prog := ⟨fun k => tbl.getD k none, fun g => gtbl.getD g none, fun _ => none⟩
/-- A function that stands in the table. -/
def Good (k : Nat) (tf : TFunc) : Prop := ∃ (A : Ann) (fn : Func), Tryd.prog.funcs[k]? = some fn ∧ fn.name ≠ "runtime.NumGoroutine" ∧ compFunc Tryd.prog opts A fn = some tf
theorem n3 : (Tryd.f3.name == "runtime.NumGoroutine") = false := by kernel_rfl
theorem q3 : Good 3 t3 := ⟨a3, Tryd.f3, Tryd.func3, fun e => by have h := n3; rw [e] at h; simp at h, c3⟩
theorem n4 : (Tryd.f4.name == "runtime.NumGoroutine") = false := by kernel_rfl
theorem q4 : Good 4 t4 := ⟨a4, Tryd.f4, Tryd.func4, fun e => by have h := n4; rw [e] at h; simp at h, c4⟩
theorem n5 : (Tryd.f5.name == "runtime.NumGoroutine") = false := by kernel_rfl
theorem q5 : Good 5 t5 := ⟨a5, Tryd.f5, Tryd.func5, fun e => by have h := n5; rw [e] at h; simp at h, c5⟩
theorem n6 : (Tryd.f6.name == "runtime.NumGoroutine") = false := by kernel_rfl
theorem q6 : Good 6 t6 := ⟨a6, Tryd.f6, Tryd.func6, fun e => by have h := n6; rw [e] at h; simp at h, c6⟩
theorem n7 : (Tryd.f7.name == "runtime.NumGoroutine") = false := by kernel_rfl
theorem q7 : Good 7 t7 := ⟨a7, Tryd.f7, Tryd.func7, fun e => by have h := n7; rw [e] at h; simp at h, c7⟩
theorem n8 : (Tryd.f8.name == "runtime.NumGoroutine") = false := by kernel_rfl
theorem q8 : Good 8 t8 := ⟨a8, Tryd.f8, Tryd.func8, fun e => by have h := n8; rw [e] at h; simp at h, c8⟩
theorem n9 : (Tryd.f9.name == "runtime.NumGoroutine") = false := by kernel_rfl
theorem q9 : Good 9 t9 := ⟨a9, Tryd.f9, Tryd.func9, fun e => by have h := n9; rw [e] at h; simp at h, c9⟩
theorem n10 : (Tryd.f10.name == "runtime.NumGoroutine") = false := by kernel_rfl
theorem q10 : Good 10 t10 := ⟨a10, Tryd.f10, Tryd.func10, fun e => by have h := n10; rw [e] at h; simp at h, c10⟩
theorem n11 : (Tryd.f11.name == "runtime.NumGoroutine") = false := by kernel_rfl
theorem q11 : Good 11 t11 := ⟨a11, Tryd.f11, Tryd.func11, fun e => by have h := n11; rw [e] at h; simp at h, c11⟩
theorem n12 : (Tryd.f12.name == "runtime.NumGoroutine") = false := by kernel_rfl
theorem q12 : Good 12 t12 := ⟨a12, Tryd.f12, Tryd.func12, fun e => by have h := n12; rw [e] at h; simp at h, c12⟩
theorem n13 : (Tryd.f13.name == "runtime.NumGoroutine") = false := by kernel_rfl
theorem q13 : Good 13 t13 := ⟨a13, Tryd.f13, Tryd.func13, fun e => by have h := n13; rw [e] at h; simp at h, c13⟩
theorem n14 : (Tryd.f14.name == "runtime.NumGoroutine") = false := by kernel_rfl
theorem q14 : Good 14 t14 := ⟨a14, Tryd.f14, Tryd.func14, fun e => by have h := n14; rw [e] at h; simp at h, c14⟩
theorem n15 : (Tryd.f15.name == "runtime.NumGoroutine") = false := by kernel_rfl
theorem q15 : Good 15 t15 := ⟨a15, Tryd.f15, Tryd.func15, fun e => by have h := n15; rw [e] at h; simp at h, c15⟩
theorem n16 : (Tryd.f16.name == "runtime.NumGoroutine") = false := by kernel_rfl
theorem q16 : Good 16 t16 := ⟨a16, Tryd.f16, Tryd.func16, fun e => by have h := n16; rw [e] at h; simp at h, c16⟩
theorem n17 : (Tryd.f17.name == "runtime.NumGoroutine") = false := by kernel_rfl
theorem q17 : Good 17 t17 := ⟨a17, Tryd.f17, Tryd.func17, fun e => by have h := n17; rw [e] at h; simp at h, c17⟩
theorem n18 : (Tryd.f18.name == "runtime.NumGoroutine") = false := by kernel_rfl
theorem q18 : Good 18 t18 := ⟨a18, Tryd.f18, Tryd.func18, fun e => by have h := n18; rw [e] at h; simp at h, c18⟩
theorem n19 : (Tryd.f19.name == "runtime.NumGoroutine") = false := by kernel_rfl
theorem q19 : Good 19 t19 := ⟨a19, Tryd.f19, Tryd.func19, fun e => by have h := n19; rw [e] at h; simp at h, c19⟩
theorem n20 : (Tryd.f20.name == "runtime.NumGoroutine") = false := by kernel_rfl
theorem q20 : Good 20 t20 := ⟨a20, Tryd.f20, Tryd.func20, fun e => by have h := n20; rw [e] at h; simp at h, c20⟩
theorem n21 : (Tryd.f21.name == "runtime.NumGoroutine") = false := by kernel_rfl
theorem q21 : Good 21 t21 := ⟨a21, Tryd.f21, Tryd.func21, fun e => by have h := n21; rw [e] at h; simp at h, c21⟩
theorem n22 : (Tryd.f22.name == "runtime.NumGoroutine") = false := by kernel_rfl
theorem q22 : Good 22 t22 := ⟨a22, Tryd.f22, Tryd.func22, fun e => by have h := n22; rw [e] at h; simp at h, c22⟩
theorem n23 : (Tryd.f23.name == "runtime.NumGoroutine") = false := by kernel_rfl
theorem q23 : Good 23 t23 := ⟨a23, Tryd.f23, Tryd.func23, fun e => by have h := n23; rw [e] at h; simp at h, c23⟩
theorem n24 : (Tryd.f24.name == "runtime.NumGoroutine") = false := by kernel_rfl
theorem q24 : Good 24 t24 := ⟨a24, Tryd.f24, Tryd.func24, fun e => by have h := n24; rw [e] at h; simp at h, c24⟩
theorem n25 : (Tryd.f25.name == "runtime.NumGoroutine") = false := by kernel_rfl
theorem q25 : Good 25 t25 := ⟨a25, Tryd.f25, Tryd.func25, fun e => by have h := n25; rw [e] at h; simp at h, c25⟩
theorem n26 : (Tryd.f26.name == "runtime.NumGoroutine") = false := by kernel_rfl
theorem q26 : Good 26 t26 := ⟨a26, Tryd.f26, Tryd.func26, fun e => by have h := n26; rw [e] at h; simp at h, c26⟩
theorem n27 : (Tryd.f27.name == "runtime.NumGoroutine") = false := by kernel_rfl
theorem q27 : Good 27 t27 := ⟨a27, Tryd.f27, Tryd.func27, fun e => by have h := n27; rw [e] at h; simp at h, c27⟩
theorem n28 : (Tryd.f28.name == "runtime.NumGoroutine") = false := by kernel_rfl
theorem q28 : Good 28 t28 := ⟨a28, Tryd.f28, Tryd.func28, fun e => by have h := n28; rw [e] at h; simp at h, c28⟩
theorem n29 : (Tryd.f29.name == "runtime.NumGoroutine") = false := by kernel_rfl
theorem q29 : Good 29 t29 := ⟨a29, Tryd.f29, Tryd.func29, fun e => by have h := n29; rw [e] at h; simp at h, c29⟩
theorem n30 : (Tryd.f30.name == "runtime.NumGoroutine") = false := by kernel_rfl
theorem q30 : Good 30 t30 := ⟨a30, Tryd.f30, Tryd.func30, fun e => by have h := n30; rw [e] at h; simp at h, c30⟩
theorem n31 : (Tryd.f31.name == "runtime.NumGoroutine") = false := by kernel_rfl
theorem q31 : Good 31 t31 := ⟨a31, Tryd.f31, Tryd.func31, fun e => by have h := n31; rw [e] at h; simp at h, c31⟩
theorem good : AllAt Good 0 tbl := ⟨q3, q4, q5, q6, q7, q8, q9, q10, q11, q12, q13, q14, q15, q16, q17, q18, q19, q20, q21, q22, q23, q24, q25, q26, q27, q28, q29, q30, q31, trivial⟩
theorem kok : KOK Tryd.prog opts K := ⟨fun k tf h => allAt_get good k tf h, fun f p h => by simp [K] at h, by kernel_rfl⟩
end Go.Proofs.YtgjndmpfofhhmaaDoor
