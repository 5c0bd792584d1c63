/- The functions of this seat, compiled for the evaluator TM; each held against the translation by the kernel. By program. Condition: none. -/
import Derived.Test.YtpngkgkobapioaaDoorPrim
set_option maxRecDepth 100000
set_option linter.unusedVariables false
namespace Go.Proofs.YtpngkgkobapioaaDoor
open Go Go.TM
def opts : Opts := ⟨fun f => ([14, 15, 18, 19, 20, 22, 23, 26, 29, 31, 32, 33, 34, 35, 41, 42, 49, 53, 54, 59, 76, 77, 78, 79, 80, 81, 82, 83] : List Nat).contains f, fun f => ([31, 39, 41] : List Nat).contains f⟩
def a4 : Ann := { slots := [0, 2, 3, 4, 5, 6, 9, 18, 50, 91], lb := [4], mu := [], trunc := [], draws := [(10, ⟨[0, 0, 3, 7, 15, 0, 63, 127, 255, 255, 1023, 2047, 4095, 255, 8447, 32767, 65535, 131071, 262143, 262143, 1048575, 2097151, 4194303, 8388607, 16777215, 33554431, 33554431, 134217727, 268435455, 536870911, 1073741823, 33554431, 33554431, 6476005375, 15065939967, 32245809151, 68719476735, 137438953471, 274877906943], [0, 1, 2, 3, 4, 5, 6, 7, 8, 9, 10, 11, 12, 13, 14, 15, 16, 17, 18, 19, 20, 21, 22, 23, 24, 25, 26, 27, 28, 29, 30, 31, 32, 33, 34, 35, 36, 37, 38], []⟩)] }
def t4L0 : TCode := (.seq (.seq (.region [⟨.mov (.loc 5), none, none⟩, ⟨.mov (.loc 2), none, none⟩, ⟨.len .sl (.reg 1), none, none⟩, ⟨.bin .lss (.reg 0) (.reg 2), (some 8), none⟩])
   (.cond (.loc 8)
    .skip
    (.exit 0)))
   (.seq (.block 1
    (.seq (.seq (.draw [0, 1, 2, 3, 4, 5, 6, 7, 8, 9, 10, 11, 12, 13, 14, 15, 16, 17, 18, 19, 20, 21, 22, 23, 24, 25, 26, 27, 28, 29, 30, 31, 32, 33, 34, 35, 36, 37, 38] [] [⟨.mov (.loc 2), none, none⟩, ⟨.mov (.loc 5), none, none⟩, ⟨.indexAddrS 7 (.reg 0) (.reg 1), none, none⟩, ⟨.fieldAddr 1 (.reg 2), none, none⟩, ⟨.load1 (.reg 3), none, none⟩, ⟨.mov (.loc 4), none, none⟩, ⟨.bin .leq (.reg 4) (.reg 5), none, none⟩, ⟨.mov (.reg 6), none, none⟩, ⟨.mov (.loc 2), none, (some (7, false))⟩, ⟨.mov (.loc 5), none, (some (7, false))⟩, ⟨.indexAddrS 7 (.reg 8) (.reg 9), none, (some (7, false))⟩, ⟨.fieldAddr 1 (.reg 10), none, (some (7, false))⟩, ⟨.load1 (.reg 11), none, (some (7, false))⟩, ⟨.mov (.loc 0), none, (some (7, false))⟩, ⟨.len .sl (.reg 13), none, (some (7, false))⟩, ⟨.bin .geq (.reg 12) (.reg 14), none, (some (7, false))⟩, ⟨.pick (.reg 7) (.cst (.bool true)) (.reg 15), none, none⟩, ⟨.mov (.reg 16), none, none⟩, ⟨.mov (.loc 2), none, (some (17, false))⟩, ⟨.mov (.loc 5), none, (some (17, false))⟩, ⟨.indexAddrS 7 (.reg 18) (.reg 19), none, (some (17, false))⟩, ⟨.fieldAddr 0 (.reg 20), none, (some (17, false))⟩, ⟨.load1 (.reg 21), none, (some (17, false))⟩, ⟨.bin .eql (.reg 22) (.cst (.int .i64 7)), none, (some (17, false))⟩, ⟨.mov (.reg 23), none, (some (17, false))⟩, ⟨.mov (.loc 2), none, (some (24, true))⟩, ⟨.mov (.loc 5), none, (some (24, true))⟩, ⟨.indexAddrS 7 (.reg 25) (.reg 26), none, (some (24, true))⟩, ⟨.fieldAddr 2 (.reg 27), none, (some (24, true))⟩, ⟨.fieldAddr 4 (.reg 28), none, (some (24, true))⟩, ⟨.load1 (.reg 29), none, (some (24, true))⟩, ⟨.mov (.loc 2), none, (some (24, true))⟩, ⟨.mov (.loc 5), none, (some (24, true))⟩, ⟨.indexAddrS 7 (.reg 31) (.reg 32), none, (some (24, true))⟩, ⟨.fieldAddr 1 (.reg 33), none, (some (24, true))⟩, ⟨.load1 (.reg 34), none, (some (24, true))⟩, ⟨.bin .neq (.reg 30) (.reg 35), none, (some (24, true))⟩, ⟨.pick (.reg 24) (.reg 36) (.cst (.bool false)), none, (some (17, false))⟩, ⟨.pick (.reg 17) (.cst (.bool true)) (.reg 37), (some 9), none⟩])
    (.cond (.loc 9)
     (.seq (.region [⟨.mov (.cst (.bool false)), (some 1), none⟩])
     .ret)
     .skip))
    (.region [⟨.mov (.loc 2), none, none⟩, ⟨.mov (.loc 5), none, none⟩, ⟨.indexAddrS 7 (.reg 0) (.reg 1), none, none⟩, ⟨.fieldAddr 1 (.reg 2), none, none⟩, ⟨.load1 (.reg 3), none, none⟩, ⟨.mov (.reg 4), (some 4), none⟩])))
   (.region [⟨.mov (.loc 5), none, none⟩, ⟨.bin .add (.reg 0) (.cst (.int .i64 1)), none, none⟩, ⟨.mov (.reg 1), (some 5), none⟩])))
def t4 : TFunc := ⟨1, 10, [.loc 1],
 (.seq (.region [⟨.mov (.cst (.bool false)), (some 1), none⟩])
 (.seq (.seq (.region [⟨.mov (.loc 0), none, none⟩, ⟨.len .sl (.reg 0), none, none⟩, ⟨.bin .gtr (.reg 1) (.cst (.int .i64 20000)), (some 6), none⟩])
 (.cond (.loc 6)
  (.seq (.region [⟨.call true false 8 [], none, none⟩, ⟨.mov (.reg 0), (some 1), none⟩])
  .ret)
  .skip))
 (.seq (.region [⟨.mov (.loc 0), none, none⟩, ⟨.call true false 12 [(.reg 0)], none, none⟩, ⟨.mov (.reg 1), none, none⟩, ⟨.extract 0 (.reg 2), none, none⟩, ⟨.extract 1 (.reg 2), none, none⟩, ⟨.allocL 3 [(.int .i64 0), (.int .i64 0)], none, none⟩, ⟨.mov (.reg 3), (some 2), none⟩, ⟨.store 2 (.reg 5) (.reg 4), none, none⟩])
 (.seq (.seq (.region [⟨.loadN 2 (.loc 3), none, none⟩, ⟨.build [(.int .i64 0), (.int .i64 0)] [], none, none⟩, ⟨.eqAgg true [(0, .int), (1, .int)] (.reg 0) (.reg 1), (some 7), none⟩])
 (.cond (.loc 7)
  (.seq (.region [⟨.mov (.loc 2), none, none⟩, ⟨.len .sl (.reg 0), none, none⟩, ⟨.bin .eql (.reg 1) (.cst (.int .i64 0)), none, none⟩, ⟨.mov (.reg 2), none, none⟩, ⟨.fieldAddr 0 (.loc 3), none, (some (3, true))⟩, ⟨.load1 (.reg 4), none, (some (3, true))⟩, ⟨.bin .eql (.reg 5) (.cst (.int .i64 4)), none, (some (3, true))⟩, ⟨.mov (.reg 6), none, (some (3, true))⟩, ⟨.fieldAddr 0 (.loc 3), none, (some (7, false))⟩, ⟨.load1 (.reg 8), none, (some (7, false))⟩, ⟨.bin .eql (.reg 9) (.cst (.int .i64 5)), none, (some (7, false))⟩, ⟨.pick (.reg 7) (.cst (.bool true)) (.reg 10), none, (some (3, true))⟩, ⟨.pick (.reg 3) (.reg 11) (.cst (.bool false)), none, none⟩, ⟨.mov (.reg 12), none, none⟩, ⟨.fieldAddr 1 (.loc 3), none, (some (13, true))⟩, ⟨.load1 (.reg 14), none, (some (13, true))⟩, ⟨.bin .geq (.reg 15) (.cst (.int .i64 0)), none, (some (13, true))⟩, ⟨.pick (.reg 13) (.reg 16) (.cst (.bool false)), none, none⟩, ⟨.mov (.reg 17), none, none⟩, ⟨.fieldAddr 1 (.loc 3), none, (some (18, true))⟩, ⟨.load1 (.reg 19), none, (some (18, true))⟩, ⟨.mov (.loc 0), none, (some (18, true))⟩, ⟨.len .sl (.reg 21), none, (some (18, true))⟩, ⟨.bin .lss (.reg 20) (.reg 22), none, (some (18, true))⟩, ⟨.pick (.reg 18) (.reg 23) (.cst (.bool false)), none, none⟩, ⟨.mov (.reg 24), none, none⟩, ⟨.call true false 8 [], none, (some (25, true))⟩, ⟨.pick (.reg 25) (.reg 26) (.cst (.bool false)), none, none⟩, ⟨.mov (.reg 27), (some 1), none⟩])
  .ret)
  .skip))
 (.seq (.region [⟨.mov (.cst (.int .i64 (-1))), (some 4), none⟩])
 (.seq (.seq (.region [⟨.mov (.cst (.int .i64 0)), (some 5), none⟩])
 (.block 0
  (.loop t4L0)))
 (.seq (.region [⟨.call true false 8 [], none, none⟩, ⟨.mov (.reg 0), (some 1), none⟩])
 .ret)))))))⟩
theorem c4 : compFunc Tryd.prog opts a4 Tryd.f4 = some t4 := by kernel_rfl
def a5 : Ann := { slots := [0, 1, 2, 6, 7, 8, 9, 10, 11, 12, 13, 14, 15, 16, 17, 25, 38, 39, 41, 54, 80, 84, 91, 163], lb := [16, 14, 10, 8], mu := [], trunc := [], draws := [(25, ⟨[0, 0, 3, 7, 15, 0, 32, 127, 255, 511, 511, 2047, 4095, 8191, 511, 16895, 511, 115199, 262143, 524287, 1048575, 2097151, 2097151, 8388607, 16777215, 33554431, 67108863, 2097151, 136314879, 404750335, 1073741823, 2147483647, 4294967295, 8589934591, 8589934591, 34359738367, 68719476735, 137438953471, 274877906943, 8589934591, 558345748479, 1657857376255, 4398046511103, 8796093022207, 17592186044415, 35184372088831, 35184372088831, 140737488355327, 281474976710655, 562949953421311, 1125899906842623, 35184372088831, 2286984185774079, 6790583813144575, 18014398509481983, 36028797018963967], [0, 1, 2, 3, 4, 5, 6, 7, 8, 9, 10, 11, 12, 13, 14, 15, 16, 17, 18, 19, 20, 21, 22, 23, 24, 25, 26, 27, 28, 29, 30, 31, 32, 33, 34, 35, 36, 37, 38, 39, 40, 41, 42, 43, 44, 45, 46, 47, 48, 49, 50, 51, 52, 53, 54, 55], []⟩)] }
def t5L0 : TCode := (.seq (.seq (.region [⟨.mov (.loc 12), none, none⟩, ⟨.mov (.loc 10), none, none⟩, ⟨.len .sl (.reg 1), none, none⟩, ⟨.bin .lss (.reg 0) (.reg 2), (some 21), none⟩])
   (.cond (.loc 21)
    .skip
    (.exit 1)))
   (.seq (.block 2
    (.seq (.region [⟨.build [(.int .i64 0), (.int .i64 0), (.int .i64 0), (.int .i64 0), (.str []), (.sl .nil []), (.int .i64 0)] [], none, none⟩, ⟨.allocL 13 [(.int .i64 0), (.int .i64 0), (.int .i64 0), (.int .i64 0), (.str []), (.sl .nil []), (.int .i64 0)], none, none⟩, ⟨.store 7 (.reg 1) (.reg 0), none, none⟩, ⟨.mov (.cst (.int .i64 0)), (some 14), none⟩])
    (.seq (.seq (.region [⟨.mov (.loc 12), none, none⟩, ⟨.mov (.loc 4), none, none⟩, ⟨.len .sl (.reg 1), none, none⟩, ⟨.bin .lss (.reg 0) (.reg 2), (some 22), none⟩])
    (.cond (.loc 22)
     (.region [⟨.mov (.loc 4), none, none⟩, ⟨.mov (.loc 12), none, none⟩, ⟨.indexAddrS 7 (.reg 0) (.reg 1), none, none⟩, ⟨.loadN 7 (.reg 2), none, none⟩, ⟨.store 7 (.loc 13) (.reg 3), none, none⟩])
     (.seq (.region [⟨.mov (.loc 6), none, none⟩, ⟨.mov (.loc 12), none, none⟩, ⟨.mov (.loc 4), none, none⟩, ⟨.len .sl (.reg 2), none, none⟩, ⟨.bin .sub (.reg 1) (.reg 3), none, none⟩, ⟨.indexAddrS 7 (.reg 0) (.reg 4), none, none⟩, ⟨.loadN 7 (.reg 5), none, none⟩, ⟨.store 7 (.loc 13) (.reg 6), none, none⟩])
     (.region [⟨.mov (.loc 0), none, none⟩, ⟨.len .sl (.reg 0), none, none⟩, ⟨.mov (.loc 8), none, none⟩, ⟨.len .str (.reg 2), none, none⟩, ⟨.bin .add (.reg 1) (.reg 3), none, none⟩, ⟨.mov (.reg 4), (some 14), none⟩]))))
    (.seq (.draw [0, 1, 2, 3, 4, 5, 6, 7, 8, 9, 10, 11, 12, 13, 14, 15, 16, 17, 18, 19, 20, 21, 22, 23, 24, 25, 26, 27, 28, 29, 30, 31, 32, 33, 34, 35, 36, 37, 38, 39, 40, 41, 42, 43, 44, 45, 46, 47, 48, 49, 50, 51, 52, 53, 54, 55] [] [⟨.mov (.loc 10), none, none⟩, ⟨.mov (.loc 12), none, none⟩, ⟨.indexAddrS 7 (.reg 0) (.reg 1), none, none⟩, ⟨.fieldAddr 0 (.reg 2), none, none⟩, ⟨.load1 (.reg 3), none, none⟩, ⟨.fieldAddr 0 (.loc 13), none, none⟩, ⟨.load1 (.reg 5), none, none⟩, ⟨.bin .neq (.reg 4) (.reg 6), none, none⟩, ⟨.mov (.reg 7), none, none⟩, ⟨.mov (.loc 10), none, (some (8, false))⟩, ⟨.mov (.loc 12), none, (some (8, false))⟩, ⟨.indexAddrS 7 (.reg 9) (.reg 10), none, (some (8, false))⟩, ⟨.fieldAddr 1 (.reg 11), none, (some (8, false))⟩, ⟨.load1 (.reg 12), none, (some (8, false))⟩, ⟨.fieldAddr 1 (.loc 13), none, (some (8, false))⟩, ⟨.load1 (.reg 14), none, (some (8, false))⟩, ⟨.mov (.loc 14), none, (some (8, false))⟩, ⟨.bin .add (.reg 15) (.reg 16), none, (some (8, false))⟩, ⟨.bin .neq (.reg 13) (.reg 17), none, (some (8, false))⟩, ⟨.pick (.reg 8) (.cst (.bool true)) (.reg 18), none, none⟩, ⟨.mov (.reg 19), none, none⟩, ⟨.mov (.loc 10), none, (some (20, false))⟩, ⟨.mov (.loc 12), none, (some (20, false))⟩, ⟨.indexAddrS 7 (.reg 21) (.reg 22), none, (some (20, false))⟩, ⟨.fieldAddr 2 (.reg 23), none, (some (20, false))⟩, ⟨.fieldAddr 0 (.reg 24), none, (some (20, false))⟩, ⟨.load1 (.reg 25), none, (some (20, false))⟩, ⟨.fieldAddr 2 (.loc 13), none, (some (20, false))⟩, ⟨.fieldAddr 0 (.reg 27), none, (some (20, false))⟩, ⟨.load1 (.reg 28), none, (some (20, false))⟩, ⟨.bin .neq (.reg 26) (.reg 29), none, (some (20, false))⟩, ⟨.pick (.reg 20) (.cst (.bool true)) (.reg 30), none, none⟩, ⟨.mov (.reg 31), none, none⟩, ⟨.mov (.loc 10), none, (some (32, false))⟩, ⟨.mov (.loc 12), none, (some (32, false))⟩, ⟨.indexAddrS 7 (.reg 33) (.reg 34), none, (some (32, false))⟩, ⟨.fieldAddr 2 (.reg 35), none, (some (32, false))⟩, ⟨.fieldAddr 2 (.reg 36), none, (some (32, false))⟩, ⟨.load1 (.reg 37), none, (some (32, false))⟩, ⟨.fieldAddr 2 (.loc 13), none, (some (32, false))⟩, ⟨.fieldAddr 2 (.reg 39), none, (some (32, false))⟩, ⟨.load1 (.reg 40), none, (some (32, false))⟩, ⟨.bin .neq (.reg 38) (.reg 41), none, (some (32, false))⟩, ⟨.pick (.reg 32) (.cst (.bool true)) (.reg 42), none, none⟩, ⟨.mov (.reg 43), none, none⟩, ⟨.mov (.loc 10), none, (some (44, false))⟩, ⟨.mov (.loc 12), none, (some (44, false))⟩, ⟨.indexAddrS 7 (.reg 45) (.reg 46), none, (some (44, false))⟩, ⟨.fieldAddr 2 (.reg 47), none, (some (44, false))⟩, ⟨.fieldAddr 1 (.reg 48), none, (some (44, false))⟩, ⟨.load1 (.reg 49), none, (some (44, false))⟩, ⟨.fieldAddr 2 (.loc 13), none, (some (44, false))⟩, ⟨.fieldAddr 1 (.reg 51), none, (some (44, false))⟩, ⟨.load1 (.reg 52), none, (some (44, false))⟩, ⟨.bin .neq (.reg 50) (.reg 53), none, (some (44, false))⟩, ⟨.pick (.reg 44) (.cst (.bool true)) (.reg 54), (some 23), none⟩])
    (.cond (.loc 23)
     (.seq (.region [⟨.mov (.cst (.bool false)), (some 3), none⟩])
     .ret)
     .skip)))))
   (.region [⟨.mov (.loc 12), none, none⟩, ⟨.bin .add (.reg 0) (.cst (.int .i64 1)), none, none⟩, ⟨.mov (.reg 1), (some 12), none⟩])))
def t5 : TFunc := ⟨3, 24, [.loc 3],
 (.seq (.region [⟨.mov (.cst (.bool false)), (some 3), none⟩])
 (.seq (.seq (.region [⟨.mov (.loc 0), none, none⟩, ⟨.len .sl (.reg 0), none, none⟩, ⟨.bin .gtr (.reg 1) (.cst (.int .i64 5000)), none, none⟩, ⟨.mov (.reg 2), none, none⟩, ⟨.mov (.loc 1), none, (some (3, false))⟩, ⟨.len .sl (.reg 4), none, (some (3, false))⟩, ⟨.bin .gtr (.reg 5) (.cst (.int .i64 5000)), none, (some (3, false))⟩, ⟨.pick (.reg 3) (.cst (.bool true)) (.reg 6), (some 15), none⟩])
 (.cond (.loc 15)
  (.seq (.region [⟨.call true false 8 [], none, none⟩, ⟨.mov (.reg 0), (some 3), none⟩])
  .ret)
  .skip))
 (.seq (.region [⟨.mov (.loc 0), none, none⟩, ⟨.call true false 12 [(.reg 0)], none, none⟩, ⟨.mov (.reg 1), none, none⟩, ⟨.extract 0 (.reg 2), none, none⟩, ⟨.extract 1 (.reg 2), none, none⟩, ⟨.allocL 5 [(.int .i64 0), (.int .i64 0)], none, none⟩, ⟨.mov (.reg 3), (some 4), none⟩, ⟨.store 2 (.reg 5) (.reg 4), none, none⟩])
 (.seq (.region [⟨.mov (.loc 1), none, none⟩, ⟨.call true false 12 [(.reg 0)], none, none⟩, ⟨.mov (.reg 1), none, none⟩, ⟨.extract 0 (.reg 2), none, none⟩, ⟨.extract 1 (.reg 2), none, none⟩, ⟨.allocL 7 [(.int .i64 0), (.int .i64 0)], none, none⟩, ⟨.mov (.reg 3), (some 6), none⟩, ⟨.store 2 (.reg 5) (.reg 4), none, none⟩])
 (.seq (.region [⟨.mov (.cst (.str [32])), (some 8), none⟩])
 (.seq (.seq (.region [⟨.mov (.loc 2), none, none⟩, ⟨.bin .rem (.reg 0) (.cst (.int .u8 3)), (some 16), none⟩])
 (.block 0
  (.seq (.region [⟨.bin .eql (.loc 16) (.cst (.int .u8 1)), none, none⟩, ⟨.mov (.reg 0), (some 17), none⟩])
  (.cond (.loc 17)
   (.region [⟨.mov (.cst (.str [32, 59, 32, 40, 34, 10])), (some 8), none⟩])
   (.seq (.region [⟨.bin .eql (.loc 16) (.cst (.int .u8 2)), none, none⟩, ⟨.mov (.reg 0), (some 18), none⟩])
   (.cond (.loc 18)
    (.region [⟨.mov (.cst (.str [32, 35, 124, 59, 35, 124, 34, 124, 35, 124, 35, 32])), (some 8), none⟩])
    .skip))))))
 (.seq (.seq (.region [⟨.fieldAddr 0 (.loc 5), none, none⟩, ⟨.load1 (.reg 0), none, none⟩, ⟨.bin .neq (.reg 1) (.cst (.int .i64 0)), none, none⟩, ⟨.mov (.reg 2), none, none⟩, ⟨.fieldAddr 0 (.loc 7), none, (some (3, false))⟩, ⟨.load1 (.reg 4), none, (some (3, false))⟩, ⟨.bin .neq (.reg 5) (.cst (.int .i64 0)), none, (some (3, false))⟩, ⟨.pick (.reg 3) (.cst (.bool true)) (.reg 6), none, none⟩, ⟨.mov (.reg 7), none, none⟩, ⟨.mov (.loc 0), none, (some (8, false))⟩, ⟨.call true false 13 [(.reg 9)], none, (some (8, false))⟩, ⟨.pick (.reg 8) (.cst (.bool true)) (.reg 10), (some 19), none⟩])
 (.cond (.loc 19)
  (.seq (.region [⟨.call true false 8 [], none, none⟩, ⟨.mov (.reg 0), (some 3), none⟩])
  .ret)
  .skip))
 (.seq (.region [⟨.lit false [(.int .u8 0)] 0 [], none, none⟩, ⟨.mov (.loc 0), none, none⟩, ⟨.append false 1 1 5 (.reg 0) (.reg 1), none, none⟩, ⟨.mov (.loc 8), none, none⟩, ⟨.append false 1 1 5 (.reg 2) (.reg 3), none, none⟩, ⟨.mov (.loc 1), none, none⟩, ⟨.append false 1 1 5 (.reg 4) (.reg 5), none, none⟩, ⟨.mov (.reg 6), (some 9), none⟩])
 (.seq (.region [⟨.mov (.loc 9), none, none⟩, ⟨.call true false 12 [(.reg 0)], none, none⟩, ⟨.mov (.reg 1), none, none⟩, ⟨.extract 0 (.reg 2), none, none⟩, ⟨.extract 1 (.reg 2), none, none⟩, ⟨.allocL 11 [(.int .i64 0), (.int .i64 0)], none, none⟩, ⟨.mov (.reg 3), (some 10), none⟩, ⟨.store 2 (.reg 5) (.reg 4), none, none⟩])
 (.seq (.seq (.region [⟨.fieldAddr 0 (.loc 11), none, none⟩, ⟨.load1 (.reg 0), none, none⟩, ⟨.bin .neq (.reg 1) (.cst (.int .i64 0)), none, none⟩, ⟨.mov (.reg 2), none, none⟩, ⟨.mov (.loc 10), none, (some (3, false))⟩, ⟨.len .sl (.reg 4), none, (some (3, false))⟩, ⟨.mov (.loc 4), none, (some (3, false))⟩, ⟨.len .sl (.reg 6), none, (some (3, false))⟩, ⟨.mov (.loc 6), none, (some (3, false))⟩, ⟨.len .sl (.reg 8), none, (some (3, false))⟩, ⟨.bin .add (.reg 7) (.reg 9), none, (some (3, false))⟩, ⟨.bin .neq (.reg 5) (.reg 10), none, (some (3, false))⟩, ⟨.pick (.reg 3) (.cst (.bool true)) (.reg 11), (some 20), none⟩])
 (.cond (.loc 20)
  (.seq (.region [⟨.mov (.cst (.bool false)), (some 3), none⟩])
  .ret)
  .skip))
 (.seq (.seq (.region [⟨.mov (.cst (.int .i64 0)), (some 12), none⟩])
 (.block 1
  (.loop t5L0)))
 (.seq (.region [⟨.call true false 8 [], none, none⟩, ⟨.mov (.reg 0), (some 3), none⟩])
 .ret))))))))))))⟩
theorem c5 : compFunc Tryd.prog opts a5 Tryd.f5 = some t5 := by kernel_rfl
def a7 : Ann := { slots := [0, 2, 3, 4, 13], lb := [4], mu := [], trunc := [], draws := [] }
def t7 : TFunc := ⟨1, 5, [.loc 1],
 (.seq (.region [⟨.mov (.cst (.sl .nil [])), (some 1), none⟩])
 (.seq (.region [⟨.mov (.loc 0), none, none⟩, ⟨.conv .strBytes (.reg 0), none, none⟩, ⟨.call true false 12 [(.reg 1)], none, none⟩, ⟨.mov (.reg 2), none, none⟩, ⟨.extract 0 (.reg 3), none, none⟩, ⟨.extract 1 (.reg 3), none, none⟩, ⟨.allocL 3 [(.int .i64 0), (.int .i64 0)], none, none⟩, ⟨.mov (.reg 4), (some 2), none⟩, ⟨.store 2 (.reg 6) (.reg 5), none, none⟩])
 (.seq (.seq (.region [⟨.loadN 2 (.loc 3), none, none⟩, ⟨.build [(.int .i64 0), (.int .i64 0)] [], none, none⟩, ⟨.eqAgg true [(0, .int), (1, .int)] (.reg 0) (.reg 1), (some 4), none⟩])
 (.cond (.loc 4)
  (.seq (.region [⟨.mov (.cst (.sl .nil [])), (some 1), none⟩])
  .ret)
  .skip))
 (.seq (.region [⟨.mov (.loc 2), none, none⟩, ⟨.mov (.reg 0), (some 1), none⟩])
 .ret))))⟩
theorem c7 : compFunc Tryd.prog opts a7 Tryd.f7 = some t7 := by kernel_rfl
def a8 : Ann := { slots := [0, 1], lb := [], mu := [], trunc := [], draws := [] }
def t8 : TFunc := ⟨0, 2, [.loc 0],
 (.seq (.region [⟨.mov (.cst (.bool false)), (some 0), none⟩])
 (.seq (.region [⟨.call true false 7 [(.cst (.str [40, 97, 32, 46, 32, 35, 116, 41]))], none, none⟩, ⟨.mov (.reg 0), (some 1), none⟩])
 (.seq (.region [⟨.mov (.loc 1), none, none⟩, ⟨.len .sl (.reg 0), none, none⟩, ⟨.bin .eql (.reg 1) (.cst (.int .i64 5)), none, none⟩, ⟨.mov (.reg 2), none, none⟩, ⟨.mov (.loc 1), none, (some (3, true))⟩, ⟨.indexAddrS 7 (.reg 4) (.cst (.int .i64 0)), none, (some (3, true))⟩, ⟨.loadN 7 (.reg 5), none, (some (3, true))⟩, ⟨.call true false 9 [(.reg 6), (.cst (.int .i64 1)), (.cst (.int .i64 0))], none, (some (3, true))⟩, ⟨.pick (.reg 3) (.reg 7) (.cst (.bool false)), none, none⟩, ⟨.mov (.reg 8), none, none⟩, ⟨.mov (.loc 1), none, (some (9, true))⟩, ⟨.indexAddrS 7 (.reg 10) (.cst (.int .i64 1)), none, (some (9, true))⟩, ⟨.loadN 7 (.reg 11), none, (some (9, true))⟩, ⟨.call true false 10 [(.reg 12), (.cst (.int .i64 5)), (.cst (.int .i64 0)), (.cst (.str [97])), (.cst (.int .i64 1))], none, (some (9, true))⟩, ⟨.pick (.reg 9) (.reg 13) (.cst (.bool false)), none, none⟩, ⟨.mov (.reg 14), none, none⟩, ⟨.mov (.loc 1), none, (some (15, true))⟩, ⟨.indexAddrS 7 (.reg 16) (.cst (.int .i64 2)), none, (some (15, true))⟩, ⟨.loadN 7 (.reg 17), none, (some (15, true))⟩, ⟨.call true false 9 [(.reg 18), (.cst (.int .i64 6)), (.cst (.int .i64 3))], none, (some (15, true))⟩, ⟨.pick (.reg 15) (.reg 19) (.cst (.bool false)), none, none⟩, ⟨.mov (.reg 20), none, none⟩, ⟨.mov (.loc 1), none, (some (21, true))⟩, ⟨.indexAddrS 7 (.reg 22) (.cst (.int .i64 3)), none, (some (21, true))⟩, ⟨.loadN 7 (.reg 23), none, (some (21, true))⟩, ⟨.call true false 10 [(.reg 24), (.cst (.int .i64 1)), (.cst (.int .i64 1)), (.cst (.str [])), (.cst (.int .i64 5))], none, (some (21, true))⟩, ⟨.pick (.reg 21) (.reg 25) (.cst (.bool false)), none, none⟩, ⟨.mov (.reg 26), none, none⟩, ⟨.mov (.loc 1), none, (some (27, true))⟩, ⟨.indexAddrS 7 (.reg 28) (.cst (.int .i64 4)), none, (some (27, true))⟩, ⟨.loadN 7 (.reg 29), none, (some (27, true))⟩, ⟨.call true false 9 [(.reg 30), (.cst (.int .i64 2)), (.cst (.int .i64 7))], none, (some (27, true))⟩, ⟨.pick (.reg 27) (.reg 31) (.cst (.bool false)), none, none⟩, ⟨.mov (.reg 32), (some 0), none⟩])
 .ret)))⟩
theorem c8 : compFunc Tryd.prog opts a8 Tryd.f8 = some t8 := by kernel_rfl
def a9 : Ann := { slots := [0, 1, 2, 3, 6], lb := [3], mu := [], trunc := [], draws := [] }
def t9 : TFunc := ⟨3, 5, [.loc 4],
 (.seq (.region [⟨.boxL 3 (.loc 0), none, none⟩, ⟨.mov (.cst (.bool false)), (some 4), none⟩])
 (.seq (.region [⟨.fieldAddr 0 (.loc 3), none, none⟩, ⟨.load1 (.reg 0), none, none⟩, ⟨.mov (.loc 1), none, none⟩, ⟨.bin .eql (.reg 1) (.reg 2), none, none⟩, ⟨.mov (.reg 3), none, none⟩, ⟨.fieldAddr 1 (.loc 3), none, (some (4, true))⟩, ⟨.load1 (.reg 5), none, (some (4, true))⟩, ⟨.mov (.loc 2), none, (some (4, true))⟩, ⟨.bin .eql (.reg 6) (.reg 7), none, (some (4, true))⟩, ⟨.pick (.reg 4) (.reg 8) (.cst (.bool false)), none, none⟩, ⟨.mov (.reg 9), (some 4), none⟩])
 .ret))⟩
theorem c9 : compFunc Tryd.prog opts a9 Tryd.f9 = some t9 := by kernel_rfl
def a10 : Ann := { slots := [0, 1, 2, 3, 4, 5, 10, 11], lb := [11, 5], mu := [], trunc := [], draws := [] }
def t10 : TFunc := ⟨5, 8, [.loc 6],
 (.seq (.region [⟨.boxL 5 (.loc 0), none, none⟩, ⟨.mov (.cst (.bool false)), (some 6), none⟩])
 (.seq (.region [⟨.fieldAddr 2 (.loc 5), none, none⟩, ⟨.loadN 5 (.reg 0), none, none⟩, ⟨.allocL 7 [(.int .i64 0), (.int .i64 0), (.str []), (.sl .nil []), (.int .i64 0)], none, none⟩, ⟨.store 5 (.reg 2) (.reg 1), none, none⟩])
 (.seq (.region [⟨.loadN 7 (.loc 5), none, none⟩, ⟨.mov (.loc 4), none, none⟩, ⟨.call true false 9 [(.reg 0), (.cst (.int .i64 7)), (.reg 1)], none, none⟩, ⟨.mov (.reg 2), none, none⟩, ⟨.fieldAddr 0 (.loc 7), none, (some (3, true))⟩, ⟨.load1 (.reg 4), none, (some (3, true))⟩, ⟨.mov (.loc 1), none, (some (3, true))⟩, ⟨.bin .eql (.reg 5) (.reg 6), none, (some (3, true))⟩, ⟨.pick (.reg 3) (.reg 7) (.cst (.bool false)), none, none⟩, ⟨.mov (.reg 8), none, none⟩, ⟨.fieldAddr 1 (.loc 7), none, (some (9, true))⟩, ⟨.load1 (.reg 10), none, (some (9, true))⟩, ⟨.mov (.loc 2), none, (some (9, true))⟩, ⟨.bin .eql (.reg 11) (.reg 12), none, (some (9, true))⟩, ⟨.pick (.reg 9) (.reg 13) (.cst (.bool false)), none, none⟩, ⟨.mov (.reg 14), none, none⟩, ⟨.fieldAddr 2 (.loc 7), none, (some (15, true))⟩, ⟨.load1 (.reg 16), none, (some (15, true))⟩, ⟨.mov (.loc 3), none, (some (15, true))⟩, ⟨.bin .eql (.reg 17) (.reg 18), none, (some (15, true))⟩, ⟨.pick (.reg 15) (.reg 19) (.cst (.bool false)), none, none⟩, ⟨.mov (.reg 20), none, none⟩, ⟨.fieldAddr 4 (.loc 7), none, (some (21, true))⟩, ⟨.load1 (.reg 22), none, (some (21, true))⟩, ⟨.mov (.loc 4), none, (some (21, true))⟩, ⟨.bin .eql (.reg 23) (.reg 24), none, (some (21, true))⟩, ⟨.pick (.reg 21) (.reg 25) (.cst (.bool false)), none, none⟩, ⟨.mov (.reg 26), none, none⟩, ⟨.fieldAddr 3 (.loc 7), none, (some (27, true))⟩, ⟨.load1 (.reg 28), none, (some (27, true))⟩, ⟨.len .sl (.reg 29), none, (some (27, true))⟩, ⟨.bin .eql (.reg 30) (.cst (.int .i64 0)), none, (some (27, true))⟩, ⟨.pick (.reg 27) (.reg 31) (.cst (.bool false)), none, none⟩, ⟨.mov (.reg 32), (some 6), none⟩])
 .ret)))⟩
theorem c10 : compFunc Tryd.prog opts a10 Tryd.f10 = some t10 := by kernel_rfl
def a12 : Ann := { slots := [0, 2, 3, 4, 5, 6, 9, 16, 24, 28], lb := [6, 5, 3], mu := [], trunc := [], draws := [(7, ⟨[0, 0, 3], [0, 1], [(2, [], [])]⟩)] }
def t12L0 : TCode := (.seq (.seq (.region [⟨.mov (.loc 3), none, none⟩, ⟨.call false false 14 [(.reg 0)], none, none⟩, ⟨.un .not (.reg 1), (some 7), none⟩])
   (.cond (.loc 7)
    .skip
    (.exit 0)))
   (.block 1
    (.seq (.region [⟨.mov (.loc 3), none, none⟩, ⟨.call false false 15 [(.reg 0)], none, none⟩, ⟨.mov (.reg 1), none, none⟩, ⟨.extract 0 (.reg 2), none, none⟩, ⟨.extract 1 (.reg 2), none, none⟩, ⟨.allocL 4 [(.int .i64 0), (.int .i64 0), (.int .i64 0), (.int .i64 0), (.str []), (.sl .nil []), (.int .i64 0)], none, none⟩, ⟨.allocL 5 [(.int .i64 0), (.int .i64 0)], none, none⟩, ⟨.store 7 (.reg 5) (.reg 3), none, none⟩, ⟨.store 2 (.reg 6) (.reg 4), none, none⟩])
    (.seq (.seq (.region [⟨.fieldAddr 0 (.loc 5), none, none⟩, ⟨.load1 (.reg 0), none, none⟩, ⟨.bin .neq (.reg 1) (.cst (.int .i64 0)), (some 8), none⟩])
    (.cond (.loc 8)
     (.seq (.draw [0, 1] [(2, [], [])] [⟨.loadN 2 (.loc 5), none, none⟩, ⟨.mov (.cst (.sl .nil [])), (some 1), none⟩, ⟨.store 2 (.loc 2) (.reg 0), none, none⟩])
     .ret)
     .skip))
    (.seq (.region [⟨.fieldAddr 0 (.loc 4), none, none⟩, ⟨.load1 (.reg 0), none, none⟩, ⟨.bin .neq (.reg 1) (.cst (.int .i64 0)), (some 9), none⟩])
    (.cond (.loc 9)
     (.region [⟨.mov (.loc 1), none, none⟩, ⟨.loadN 7 (.loc 4), none, none⟩, ⟨.lit false [(.int .i64 0), (.int .i64 0), (.int .i64 0), (.int .i64 0), (.str []), (.sl .nil []), (.int .i64 0)] 1 [(0, (.reg 1))], none, none⟩, ⟨.append false 7 80 30 (.reg 0) (.reg 2), none, none⟩, ⟨.mov (.reg 3), (some 1), none⟩])
     .skip))))))
def t12 : TFunc := ⟨1, 10, [.loc 1, .cell 2 2 true],
 (.seq (.region [⟨.mov (.cst (.sl .nil [])), (some 1), none⟩, ⟨.allocL 2 [(.int .i64 0), (.int .i64 0)], none, none⟩])
 (.seq (.seq (.region [⟨.mov (.loc 0), none, none⟩, ⟨.len .sl (.reg 0), none, none⟩, ⟨.bin .gtr (.reg 1) (.cst (.int .i64 16777216)), (some 6), none⟩])
 (.cond (.loc 6)
  (.seq (.region [⟨.build [(.int .i64 0), (.int .i64 0)] [(0, 1, (.cst (.int .i64 3)))], none, none⟩, ⟨.mov (.cst (.sl .nil [])), (some 1), none⟩, ⟨.store 2 (.loc 2) (.reg 0), none, none⟩])
  .ret)
  .skip))
 (.seq (.region [⟨.mov (.loc 0), none, none⟩, ⟨.build [(.sl .nil []), (.int .i64 0)] [(0, 1, (.reg 0))], none, none⟩, ⟨.boxH 44 (.reg 1), none, none⟩, ⟨.mov (.reg 2), (some 3), none⟩])
 (.seq (.block 0
  (.loop t12L0))
 (.seq (.region [⟨.mov (.loc 1), none, none⟩, ⟨.call true false 16 [], none, none⟩, ⟨.mov (.reg 0), (some 1), none⟩, ⟨.store 2 (.loc 2) (.reg 1), none, none⟩])
 .ret)))))⟩
theorem c12 : compFunc Tryd.prog opts a12 Tryd.f12 = some t12 := by kernel_rfl
def a13 : Ann := { slots := [0, 2, 3, 15, 22], lb := [], mu := [], trunc := [], draws := [] }
def t13L0 : TCode := (.seq (.seq (.region [⟨.mov (.loc 2), none, none⟩, ⟨.bin .geq (.reg 0) (.cst (.int .i64 0)), none, none⟩, ⟨.mov (.reg 1), none, none⟩, ⟨.mov (.loc 0), none, (some (2, true))⟩, ⟨.mov (.loc 2), none, (some (2, true))⟩, ⟨.indexAddrS 1 (.reg 3) (.reg 4), none, (some (2, true))⟩, ⟨.load1 (.reg 5), none, (some (2, true))⟩, ⟨.bin .neq (.reg 6) (.cst (.int .u8 10)), none, (some (2, true))⟩, ⟨.pick (.reg 2) (.reg 7) (.cst (.bool false)), (some 3), none⟩])
   (.cond (.loc 3)
    .skip
    (.exit 0)))
   (.seq (.block 1
    (.seq (.region [⟨.mov (.loc 0), none, none⟩, ⟨.mov (.loc 2), none, none⟩, ⟨.indexAddrS 1 (.reg 0) (.reg 1), none, none⟩, ⟨.load1 (.reg 2), none, none⟩, ⟨.bin .eql (.reg 3) (.cst (.int .u8 59)), (some 4), none⟩])
    (.cond (.loc 4)
     (.seq (.region [⟨.mov (.cst (.bool true)), (some 1), none⟩])
     .ret)
     .skip)))
   (.region [⟨.mov (.loc 2), none, none⟩, ⟨.bin .sub (.reg 0) (.cst (.int .i64 1)), none, none⟩, ⟨.mov (.reg 1), (some 2), none⟩])))
def t13 : TFunc := ⟨1, 5, [.loc 1],
 (.seq (.region [⟨.mov (.cst (.bool false)), (some 1), none⟩])
 (.seq (.seq (.region [⟨.mov (.loc 0), none, none⟩, ⟨.len .sl (.reg 0), none, none⟩, ⟨.bin .sub (.reg 1) (.cst (.int .i64 1)), none, none⟩, ⟨.mov (.reg 2), (some 2), none⟩])
 (.block 0
  (.loop t13L0)))
 (.seq (.region [⟨.mov (.cst (.bool false)), (some 1), none⟩])
 .ret)))⟩
theorem c13 : compFunc Tryd.prog opts a13 Tryd.f13 = some t13 := by kernel_rfl
def a14 : Ann := { slots := [0, 2], lb := [], mu := [], trunc := [], draws := [(1, ⟨[0, 1, 3, 7, 0, 16, 48, 112, 240, 511, 1023], [0, 1, 2, 3, 4, 5, 6, 7, 8, 9, 10], []⟩)] }
def t14 : TFunc := ⟨1, 2, [.loc 1],
 (.seq (.region [⟨.mov (.cst (.bool false)), (some 1), none⟩])
 (.seq (.draw [0, 1, 2, 3, 4, 5, 6, 7, 8, 9, 10] [] [⟨.mov (.loc 0), none, none⟩, ⟨.nilCheck (.reg 0), none, none⟩, ⟨.fieldAddr 1 (.reg 1), none, none⟩, ⟨.load1 (.reg 2), none, none⟩, ⟨.mov (.loc 0), none, none⟩, ⟨.nilCheck (.reg 4), none, none⟩, ⟨.fieldAddr 0 (.reg 5), none, none⟩, ⟨.load1 (.reg 6), none, none⟩, ⟨.len .sl (.reg 7), none, none⟩, ⟨.bin .geq (.reg 3) (.reg 8), none, none⟩, ⟨.mov (.reg 9), (some 1), none⟩])
 .ret))⟩
theorem c14 : compFunc Tryd.prog opts a14 Tryd.f14 = some t14 := by kernel_rfl
def a15 : Ann := { slots := [0, 2, 3, 4, 5, 6, 7, 24, 34, 39, 44, 63, 76, 87, 118], lb := [3, 2], mu := [], trunc := [], draws := [(1, ⟨[0, 1, 3, 7, 0, 16, 48, 112, 0, 256, 768, 1792, 4080, 8176, 15, 32767], [0, 1, 2, 3, 4, 5, 6, 7, 8, 9, 10, 11, 12, 13, 14, 15], []⟩), (25, ⟨[0, 1, 3, 7, 15, 31, 63, 127, 255, 511, 1023, 2047, 4095, 8191, 16383, 32767, 4095, 69631, 200703, 462847, 1048575, 2097151, 4194303, 8388607, 16777215], [0, 1, 2, 3, 4, 5, 6, 7], [(8, [], [9, 10, 11, 12, 13, 14, 15, 16, 17, 18, 19, 20, 21]), (22, [], [23, 24])]⟩), (27, ⟨[0, 0, 1, 7], [0, 1], [(2, [1], []), (3, [], [])]⟩)] }
def t15 : TFunc := ⟨1, 15, [.cell 1 7 true, .cell 2 2 true],
 (.seq (.region [⟨.allocL 1 [(.int .i64 0), (.int .i64 0), (.int .i64 0), (.int .i64 0), (.str []), (.sl .nil []), (.int .i64 0)], none, none⟩, ⟨.allocL 2 [(.int .i64 0), (.int .i64 0)], none, none⟩])
 (.seq (.draw [0, 1, 2, 3, 4, 5, 6, 7, 8, 9, 10, 11, 12, 13, 14, 15] [] [⟨.mov (.loc 0), none, none⟩, ⟨.nilCheck (.reg 0), none, none⟩, ⟨.fieldAddr 1 (.reg 1), none, none⟩, ⟨.load1 (.reg 2), none, none⟩, ⟨.mov (.loc 0), none, none⟩, ⟨.nilCheck (.reg 4), none, none⟩, ⟨.fieldAddr 0 (.reg 5), none, none⟩, ⟨.load1 (.reg 6), none, none⟩, ⟨.mov (.loc 0), none, none⟩, ⟨.nilCheck (.reg 8), none, none⟩, ⟨.fieldAddr 1 (.reg 9), none, none⟩, ⟨.load1 (.reg 10), none, none⟩, ⟨.indexAddrS 1 (.reg 7) (.reg 11), none, none⟩, ⟨.load1 (.reg 12), none, none⟩, ⟨.mov (.reg 3), (some 3), none⟩, ⟨.mov (.reg 13), (some 4), none⟩])
 (.seq (.region [⟨.mov (.cst (.bool false)), (some 5), none⟩])
 (.seq (.block 0
  (.seq (.region [⟨.mov (.loc 4), none, none⟩, ⟨.call true false 17 [(.reg 0)], none, none⟩, ⟨.mov (.reg 1), (some 7), none⟩])
  (.cond (.loc 7)
   (.region [⟨.mov (.loc 0), none, none⟩, ⟨.nilCheck (.reg 0), none, none⟩, ⟨.fieldAddr 1 (.reg 1), none, none⟩, ⟨.load1 (.reg 2), none, none⟩, ⟨.bin .add (.reg 3) (.cst (.int .i64 1)), none, none⟩, ⟨.nilCheck (.reg 0), none, none⟩, ⟨.fieldAddr 1 (.reg 5), none, none⟩, ⟨.store 1 (.reg 6) (.reg 4), none, none⟩])
   (.seq (.region [⟨.mov (.loc 4), none, none⟩, ⟨.bin .eql (.reg 0) (.cst (.int .u8 59)), none, none⟩, ⟨.mov (.reg 1), (some 8), none⟩])
   (.cond (.loc 8)
    (.region [⟨.mov (.loc 0), none, none⟩, ⟨.call false false 18 [(.reg 0)], none, none⟩, ⟨.store 2 (.loc 2) (.reg 1), none, none⟩])
    (.seq (.region [⟨.mov (.loc 0), none, none⟩, ⟨.call false false 19 [(.reg 0), (.cst (.str [35, 124]))], none, none⟩, ⟨.mov (.reg 1), (some 9), none⟩])
    (.cond (.loc 9)
     (.region [⟨.mov (.loc 0), none, none⟩, ⟨.call false false 20 [(.reg 0)], none, none⟩, ⟨.store 2 (.loc 2) (.reg 1), none, none⟩])
     (.seq (.seq (.region [⟨.mov (.loc 4), none, none⟩, ⟨.bin .eql (.reg 0) (.cst (.int .u8 40)), none, none⟩, ⟨.mov (.reg 1), (some 10), none⟩])
     (.cond (.loc 10)
      .skip
      (.seq (.region [⟨.mov (.loc 4), none, none⟩, ⟨.bin .eql (.reg 0) (.cst (.int .u8 41)), none, none⟩, ⟨.mov (.reg 1), (some 10), none⟩])
      (.cond (.loc 10)
       .skip
       (.region [⟨.mov (.loc 4), none, none⟩, ⟨.bin .eql (.reg 0) (.cst (.int .u8 39)), none, none⟩, ⟨.mov (.reg 1), (some 10), none⟩])))))
     (.cond (.loc 10)
      (.seq (.region [⟨.mov (.loc 0), none, none⟩, ⟨.nilCheck (.reg 0), none, none⟩, ⟨.fieldAddr 1 (.reg 1), none, none⟩, ⟨.load1 (.reg 2), none, none⟩, ⟨.bin .add (.reg 3) (.cst (.int .i64 1)), none, none⟩, ⟨.nilCheck (.reg 0), none, none⟩, ⟨.fieldAddr 1 (.reg 5), none, none⟩, ⟨.store 1 (.reg 6) (.reg 4), none, none⟩])
      (.region [⟨.mov (.loc 4), none, none⟩, ⟨.call true false 21 [(.cst (.str [40, 41, 39])), (.reg 0)], none, none⟩, ⟨.bin .add (.cst (.int .i64 1)) (.reg 1), none, none⟩, ⟨.mov (.loc 3), none, none⟩, ⟨.build [(.int .i64 0), (.int .i64 0), (.int .i64 0), (.int .i64 0), (.str []), (.sl .nil []), (.int .i64 0)] [(0, 1, (.reg 2)), (1, 1, (.reg 3))], none, none⟩, ⟨.store 7 (.loc 1) (.reg 4), none, none⟩]))
      (.seq (.region [⟨.mov (.loc 4), none, none⟩, ⟨.bin .eql (.reg 0) (.cst (.int .u8 34)), none, none⟩, ⟨.mov (.reg 1), (some 11), none⟩])
      (.cond (.loc 11)
       (.seq (.region [⟨.mov (.cst (.str [])), (some 6), none⟩])
       (.seq (.region [⟨.mov (.loc 0), none, none⟩, ⟨.call false false 22 [(.reg 0)], none, none⟩, ⟨.mov (.reg 1), none, none⟩, ⟨.extract 0 (.reg 2), none, none⟩, ⟨.extract 1 (.reg 2), none, none⟩, ⟨.mov (.reg 3), (some 6), none⟩, ⟨.store 2 (.loc 2) (.reg 4), none, none⟩])
       (.region [⟨.mov (.loc 3), none, none⟩, ⟨.mov (.loc 6), none, none⟩, ⟨.mov (.loc 3), none, none⟩, ⟨.build [(.int .i64 0), (.int .i64 0), (.str []), (.sl .nil []), (.int .i64 0)] [(0, 1, (.cst (.int .i64 4))), (2, 1, (.reg 1)), (4, 1, (.reg 2))], none, none⟩, ⟨.build [(.int .i64 0), (.int .i64 0), (.int .i64 0), (.int .i64 0), (.str []), (.sl .nil []), (.int .i64 0)] [(0, 1, (.cst (.int .i64 7))), (1, 1, (.reg 0)), (2, 5, (.reg 3))], none, none⟩, ⟨.store 7 (.loc 1) (.reg 4), none, none⟩])))
       (.seq (.region [⟨.mov (.loc 4), none, none⟩, ⟨.bin .eql (.reg 0) (.cst (.int .u8 35)), none, none⟩, ⟨.mov (.reg 1), (some 12), none⟩])
       (.cond (.loc 12)
        (.seq (.region [⟨.mov (.loc 0), none, none⟩, ⟨.call false false 23 [(.reg 0)], none, none⟩, ⟨.mov (.reg 1), none, none⟩, ⟨.extract 0 (.reg 2), none, none⟩, ⟨.extract 1 (.reg 2), none, none⟩, ⟨.store 7 (.loc 1) (.reg 3), none, none⟩, ⟨.store 2 (.loc 2) (.reg 4), none, none⟩])
        (.region [⟨.fieldAddr 0 (.loc 1), none, none⟩, ⟨.load1 (.reg 0), none, none⟩, ⟨.bin .eql (.reg 1) (.cst (.int .i64 7)), none, none⟩, ⟨.mov (.reg 2), (some 5), none⟩]))
        (.seq (.region [⟨.mov (.loc 4), none, none⟩, ⟨.call true false 24 [(.reg 0)], none, none⟩, ⟨.mov (.reg 1), (some 13), none⟩])
        (.cond (.loc 13)
         (.seq (.region [⟨.mov (.loc 0), none, none⟩, ⟨.call false false 26 [(.reg 0)], none, none⟩, ⟨.mov (.loc 3), none, none⟩, ⟨.call true false 25 [(.reg 1), (.reg 2)], none, none⟩, ⟨.store 7 (.loc 1) (.reg 3), none, none⟩])
         (.region [⟨.mov (.cst (.bool true)), (some 5), none⟩]))
         (.region [⟨.mov (.loc 3), none, none⟩, ⟨.call true false 27 [(.reg 0)], none, none⟩, ⟨.store 2 (.loc 2) (.reg 1), none, none⟩]))))))))))))))))
 (.seq (.seq (.draw [0, 1, 2, 3, 4, 5, 6, 7] [(8, [], [9, 10, 11, 12, 13, 14, 15, 16, 17, 18, 19, 20, 21]), (22, [], [23, 24])] [⟨.fieldAddr 0 (.loc 2), none, none⟩, ⟨.load1 (.reg 0), none, none⟩, ⟨.bin .eql (.reg 1) (.cst (.int .i64 0)), none, none⟩, ⟨.mov (.reg 2), none, none⟩, ⟨.mov (.loc 5), none, (some (3, true))⟩, ⟨.pick (.reg 3) (.reg 4) (.cst (.bool false)), none, none⟩, ⟨.mov (.reg 5), none, none⟩, ⟨.mov (.loc 0), none, (some (6, true))⟩, ⟨.call false false 14 [(.reg 7)], none, (some (6, true))⟩, ⟨.un .not (.reg 8), none, (some (6, true))⟩, ⟨.pick (.reg 6) (.reg 9) (.cst (.bool false)), none, none⟩, ⟨.mov (.reg 10), none, none⟩, ⟨.mov (.loc 0), none, (some (11, true))⟩, ⟨.nilCheck (.reg 12), none, (some (11, true))⟩, ⟨.fieldAddr 0 (.reg 13), none, (some (11, true))⟩, ⟨.load1 (.reg 14), none, (some (11, true))⟩, ⟨.mov (.loc 0), none, (some (11, true))⟩, ⟨.nilCheck (.reg 16), none, (some (11, true))⟩, ⟨.fieldAddr 1 (.reg 17), none, (some (11, true))⟩, ⟨.load1 (.reg 18), none, (some (11, true))⟩, ⟨.indexAddrS 1 (.reg 15) (.reg 19), none, (some (11, true))⟩, ⟨.load1 (.reg 20), none, (some (11, true))⟩, ⟨.call true false 28 [(.reg 21)], none, (some (11, true))⟩, ⟨.un .not (.reg 22), none, (some (11, true))⟩, ⟨.pick (.reg 11) (.reg 23) (.cst (.bool false)), (some 14), none⟩])
 (.cond (.loc 14)
  (.region [⟨.mov (.loc 0), none, none⟩, ⟨.nilCheck (.reg 0), none, none⟩, ⟨.fieldAddr 1 (.reg 1), none, none⟩, ⟨.load1 (.reg 2), none, none⟩, ⟨.call true false 27 [(.reg 3)], none, none⟩, ⟨.store 2 (.loc 2) (.reg 4), none, none⟩])
  .skip))
 (.seq (.draw [0, 1] [(2, [1], []), (3, [], [])] [⟨.loadN 7 (.loc 1), none, none⟩, ⟨.loadN 2 (.loc 2), none, none⟩, ⟨.store 7 (.loc 1) (.reg 0), none, none⟩, ⟨.store 2 (.loc 2) (.reg 1), none, none⟩])
 .ret))))))⟩
theorem c15 : compFunc Tryd.prog opts a15 Tryd.f15 = some t15 := by kernel_rfl
def a16 : Ann := { slots := [0], lb := [0], mu := [], trunc := [], draws := [] }
def t16 : TFunc := ⟨0, 1, [.cell 0 2 true],
 (.seq (.region [⟨.allocL 0 [(.int .i64 0), (.int .i64 0)], none, none⟩])
 (.seq (.region [⟨.build [(.int .i64 0), (.int .i64 0)] [], none, none⟩, ⟨.store 2 (.loc 0) (.reg 0), none, none⟩])
 .ret))⟩
theorem c16 : compFunc Tryd.prog opts a16 Tryd.f16 = some t16 := by kernel_rfl
def a17 : Ann := { slots := [0, 2], lb := [], mu := [], trunc := [], draws := [] }
def t17 : TFunc := ⟨1, 2, [.loc 1],
 (.seq (.region [⟨.mov (.cst (.bool false)), (some 1), none⟩])
 (.seq (.region [⟨.mov (.loc 0), none, none⟩, ⟨.bin .eql (.reg 0) (.cst (.int .u8 32)), none, none⟩, ⟨.mov (.reg 1), none, none⟩, ⟨.mov (.loc 0), none, (some (2, false))⟩, ⟨.bin .geq (.reg 3) (.cst (.int .u8 9)), none, (some (2, false))⟩, ⟨.mov (.reg 4), none, (some (2, false))⟩, ⟨.mov (.loc 0), none, (some (5, true))⟩, ⟨.bin .leq (.reg 6) (.cst (.int .u8 13)), none, (some (5, true))⟩, ⟨.pick (.reg 5) (.reg 7) (.cst (.bool false)), none, (some (2, false))⟩, ⟨.mov (.reg 8), none, (some (2, false))⟩, ⟨.mov (.loc 0), none, (some (9, true))⟩, ⟨.bin .neq (.reg 10) (.cst (.int .u8 11)), none, (some (9, true))⟩, ⟨.pick (.reg 9) (.reg 11) (.cst (.bool false)), none, (some (2, false))⟩, ⟨.pick (.reg 2) (.cst (.bool true)) (.reg 12), none, none⟩, ⟨.mov (.reg 13), (some 1), none⟩])
 .ret))⟩
theorem c17 : compFunc Tryd.prog opts a17 Tryd.f17 = some t17 := by kernel_rfl
def a18 : Ann := { slots := [0, 2, 4, 20, 28], lb := [4, 2], mu := [], trunc := [], draws := [(1, ⟨[0, 1, 3, 7, 15, 31, 63, 127, 15, 271, 783, 1807, 4095, 8191, 16383, 32767], [0], [(1, [], [2, 3, 4, 5, 6, 7, 8, 9, 10, 11, 12, 13, 14, 15])]⟩)] }
def t18L0 : TCode := (.seq (.seq (.draw [0] [(1, [], [2, 3, 4, 5, 6, 7, 8, 9, 10, 11, 12, 13, 14, 15])] [⟨.mov (.loc 0), none, none⟩, ⟨.call false false 14 [(.reg 0)], none, none⟩, ⟨.un .not (.reg 1), none, none⟩, ⟨.mov (.reg 2), none, none⟩, ⟨.mov (.loc 0), none, (some (3, true))⟩, ⟨.nilCheck (.reg 4), none, (some (3, true))⟩, ⟨.fieldAddr 0 (.reg 5), none, (some (3, true))⟩, ⟨.load1 (.reg 6), none, (some (3, true))⟩, ⟨.mov (.loc 0), none, (some (3, true))⟩, ⟨.nilCheck (.reg 8), none, (some (3, true))⟩, ⟨.fieldAddr 1 (.reg 9), none, (some (3, true))⟩, ⟨.load1 (.reg 10), none, (some (3, true))⟩, ⟨.indexAddrS 1 (.reg 7) (.reg 11), none, (some (3, true))⟩, ⟨.load1 (.reg 12), none, (some (3, true))⟩, ⟨.bin .neq (.reg 13) (.cst (.int .u8 10)), none, (some (3, true))⟩, ⟨.pick (.reg 3) (.reg 14) (.cst (.bool false)), (some 3), none⟩])
   (.cond (.loc 3)
    .skip
    (.exit 0)))
   (.block 1
    (.seq (.region [⟨.mov (.loc 0), none, none⟩, ⟨.call false false 29 [(.reg 0)], none, none⟩, ⟨.mov (.reg 1), none, none⟩, ⟨.extract 0 (.reg 2), none, none⟩, ⟨.extract 1 (.reg 2), none, none⟩, ⟨.allocL 2 [(.int .i64 0), (.int .i64 0)], none, none⟩, ⟨.mov (.reg 3), none, none⟩, ⟨.store 2 (.reg 5) (.reg 4), none, none⟩])
    (.seq (.region [⟨.fieldAddr 0 (.loc 2), none, none⟩, ⟨.load1 (.reg 0), none, none⟩, ⟨.bin .neq (.reg 1) (.cst (.int .i64 0)), (some 4), none⟩])
    (.cond (.loc 4)
     (.seq (.region [⟨.loadN 2 (.loc 2), none, none⟩, ⟨.store 2 (.loc 1) (.reg 0), none, none⟩])
     .ret)
     .skip)))))
def t18 : TFunc := ⟨1, 5, [.cell 1 2 true],
 (.seq (.region [⟨.allocL 1 [(.int .i64 0), (.int .i64 0)], none, none⟩])
 (.seq (.block 0
  (.loop t18L0))
 (.seq (.region [⟨.call true false 16 [], none, none⟩, ⟨.store 2 (.loc 1) (.reg 0), none, none⟩])
 .ret)))⟩
theorem c18 : compFunc Tryd.prog opts a18 Tryd.f18 = some t18 := by kernel_rfl
def a19 : Ann := { slots := [0, 1, 4], lb := [], mu := [], trunc := [], draws := [(1, ⟨[0, 1, 3, 7, 0, 16, 63, 0, 128, 384, 896, 1920, 4095, 8191, 16383, 32767, 65535, 131071, 16383, 278527, 802815, 1851391, 16383, 4210687, 12599295, 29376511, 16383, 67125247, 264257535, 536870911, 1073741823, 16383, 4294967295, 8589934591, 17179869183], [0, 1, 2, 3, 4, 5, 6, 7, 8, 9, 10, 11, 12, 13, 14, 15, 16, 17, 18, 19, 20, 21, 22, 23, 24, 25, 26, 27, 28, 29, 30, 31, 32, 33, 34], []⟩)] }
def t19 : TFunc := ⟨2, 3, [.loc 2],
 (.seq (.region [⟨.mov (.cst (.bool false)), (some 2), none⟩])
 (.seq (.draw [0, 1, 2, 3, 4, 5, 6, 7, 8, 9, 10, 11, 12, 13, 14, 15, 16, 17, 18, 19, 20, 21, 22, 23, 24, 25, 26, 27, 28, 29, 30, 31, 32, 33, 34] [] [⟨.mov (.loc 0), none, none⟩, ⟨.nilCheck (.reg 0), none, none⟩, ⟨.fieldAddr 1 (.reg 1), none, none⟩, ⟨.load1 (.reg 2), none, none⟩, ⟨.mov (.loc 1), none, none⟩, ⟨.len .str (.reg 4), none, none⟩, ⟨.bin .add (.reg 3) (.reg 5), none, none⟩, ⟨.mov (.loc 0), none, none⟩, ⟨.nilCheck (.reg 7), none, none⟩, ⟨.fieldAddr 0 (.reg 8), none, none⟩, ⟨.load1 (.reg 9), none, none⟩, ⟨.len .sl (.reg 10), none, none⟩, ⟨.bin .leq (.reg 6) (.reg 11), none, none⟩, ⟨.mov (.reg 12), none, none⟩, ⟨.mov (.loc 0), none, (some (13, true))⟩, ⟨.nilCheck (.reg 14), none, (some (13, true))⟩, ⟨.fieldAddr 0 (.reg 15), none, (some (13, true))⟩, ⟨.load1 (.reg 16), none, (some (13, true))⟩, ⟨.mov (.loc 0), none, (some (13, true))⟩, ⟨.nilCheck (.reg 18), none, (some (13, true))⟩, ⟨.fieldAddr 1 (.reg 19), none, (some (13, true))⟩, ⟨.load1 (.reg 20), none, (some (13, true))⟩, ⟨.mov (.loc 0), none, (some (13, true))⟩, ⟨.nilCheck (.reg 22), none, (some (13, true))⟩, ⟨.fieldAddr 1 (.reg 23), none, (some (13, true))⟩, ⟨.load1 (.reg 24), none, (some (13, true))⟩, ⟨.mov (.loc 1), none, (some (13, true))⟩, ⟨.len .str (.reg 26), none, (some (13, true))⟩, ⟨.bin .add (.reg 25) (.reg 27), none, (some (13, true))⟩, ⟨.slice (.sl 1) (.reg 17) (some (.reg 21)) (some (.reg 28)) none, none, (some (13, true))⟩, ⟨.conv .bytesStr (.reg 29), none, (some (13, true))⟩, ⟨.mov (.loc 1), none, (some (13, true))⟩, ⟨.bin .eql (.reg 30) (.reg 31), none, (some (13, true))⟩, ⟨.pick (.reg 13) (.reg 32) (.cst (.bool false)), none, none⟩, ⟨.mov (.reg 33), (some 2), none⟩])
 .ret))⟩
theorem c19 : compFunc Tryd.prog opts a19 Tryd.f19 = some t19 := by kernel_rfl
def a20 : Ann := { slots := [0, 2, 3, 4, 6, 13, 21, 23, 27, 42, 55], lb := [6, 2], mu := [], trunc := [], draws := [] }
def t20L0 : TCode := (.seq (.seq (.region [⟨.mov (.loc 0), none, none⟩, ⟨.call false false 14 [(.reg 0)], none, none⟩, ⟨.un .not (.reg 1), (some 5), none⟩])
   (.cond (.loc 5)
    .skip
    (.exit 0)))
   (.block 1
    (.block 2
     (.seq (.region [⟨.mov (.loc 0), none, none⟩, ⟨.call false false 19 [(.reg 0), (.cst (.str [35, 124]))], none, none⟩, ⟨.mov (.reg 1), (some 7), none⟩])
     (.cond (.loc 7)
      (.seq (.seq (.region [⟨.mov (.loc 3), none, none⟩, ⟨.bin .eql (.reg 0) (.cst (.int .i64 200)), (some 8), none⟩])
      (.cond (.loc 8)
       (.seq (.region [⟨.mov (.loc 0), none, none⟩, ⟨.nilCheck (.reg 0), none, none⟩, ⟨.fieldAddr 1 (.reg 1), none, none⟩, ⟨.load1 (.reg 2), none, none⟩, ⟨.build [(.int .i64 0), (.int .i64 0)] [(0, 1, (.cst (.int .i64 5))), (1, 1, (.reg 3))], none, none⟩, ⟨.store 2 (.loc 1) (.reg 4), none, none⟩])
       .ret)
       .skip))
      (.seq (.region [⟨.mov (.loc 3), none, none⟩, ⟨.bin .add (.reg 0) (.cst (.int .i64 1)), none, none⟩, ⟨.mov (.reg 1), (some 3), none⟩])
      (.region [⟨.mov (.loc 0), none, none⟩, ⟨.nilCheck (.reg 0), none, none⟩, ⟨.fieldAddr 1 (.reg 1), none, none⟩, ⟨.load1 (.reg 2), none, none⟩, ⟨.bin .add (.reg 3) (.cst (.int .i64 2)), none, none⟩, ⟨.nilCheck (.reg 0), none, none⟩, ⟨.fieldAddr 1 (.reg 5), none, none⟩, ⟨.store 1 (.reg 6) (.reg 4), none, none⟩])))
      (.seq (.region [⟨.mov (.loc 0), none, none⟩, ⟨.call false false 19 [(.reg 0), (.cst (.str [124, 35]))], none, none⟩, ⟨.mov (.reg 1), (some 9), none⟩])
      (.cond (.loc 9)
       (.seq (.region [⟨.mov (.loc 3), none, none⟩, ⟨.bin .sub (.reg 0) (.cst (.int .i64 1)), none, none⟩, ⟨.mov (.reg 1), (some 3), none⟩])
       (.seq (.region [⟨.mov (.loc 0), none, none⟩, ⟨.nilCheck (.reg 0), none, none⟩, ⟨.fieldAddr 1 (.reg 1), none, none⟩, ⟨.load1 (.reg 2), none, none⟩, ⟨.bin .add (.reg 3) (.cst (.int .i64 2)), none, none⟩, ⟨.nilCheck (.reg 0), none, none⟩, ⟨.fieldAddr 1 (.reg 5), none, none⟩, ⟨.store 1 (.reg 6) (.reg 4), none, none⟩])
       (.seq (.region [⟨.mov (.loc 3), none, none⟩, ⟨.bin .eql (.reg 0) (.cst (.int .i64 0)), (some 10), none⟩])
       (.cond (.loc 10)
        (.seq (.region [⟨.call true false 16 [], none, none⟩, ⟨.store 2 (.loc 1) (.reg 0), none, none⟩])
        .ret)
        .skip))))
       (.seq (.region [⟨.mov (.loc 0), none, none⟩, ⟨.call false false 29 [(.reg 0)], none, none⟩, ⟨.mov (.reg 1), none, none⟩, ⟨.extract 0 (.reg 2), none, none⟩, ⟨.extract 1 (.reg 2), none, none⟩, ⟨.allocL 4 [(.int .i64 0), (.int .i64 0)], none, none⟩, ⟨.mov (.reg 3), none, none⟩, ⟨.store 2 (.reg 5) (.reg 4), none, none⟩])
       (.seq (.region [⟨.fieldAddr 0 (.loc 4), none, none⟩, ⟨.load1 (.reg 0), none, none⟩, ⟨.bin .neq (.reg 1) (.cst (.int .i64 0)), (some 6), none⟩])
       (.cond (.loc 6)
        (.seq (.region [⟨.loadN 2 (.loc 4), none, none⟩, ⟨.store 2 (.loc 1) (.reg 0), none, none⟩])
        .ret)
        .skip))))))))))
def t20 : TFunc := ⟨1, 11, [.cell 1 2 true],
 (.seq (.region [⟨.allocL 1 [(.int .i64 0), (.int .i64 0)], none, none⟩])
 (.seq (.region [⟨.mov (.loc 0), none, none⟩, ⟨.nilCheck (.reg 0), none, none⟩, ⟨.fieldAddr 1 (.reg 1), none, none⟩, ⟨.load1 (.reg 2), none, none⟩, ⟨.mov (.reg 3), (some 2), none⟩, ⟨.mov (.cst (.int .i64 0)), (some 3), none⟩])
 (.seq (.block 0
  (.loop t20L0))
 (.seq (.region [⟨.mov (.loc 2), none, none⟩, ⟨.call true false 27 [(.reg 0)], none, none⟩, ⟨.store 2 (.loc 1) (.reg 1), none, none⟩])
 .ret))))⟩
theorem c20 : compFunc Tryd.prog opts a20 Tryd.f20 = some t20 := by kernel_rfl
def a21 : Ann := { slots := [0, 1, 4], lb := [], mu := [], trunc := [], draws := [] }
def t21 : TFunc := ⟨2, 3, [.loc 2],
 (.seq (.region [⟨.mov (.cst (.int .i64 0)), (some 2), none⟩])
 (.seq (.region [⟨.mov (.loc 0), none, none⟩, ⟨.mov (.loc 1), none, none⟩, ⟨.call true false 30 [(.reg 0), (.reg 1)], none, none⟩, ⟨.mov (.reg 2), (some 2), none⟩])
 .ret))⟩
theorem c21 : compFunc Tryd.prog opts a21 Tryd.f21 = some t21 := by kernel_rfl
def a22 : Ann := { slots := [0, 2, 3, 4, 5, 6, 7, 21, 29, 31, 36, 45, 55], lb := [7, 3], mu := [], trunc := [], draws := [(7, ⟨[0, 0, 3], [0, 1], [(2, [], [])]⟩), (15, ⟨[0, 0, 3], [0, 1], [(2, [], [])]⟩)] }
def t22L0 : TCode := (.seq (.seq (.region [⟨.mov (.loc 0), none, none⟩, ⟨.call false false 14 [(.reg 0)], none, none⟩, ⟨.un .not (.reg 1), (some 7), none⟩])
   (.cond (.loc 7)
    .skip
    (.exit 0)))
   (.block 1
    (.seq (.region [⟨.mov (.loc 0), none, none⟩, ⟨.call false false 29 [(.reg 0)], none, none⟩, ⟨.mov (.reg 1), none, none⟩, ⟨.extract 0 (.reg 2), none, none⟩, ⟨.extract 1 (.reg 2), none, none⟩, ⟨.allocL 6 [(.int .i64 0), (.int .i64 0)], none, none⟩, ⟨.mov (.reg 3), (some 5), none⟩, ⟨.store 2 (.reg 5) (.reg 4), none, none⟩])
    (.seq (.seq (.region [⟨.fieldAddr 0 (.loc 6), none, none⟩, ⟨.load1 (.reg 0), none, none⟩, ⟨.bin .neq (.reg 1) (.cst (.int .i64 0)), (some 8), none⟩])
    (.cond (.loc 8)
     (.seq (.draw [0, 1] [(2, [], [])] [⟨.loadN 2 (.loc 6), none, none⟩, ⟨.mov (.cst (.str [])), (some 1), none⟩, ⟨.store 2 (.loc 2) (.reg 0), none, none⟩])
     .ret)
     .skip))
    (.seq (.block 2
     (.seq (.region [⟨.mov (.loc 5), none, none⟩, ⟨.bin .eql (.reg 0) (.cst (.int .i32 34)), none, none⟩, ⟨.mov (.reg 1), (some 9), none⟩])
     (.cond (.loc 9)
      (.seq (.region [⟨.prim 31 [(.loc 4)], none, none⟩, ⟨.call true false 16 [], none, none⟩, ⟨.mov (.reg 0), (some 1), none⟩, ⟨.store 2 (.loc 2) (.reg 1), none, none⟩])
      .ret)
      (.seq (.region [⟨.mov (.loc 5), none, none⟩, ⟨.bin .eql (.reg 0) (.cst (.int .i32 92)), none, none⟩, ⟨.mov (.reg 1), none, none⟩, ⟨.mov (.loc 0), none, (some (2, true))⟩, ⟨.call false false 14 [(.reg 3)], none, (some (2, true))⟩, ⟨.pick (.reg 2) (.reg 4) (.cst (.bool false)), none, none⟩, ⟨.mov (.reg 5), (some 10), none⟩])
      (.cond (.loc 10)
       (.seq (.region [⟨.mov (.loc 3), none, none⟩, ⟨.call true false 27 [(.reg 0)], none, none⟩, ⟨.mov (.cst (.str [])), (some 1), none⟩, ⟨.store 2 (.loc 2) (.reg 1), none, none⟩])
       .ret)
       (.seq (.region [⟨.mov (.loc 5), none, none⟩, ⟨.bin .eql (.reg 0) (.cst (.int .i32 92)), none, none⟩, ⟨.mov (.reg 1), (some 11), none⟩])
       (.cond (.loc 11)
        (.seq (.region [⟨.mov (.loc 0), none, none⟩, ⟨.call false false 32 [(.reg 0)], none, none⟩, ⟨.mov (.reg 1), none, none⟩, ⟨.extract 0 (.reg 2), none, none⟩, ⟨.extract 1 (.reg 2), none, none⟩, ⟨.mov (.reg 3), (some 5), none⟩, ⟨.store 2 (.loc 6) (.reg 4), none, none⟩])
        (.seq (.region [⟨.fieldAddr 0 (.loc 6), none, none⟩, ⟨.load1 (.reg 0), none, none⟩, ⟨.bin .neq (.reg 1) (.cst (.int .i64 0)), (some 12), none⟩])
        (.cond (.loc 12)
         (.seq (.draw [0, 1] [(2, [], [])] [⟨.loadN 2 (.loc 6), none, none⟩, ⟨.mov (.cst (.str [])), (some 1), none⟩, ⟨.store 2 (.loc 2) (.reg 0), none, none⟩])
         .ret)
         .skip)))
        .skip)))))))
    (.region [⟨.mov (.loc 5), none, none⟩, ⟨.call false false 33 [(.loc 4), (.reg 0)], none, none⟩]))))))
def t22 : TFunc := ⟨1, 13, [.loc 1, .cell 2 2 true],
 (.seq (.region [⟨.mov (.cst (.str [])), (some 1), none⟩, ⟨.allocL 2 [(.int .i64 0), (.int .i64 0)], none, none⟩])
 (.seq (.region [⟨.mov (.loc 0), none, none⟩, ⟨.nilCheck (.reg 0), none, none⟩, ⟨.fieldAddr 1 (.reg 1), none, none⟩, ⟨.load1 (.reg 2), none, none⟩, ⟨.mov (.reg 3), (some 3), none⟩])
 (.seq (.region [⟨.mov (.loc 0), none, none⟩, ⟨.nilCheck (.reg 0), none, none⟩, ⟨.fieldAddr 1 (.reg 1), none, none⟩, ⟨.load1 (.reg 2), none, none⟩, ⟨.bin .add (.reg 3) (.cst (.int .i64 1)), none, none⟩, ⟨.nilCheck (.reg 0), none, none⟩, ⟨.fieldAddr 1 (.reg 5), none, none⟩, ⟨.store 1 (.reg 6) (.reg 4), none, none⟩])
 (.seq (.region [⟨.allocH 60 [.nilp, (.sl .nil [])], (some 4), none⟩])
 (.seq (.block 0
  (.loop t22L0))
 (.seq (.region [⟨.mov (.loc 3), none, none⟩, ⟨.call true false 27 [(.reg 0)], none, none⟩, ⟨.mov (.cst (.str [])), (some 1), none⟩, ⟨.store 2 (.loc 2) (.reg 1), none, none⟩])
 .ret))))))⟩
theorem c22 : compFunc Tryd.prog opts a22 Tryd.f22 = some t22 := by kernel_rfl
def a23 : Ann := { slots := [0, 2, 3, 4, 5, 14, 27, 50, 57, 74], lb := [3, 2], mu := [], trunc := [], draws := [(9, ⟨[0, 0, 1, 7], [0, 1], [(2, [1], []), (3, [], [])]⟩), (19, ⟨[0, 0, 2, 7, 15], [0, 1], [(2, [0], []), (3, [], []), (4, [], [])]⟩), (20, ⟨[0, 0, 3, 7], [0], [(1, [0], []), (2, [], []), (3, [], [])]⟩)] }
def t23 : TFunc := ⟨1, 10, [.cell 1 7 true, .cell 2 2 true],
 (.seq (.region [⟨.allocL 1 [(.int .i64 0), (.int .i64 0), (.int .i64 0), (.int .i64 0), (.str []), (.sl .nil []), (.int .i64 0)], none, none⟩, ⟨.allocL 2 [(.int .i64 0), (.int .i64 0)], none, none⟩])
 (.seq (.region [⟨.mov (.loc 0), none, none⟩, ⟨.nilCheck (.reg 0), none, none⟩, ⟨.fieldAddr 1 (.reg 1), none, none⟩, ⟨.load1 (.reg 2), none, none⟩, ⟨.mov (.reg 3), (some 3), none⟩])
 (.seq (.region [⟨.mov (.loc 3), none, none⟩, ⟨.mov (.loc 3), none, none⟩, ⟨.build [(.int .i64 0), (.int .i64 0), (.str []), (.sl .nil []), (.int .i64 0)] [(0, 1, (.cst (.int .i64 1))), (4, 1, (.reg 1))], none, none⟩, ⟨.build [(.int .i64 0), (.int .i64 0), (.int .i64 0), (.int .i64 0), (.str []), (.sl .nil []), (.int .i64 0)] [(0, 1, (.cst (.int .i64 7))), (1, 1, (.reg 0)), (2, 5, (.reg 2))], none, none⟩, ⟨.store 7 (.loc 1) (.reg 3), none, none⟩])
 (.seq (.block 0
  (.seq (.region [⟨.mov (.loc 0), none, none⟩, ⟨.call false false 19 [(.reg 0), (.cst (.str [35, 40]))], none, none⟩, ⟨.mov (.reg 1), (some 5), none⟩])
  (.cond (.loc 5)
   (.seq (.region [⟨.mov (.loc 0), none, none⟩, ⟨.nilCheck (.reg 0), none, none⟩, ⟨.fieldAddr 1 (.reg 1), none, none⟩, ⟨.load1 (.reg 2), none, none⟩, ⟨.bin .add (.reg 3) (.cst (.int .i64 2)), none, none⟩, ⟨.nilCheck (.reg 0), none, none⟩, ⟨.fieldAddr 1 (.reg 5), none, none⟩, ⟨.store 1 (.reg 6) (.reg 4), none, none⟩])
   (.seq (.region [⟨.mov (.loc 3), none, none⟩, ⟨.build [(.int .i64 0), (.int .i64 0), (.int .i64 0), (.int .i64 0), (.str []), (.sl .nil []), (.int .i64 0)] [(0, 1, (.cst (.int .i64 4))), (1, 1, (.reg 0))], none, none⟩, ⟨.call true false 16 [], none, none⟩, ⟨.store 7 (.loc 1) (.reg 1), none, none⟩, ⟨.store 2 (.loc 2) (.reg 2), none, none⟩])
   .ret))
   (.seq (.region [⟨.mov (.loc 0), none, none⟩, ⟨.call false false 19 [(.reg 0), (.cst (.str [35, 92]))], none, none⟩, ⟨.mov (.reg 1), (some 6), none⟩])
   (.cond (.loc 6)
    (.seq (.region [⟨.fieldAddr 2 (.loc 1), none, none⟩, ⟨.fieldAddr 0 (.reg 0), none, none⟩, ⟨.store 1 (.reg 1) (.cst (.int .i64 3)), none, none⟩])
    (.seq (.region [⟨.mov (.loc 0), none, none⟩, ⟨.call false false 34 [(.reg 0)], none, none⟩, ⟨.mov (.reg 1), none, none⟩, ⟨.extract 0 (.reg 2), none, none⟩, ⟨.extract 1 (.reg 2), none, none⟩, ⟨.fieldAddr 2 (.loc 1), none, none⟩, ⟨.fieldAddr 1 (.reg 5), none, none⟩, ⟨.store 1 (.reg 6) (.reg 3), none, none⟩, ⟨.store 2 (.loc 2) (.reg 4), none, none⟩])
    (.seq (.draw [0, 1] [(2, [1], []), (3, [], [])] [⟨.loadN 7 (.loc 1), none, none⟩, ⟨.loadN 2 (.loc 2), none, none⟩, ⟨.store 7 (.loc 1) (.reg 0), none, none⟩, ⟨.store 2 (.loc 2) (.reg 1), none, none⟩])
    .ret)))
    .skip)))))
 (.seq (.region [⟨.mov (.loc 0), none, none⟩, ⟨.nilCheck (.reg 0), none, none⟩, ⟨.fieldAddr 1 (.reg 1), none, none⟩, ⟨.load1 (.reg 2), none, none⟩, ⟨.bin .add (.reg 3) (.cst (.int .i64 1)), none, none⟩, ⟨.nilCheck (.reg 0), none, none⟩, ⟨.fieldAddr 1 (.reg 5), none, none⟩, ⟨.store 1 (.reg 6) (.reg 4), none, none⟩])
 (.seq (.seq (.region [⟨.mov (.loc 0), none, none⟩, ⟨.call false false 26 [(.reg 0)], none, none⟩, ⟨.mov (.reg 1), (some 4), none⟩])
 (.block 1
  (.seq (.seq (.region [⟨.mov (.loc 4), none, none⟩, ⟨.bin .eql (.reg 0) (.cst (.str [116])), none, none⟩, ⟨.mov (.reg 1), (some 7), none⟩])
  (.cond (.loc 7)
   .skip
   (.region [⟨.mov (.loc 4), none, none⟩, ⟨.bin .eql (.reg 0) (.cst (.str [116, 114, 117, 101])), none, none⟩, ⟨.mov (.reg 1), (some 7), none⟩])))
  (.cond (.loc 7)
   (.region [⟨.fieldAddr 2 (.loc 1), none, none⟩, ⟨.fieldAddr 1 (.reg 0), none, none⟩, ⟨.store 1 (.reg 1) (.cst (.int .i64 1)), none, none⟩])
   (.seq (.region [⟨.mov (.loc 4), none, none⟩, ⟨.bin .eql (.reg 0) (.cst (.str [117, 56])), none, none⟩, ⟨.mov (.reg 1), none, none⟩, ⟨.mov (.loc 0), none, (some (2, true))⟩, ⟨.call false false 35 [(.reg 3), (.cst (.int .i64 0))], none, (some (2, true))⟩, ⟨.bin .eql (.reg 4) (.cst (.int .u8 40)), none, (some (2, true))⟩, ⟨.pick (.reg 2) (.reg 5) (.cst (.bool false)), none, none⟩, ⟨.mov (.reg 6), (some 8), none⟩])
   (.cond (.loc 8)
    (.seq (.region [⟨.mov (.loc 0), none, none⟩, ⟨.nilCheck (.reg 0), none, none⟩, ⟨.fieldAddr 1 (.reg 1), none, none⟩, ⟨.load1 (.reg 2), none, none⟩, ⟨.bin .add (.reg 3) (.cst (.int .i64 1)), none, none⟩, ⟨.nilCheck (.reg 0), none, none⟩, ⟨.fieldAddr 1 (.reg 5), none, none⟩, ⟨.store 1 (.reg 6) (.reg 4), none, none⟩])
    (.region [⟨.mov (.loc 3), none, none⟩, ⟨.build [(.int .i64 0), (.int .i64 0), (.int .i64 0), (.int .i64 0), (.str []), (.sl .nil []), (.int .i64 0)] [(0, 1, (.cst (.int .i64 5))), (1, 1, (.reg 0))], none, none⟩, ⟨.store 7 (.loc 1) (.reg 1), none, none⟩]))
    (.seq (.region [⟨.mov (.loc 4), none, none⟩, ⟨.bin .neq (.reg 0) (.cst (.str [102])), none, none⟩, ⟨.mov (.reg 1), none, none⟩, ⟨.mov (.loc 4), none, (some (2, true))⟩, ⟨.bin .neq (.reg 3) (.cst (.str [102, 97, 108, 115, 101])), none, (some (2, true))⟩, ⟨.pick (.reg 2) (.reg 4) (.cst (.bool false)), none, none⟩, ⟨.mov (.reg 5), (some 9), none⟩])
    (.cond (.loc 9)
     (.seq (.draw [0, 1] [(2, [0], []), (3, [], []), (4, [], [])] [⟨.loadN 7 (.loc 1), none, none⟩, ⟨.mov (.loc 3), none, none⟩, ⟨.call true false 27 [(.reg 1)], none, none⟩, ⟨.store 7 (.loc 1) (.reg 0), none, none⟩, ⟨.store 2 (.loc 2) (.reg 2), none, none⟩])
     .ret)
     .skip))))))))
 (.seq (.draw [0] [(1, [0], []), (2, [], []), (3, [], [])] [⟨.loadN 7 (.loc 1), none, none⟩, ⟨.call true false 16 [], none, none⟩, ⟨.store 7 (.loc 1) (.reg 0), none, none⟩, ⟨.store 2 (.loc 2) (.reg 1), none, none⟩])
 .ret)))))))⟩
theorem c23 : compFunc Tryd.prog opts a23 Tryd.f23 = some t23 := by kernel_rfl
def a24 : Ann := { slots := [0, 2], lb := [], mu := [], trunc := [], draws := [] }
def t24 : TFunc := ⟨1, 2, [.loc 1],
 (.seq (.region [⟨.mov (.cst (.bool false)), (some 1), none⟩])
 (.seq (.region [⟨.mov (.loc 0), none, none⟩, ⟨.bin .geq (.reg 0) (.cst (.int .u8 97)), none, none⟩, ⟨.mov (.reg 1), none, none⟩, ⟨.mov (.loc 0), none, (some (2, true))⟩, ⟨.bin .leq (.reg 3) (.cst (.int .u8 122)), none, (some (2, true))⟩, ⟨.pick (.reg 2) (.reg 4) (.cst (.bool false)), none, none⟩, ⟨.mov (.reg 5), none, none⟩, ⟨.mov (.loc 0), none, (some (6, false))⟩, ⟨.bin .geq (.reg 7) (.cst (.int .u8 65)), none, (some (6, false))⟩, ⟨.mov (.reg 8), none, (some (6, false))⟩, ⟨.mov (.loc 0), none, (some (9, true))⟩, ⟨.bin .leq (.reg 10) (.cst (.int .u8 90)), none, (some (9, true))⟩, ⟨.pick (.reg 9) (.reg 11) (.cst (.bool false)), none, (some (6, false))⟩, ⟨.pick (.reg 6) (.cst (.bool true)) (.reg 12), none, none⟩, ⟨.mov (.reg 13), none, none⟩, ⟨.mov (.loc 0), none, (some (14, false))⟩, ⟨.call true false 36 [(.reg 15)], none, (some (14, false))⟩, ⟨.pick (.reg 14) (.cst (.bool true)) (.reg 16), none, none⟩, ⟨.mov (.reg 17), none, none⟩, ⟨.mov (.loc 0), none, (some (18, false))⟩, ⟨.call true false 21 [(.cst (.str [33, 36, 37, 38, 42, 47, 58, 60, 61, 62, 63, 94, 95, 126, 43, 45, 46, 64])), (.reg 19)], none, (some (18, false))⟩, ⟨.bin .geq (.reg 20) (.cst (.int .i64 0)), none, (some (18, false))⟩, ⟨.pick (.reg 18) (.cst (.bool true)) (.reg 21), none, none⟩, ⟨.mov (.reg 22), (some 1), none⟩])
 .ret))⟩
theorem c24 : compFunc Tryd.prog opts a24 Tryd.f24 = some t24 := by kernel_rfl
def a25 : Ann := { slots := [0, 1, 4, 5, 6, 7, 9, 20], lb := [5, 4], mu := [], trunc := [], draws := [] }
def t25 : TFunc := ⟨2, 8, [.cell 2 7 true],
 (.seq (.region [⟨.allocL 2 [(.int .i64 0), (.int .i64 0), (.int .i64 0), (.int .i64 0), (.str []), (.sl .nil []), (.int .i64 0)], none, none⟩])
 (.seq (.seq (.region [⟨.mov (.loc 0), none, none⟩, ⟨.bin .eql (.reg 0) (.cst (.str [46])), (some 6), none⟩])
 (.cond (.loc 6)
  (.seq (.region [⟨.mov (.loc 1), none, none⟩, ⟨.build [(.int .i64 0), (.int .i64 0), (.int .i64 0), (.int .i64 0), (.str []), (.sl .nil []), (.int .i64 0)] [(0, 1, (.cst (.int .i64 6))), (1, 1, (.reg 0))], none, none⟩, ⟨.store 7 (.loc 2) (.reg 1), none, none⟩])
  .ret)
  .skip))
 (.seq (.region [⟨.mov (.loc 0), none, none⟩, ⟨.mov (.loc 1), none, none⟩, ⟨.build [(.int .i64 0), (.int .i64 0), (.str []), (.sl .nil []), (.int .i64 0)] [(0, 1, (.cst (.int .i64 5))), (2, 1, (.reg 0)), (4, 1, (.reg 1))], none, none⟩, ⟨.allocL 3 [(.int .i64 0), (.int .i64 0), (.str []), (.sl .nil []), (.int .i64 0)], none, none⟩, ⟨.store 5 (.reg 3) (.reg 2), none, none⟩])
 (.seq (.seq (.region [⟨.mov (.loc 0), none, none⟩, ⟨.call true false 37 [(.reg 0)], none, none⟩, ⟨.mov (.reg 1), none, none⟩, ⟨.extract 0 (.reg 2), none, none⟩, ⟨.extract 1 (.reg 2), none, none⟩, ⟨.mov (.reg 3), (some 4), none⟩, ⟨.mov (.reg 4), (some 5), none⟩])
 (.seq (.region [⟨.mov (.loc 5), (some 7), none⟩])
 (.cond (.loc 7)
  (.region [⟨.mov (.loc 4), none, none⟩, ⟨.fieldAddr 0 (.loc 3), none, none⟩, ⟨.store 1 (.reg 1) (.cst (.int .i64 2)), none, none⟩, ⟨.fieldAddr 2 (.loc 3), none, none⟩, ⟨.store 1 (.reg 3) (.reg 0), none, none⟩])
  .skip)))
 (.seq (.region [⟨.mov (.loc 1), none, none⟩, ⟨.loadN 5 (.loc 3), none, none⟩, ⟨.build [(.int .i64 0), (.int .i64 0), (.int .i64 0), (.int .i64 0), (.str []), (.sl .nil []), (.int .i64 0)] [(0, 1, (.cst (.int .i64 7))), (1, 1, (.reg 0)), (2, 5, (.reg 1))], none, none⟩, ⟨.store 7 (.loc 2) (.reg 2), none, none⟩])
 .ret)))))⟩
theorem c25 : compFunc Tryd.prog opts a25 Tryd.f25 = some t25 := by kernel_rfl
def a26 : Ann := { slots := [0, 2, 3, 23], lb := [], mu := [], trunc := [], draws := [(2, ⟨[0, 1, 3, 7, 15, 31, 63, 127, 15, 271, 783, 1807, 4095, 8191, 16383, 32767], [0], [(1, [], [2, 3, 4, 5, 6, 7, 8, 9, 10, 11, 12, 13]), (14, [], [15])]⟩), (4, ⟨[0, 1, 3, 7, 0, 0, 32, 96, 224, 511, 1023, 2047], [0, 1, 2, 3, 4, 5, 6, 7, 8, 9, 10, 11], []⟩)] }
def t26L0 : TCode := (.seq (.seq (.draw [0] [(1, [], [2, 3, 4, 5, 6, 7, 8, 9, 10, 11, 12, 13]), (14, [], [15])] [⟨.mov (.loc 0), none, none⟩, ⟨.call false false 14 [(.reg 0)], none, none⟩, ⟨.un .not (.reg 1), none, none⟩, ⟨.mov (.reg 2), none, none⟩, ⟨.mov (.loc 0), none, (some (3, true))⟩, ⟨.nilCheck (.reg 4), none, (some (3, true))⟩, ⟨.fieldAddr 0 (.reg 5), none, (some (3, true))⟩, ⟨.load1 (.reg 6), none, (some (3, true))⟩, ⟨.mov (.loc 0), none, (some (3, true))⟩, ⟨.nilCheck (.reg 8), none, (some (3, true))⟩, ⟨.fieldAddr 1 (.reg 9), none, (some (3, true))⟩, ⟨.load1 (.reg 10), none, (some (3, true))⟩, ⟨.indexAddrS 1 (.reg 7) (.reg 11), none, (some (3, true))⟩, ⟨.load1 (.reg 12), none, (some (3, true))⟩, ⟨.call true false 24 [(.reg 13)], none, (some (3, true))⟩, ⟨.pick (.reg 3) (.reg 14) (.cst (.bool false)), (some 3), none⟩])
   (.cond (.loc 3)
    .skip
    (.exit 0)))
   (.block 1
    (.region [⟨.mov (.loc 0), none, none⟩, ⟨.nilCheck (.reg 0), none, none⟩, ⟨.fieldAddr 1 (.reg 1), none, none⟩, ⟨.load1 (.reg 2), none, none⟩, ⟨.bin .add (.reg 3) (.cst (.int .i64 1)), none, none⟩, ⟨.nilCheck (.reg 0), none, none⟩, ⟨.fieldAddr 1 (.reg 5), none, none⟩, ⟨.store 1 (.reg 6) (.reg 4), none, none⟩])))
def t26 : TFunc := ⟨1, 4, [.loc 1],
 (.seq (.region [⟨.mov (.cst (.str [])), (some 1), none⟩])
 (.seq (.region [⟨.mov (.loc 0), none, none⟩, ⟨.nilCheck (.reg 0), none, none⟩, ⟨.fieldAddr 1 (.reg 1), none, none⟩, ⟨.load1 (.reg 2), none, none⟩, ⟨.mov (.reg 3), (some 2), none⟩])
 (.seq (.block 0
  (.loop t26L0))
 (.seq (.draw [0, 1, 2, 3, 4, 5, 6, 7, 8, 9, 10, 11] [] [⟨.mov (.loc 0), none, none⟩, ⟨.nilCheck (.reg 0), none, none⟩, ⟨.fieldAddr 0 (.reg 1), none, none⟩, ⟨.load1 (.reg 2), none, none⟩, ⟨.mov (.loc 2), none, none⟩, ⟨.mov (.loc 0), none, none⟩, ⟨.nilCheck (.reg 5), none, none⟩, ⟨.fieldAddr 1 (.reg 6), none, none⟩, ⟨.load1 (.reg 7), none, none⟩, ⟨.slice (.sl 1) (.reg 3) (some (.reg 4)) (some (.reg 8)) none, none, none⟩, ⟨.conv .bytesStr (.reg 9), none, none⟩, ⟨.mov (.reg 10), (some 1), none⟩])
 .ret))))⟩
theorem c26 : compFunc Tryd.prog opts a26 Tryd.f26 = some t26 := by kernel_rfl
def a27 : Ann := { slots := [0, 2], lb := [2], mu := [], trunc := [], draws := [] }
def t27 : TFunc := ⟨1, 2, [.cell 1 2 true],
 (.seq (.region [⟨.allocL 1 [(.int .i64 0), (.int .i64 0)], none, none⟩])
 (.seq (.region [⟨.mov (.loc 0), none, none⟩, ⟨.build [(.int .i64 0), (.int .i64 0)] [(0, 1, (.cst (.int .i64 4))), (1, 1, (.reg 0))], none, none⟩, ⟨.store 2 (.loc 1) (.reg 1), none, none⟩])
 .ret))⟩
theorem c27 : compFunc Tryd.prog opts a27 Tryd.f27 = some t27 := by kernel_rfl
def a28 : Ann := { slots := [0, 2], lb := [], mu := [], trunc := [], draws := [] }
def t28 : TFunc := ⟨1, 2, [.loc 1],
 (.seq (.region [⟨.mov (.cst (.bool false)), (some 1), none⟩])
 (.seq (.region [⟨.mov (.loc 0), none, none⟩, ⟨.call true false 17 [(.reg 0)], none, none⟩, ⟨.mov (.reg 1), none, none⟩, ⟨.mov (.loc 0), none, (some (2, false))⟩, ⟨.call true false 21 [(.cst (.str [40, 41, 34, 59, 39])), (.reg 3)], none, (some (2, false))⟩, ⟨.bin .geq (.reg 4) (.cst (.int .i64 0)), none, (some (2, false))⟩, ⟨.pick (.reg 2) (.cst (.bool true)) (.reg 5), none, none⟩, ⟨.mov (.reg 6), (some 1), none⟩])
 .ret))⟩
theorem c28 : compFunc Tryd.prog opts a28 Tryd.f28 = some t28 := by kernel_rfl
def a29 : Ann := { slots := [0, 2, 3, 4, 5, 6, 21], lb := [3], mu := [], trunc := [], draws := [(1, ⟨[0, 1, 3, 7, 0, 16, 48, 112, 255, 511, 1023, 1023, 1023, 2047, 12287, 32767], [0, 1, 2, 3, 4, 5, 6, 7], [(8, [], [9, 10, 11, 12, 13, 14, 15])]⟩)] }
def t29 : TFunc := ⟨1, 7, [.loc 1, .cell 2 2 true],
 (.seq (.region [⟨.mov (.cst (.int .i32 0)), (some 1), none⟩, ⟨.allocL 2 [(.int .i64 0), (.int .i64 0)], none, none⟩])
 (.seq (.draw [0, 1, 2, 3, 4, 5, 6, 7] [(8, [], [9, 10, 11, 12, 13, 14, 15])] [⟨.mov (.loc 0), none, none⟩, ⟨.nilCheck (.reg 0), none, none⟩, ⟨.fieldAddr 0 (.reg 1), none, none⟩, ⟨.load1 (.reg 2), none, none⟩, ⟨.mov (.loc 0), none, none⟩, ⟨.nilCheck (.reg 4), none, none⟩, ⟨.fieldAddr 1 (.reg 5), none, none⟩, ⟨.load1 (.reg 6), none, none⟩, ⟨.call true false 38 [(.reg 3), (.reg 7)], none, none⟩, ⟨.mov (.reg 8), none, none⟩, ⟨.extract 0 (.reg 9), none, none⟩, ⟨.extract 1 (.reg 9), none, none⟩, ⟨.extract 2 (.reg 9), none, none⟩, ⟨.mov (.reg 10), (some 3), none⟩, ⟨.mov (.reg 11), (some 4), none⟩, ⟨.mov (.reg 12), (some 5), none⟩])
 (.seq (.seq (.region [⟨.mov (.loc 5), none, none⟩, ⟨.bin .neq (.reg 0) (.cst (.int .i64 0)), (some 6), none⟩])
 (.cond (.loc 6)
  (.seq (.region [⟨.mov (.loc 0), none, none⟩, ⟨.nilCheck (.reg 0), none, none⟩, ⟨.fieldAddr 1 (.reg 1), none, none⟩, ⟨.load1 (.reg 2), none, none⟩, ⟨.call true false 27 [(.reg 3)], none, none⟩, ⟨.mov (.cst (.int .i32 0)), (some 1), none⟩, ⟨.store 2 (.loc 2) (.reg 4), none, none⟩])
  .ret)
  .skip))
 (.seq (.region [⟨.mov (.loc 0), none, none⟩, ⟨.nilCheck (.reg 0), none, none⟩, ⟨.fieldAddr 1 (.reg 1), none, none⟩, ⟨.load1 (.reg 2), none, none⟩, ⟨.mov (.loc 4), none, none⟩, ⟨.bin .add (.reg 3) (.reg 4), none, none⟩, ⟨.nilCheck (.reg 0), none, none⟩, ⟨.fieldAddr 1 (.reg 6), none, none⟩, ⟨.store 1 (.reg 7) (.reg 5), none, none⟩])
 (.seq (.region [⟨.mov (.loc 3), none, none⟩, ⟨.conv (.toInt .i32) (.reg 0), none, none⟩, ⟨.call true false 16 [], none, none⟩, ⟨.mov (.reg 1), (some 1), none⟩, ⟨.store 2 (.loc 2) (.reg 2), none, none⟩])
 .ret)))))⟩
theorem c29 : compFunc Tryd.prog opts a29 Tryd.f29 = some t29 := by kernel_rfl
def a30 : Ann := { slots := [0, 1, 4], lb := [], mu := [], trunc := [], draws := [] }
def t30 : TFunc := ⟨2, 3, [.loc 2],
 (.seq (.region [⟨.mov (.cst (.int .i64 0)), (some 2), none⟩])
 (.seq (.region [⟨.mov (.loc 0), none, none⟩, ⟨.mov (.loc 1), none, none⟩, ⟨.prim 39 [(.reg 0), (.reg 1)], none, none⟩, ⟨.mov (.reg 2), (some 2), none⟩])
 .ret))⟩
theorem c30 : compFunc Tryd.prog opts a30 Tryd.f30 = some t30 := by kernel_rfl
def a32 : Ann := { slots := [0, 2, 3, 4, 5, 6, 7, 8, 23, 24, 30, 33, 36, 70, 98], lb := [3], mu := [], trunc := [], draws := [(14, ⟨[0, 1, 3, 7, 15, 31, 63, 127, 15, 271, 783, 1807, 4095, 8191, 16383, 32767, 65535, 131071, 262143, 524287, 1048575, 131071, 2228223, 6422527, 14811135, 33554431, 67108863, 134217727, 268435455], [0], [(1, [], [2, 3, 4, 5, 6, 7, 8, 9, 10, 11, 12, 13, 14, 15, 16, 17, 18, 19, 20, 21, 22, 23, 24, 25, 26]), (27, [], [28])]⟩), (16, ⟨[0, 1, 3, 7, 0, 0, 32, 96, 224, 511, 1023, 2047, 4095, 8191, 8191, 16383, 65535], [0, 1, 2, 3, 4, 5, 6, 7, 8, 9, 10], [(11, [], [12, 13, 14, 15, 16])]⟩)] }
def t32L0 : TCode := (.seq (.seq (.draw [0] [(1, [], [2, 3, 4, 5, 6, 7, 8, 9, 10, 11, 12, 13, 14, 15, 16, 17, 18, 19, 20, 21, 22, 23, 24, 25, 26]), (27, [], [28])] [⟨.mov (.loc 0), none, none⟩, ⟨.call false false 14 [(.reg 0)], none, none⟩, ⟨.un .not (.reg 1), none, none⟩, ⟨.mov (.reg 2), none, none⟩, ⟨.mov (.loc 0), none, (some (3, true))⟩, ⟨.nilCheck (.reg 4), none, (some (3, true))⟩, ⟨.fieldAddr 0 (.reg 5), none, (some (3, true))⟩, ⟨.load1 (.reg 6), none, (some (3, true))⟩, ⟨.mov (.loc 0), none, (some (3, true))⟩, ⟨.nilCheck (.reg 8), none, (some (3, true))⟩, ⟨.fieldAddr 1 (.reg 9), none, (some (3, true))⟩, ⟨.load1 (.reg 10), none, (some (3, true))⟩, ⟨.indexAddrS 1 (.reg 7) (.reg 11), none, (some (3, true))⟩, ⟨.load1 (.reg 12), none, (some (3, true))⟩, ⟨.bin .neq (.reg 13) (.cst (.int .u8 59)), none, (some (3, true))⟩, ⟨.pick (.reg 3) (.reg 14) (.cst (.bool false)), none, none⟩, ⟨.mov (.reg 15), none, none⟩, ⟨.mov (.loc 0), none, (some (16, true))⟩, ⟨.nilCheck (.reg 17), none, (some (16, true))⟩, ⟨.fieldAddr 0 (.reg 18), none, (some (16, true))⟩, ⟨.load1 (.reg 19), none, (some (16, true))⟩, ⟨.mov (.loc 0), none, (some (16, true))⟩, ⟨.nilCheck (.reg 21), none, (some (16, true))⟩, ⟨.fieldAddr 1 (.reg 22), none, (some (16, true))⟩, ⟨.load1 (.reg 23), none, (some (16, true))⟩, ⟨.indexAddrS 1 (.reg 20) (.reg 24), none, (some (16, true))⟩, ⟨.load1 (.reg 25), none, (some (16, true))⟩, ⟨.call true false 24 [(.reg 26)], none, (some (16, true))⟩, ⟨.pick (.reg 16) (.reg 27) (.cst (.bool false)), (some 13), none⟩])
        (.cond (.loc 13)
         .skip
         (.exit 1)))
        (.block 2
         (.region [⟨.mov (.loc 0), none, none⟩, ⟨.nilCheck (.reg 0), none, none⟩, ⟨.fieldAddr 1 (.reg 1), none, none⟩, ⟨.load1 (.reg 2), none, none⟩, ⟨.bin .add (.reg 3) (.cst (.int .i64 1)), none, none⟩, ⟨.nilCheck (.reg 0), none, none⟩, ⟨.fieldAddr 1 (.reg 5), none, none⟩, ⟨.store 1 (.reg 6) (.reg 4), none, none⟩])))
def t32 : TFunc := ⟨1, 15, [.loc 1, .cell 2 2 true],
 (.seq (.region [⟨.mov (.cst (.int .i32 0)), (some 1), none⟩, ⟨.allocL 2 [(.int .i64 0), (.int .i64 0)], none, none⟩])
 (.seq (.region [⟨.mov (.loc 0), none, none⟩, ⟨.nilCheck (.reg 0), none, none⟩, ⟨.fieldAddr 1 (.reg 1), none, none⟩, ⟨.load1 (.reg 2), none, none⟩, ⟨.bin .sub (.reg 3) (.cst (.int .i64 1)), none, none⟩, ⟨.mov (.reg 4), (some 3), none⟩])
 (.seq (.region [⟨.mov (.loc 0), none, none⟩, ⟨.call false false 35 [(.reg 0), (.cst (.int .i64 0))], none, none⟩, ⟨.mov (.reg 1), (some 4), none⟩])
 (.seq (.region [⟨.mov (.loc 0), none, none⟩, ⟨.nilCheck (.reg 0), none, none⟩, ⟨.fieldAddr 1 (.reg 1), none, none⟩, ⟨.load1 (.reg 2), none, none⟩, ⟨.bin .add (.reg 3) (.cst (.int .i64 1)), none, none⟩, ⟨.nilCheck (.reg 0), none, none⟩, ⟨.fieldAddr 1 (.reg 5), none, none⟩, ⟨.store 1 (.reg 6) (.reg 4), none, none⟩])
 (.seq (.seq (.region [⟨.mov (.loc 4), (some 8), none⟩])
 (.block 0
  (.seq (.seq (.region [⟨.bin .eql (.loc 8) (.cst (.int .u8 34)), none, none⟩, ⟨.mov (.reg 0), (some 9), none⟩])
  (.cond (.loc 9)
   .skip
   (.region [⟨.bin .eql (.loc 8) (.cst (.int .u8 92)), none, none⟩, ⟨.mov (.reg 0), (some 9), none⟩])))
  (.cond (.loc 9)
   (.seq (.region [⟨.mov (.loc 4), none, none⟩, ⟨.conv (.toInt .i32) (.reg 0), none, none⟩, ⟨.call true false 16 [], none, none⟩, ⟨.mov (.reg 1), (some 1), none⟩, ⟨.store 2 (.loc 2) (.reg 2), none, none⟩])
   .ret)
   (.seq (.region [⟨.bin .eql (.loc 8) (.cst (.int .u8 110)), none, none⟩, ⟨.mov (.reg 0), (some 10), none⟩])
   (.cond (.loc 10)
    (.seq (.region [⟨.call true false 16 [], none, none⟩, ⟨.mov (.cst (.int .i32 10)), (some 1), none⟩, ⟨.store 2 (.loc 2) (.reg 0), none, none⟩])
    .ret)
    (.seq (.region [⟨.bin .eql (.loc 8) (.cst (.int .u8 116)), none, none⟩, ⟨.mov (.reg 0), (some 11), none⟩])
    (.cond (.loc 11)
     (.seq (.region [⟨.call true false 16 [], none, none⟩, ⟨.mov (.cst (.int .i32 9)), (some 1), none⟩, ⟨.store 2 (.loc 2) (.reg 0), none, none⟩])
     .ret)
     (.seq (.region [⟨.bin .eql (.loc 8) (.cst (.int .u8 120)), none, none⟩, ⟨.mov (.reg 0), (some 12), none⟩])
     (.cond (.loc 12)
      (.seq (.region [⟨.mov (.loc 0), none, none⟩, ⟨.nilCheck (.reg 0), none, none⟩, ⟨.fieldAddr 1 (.reg 1), none, none⟩, ⟨.load1 (.reg 2), none, none⟩, ⟨.mov (.reg 3), (some 5), none⟩])
      (.seq (.block 1
       (.loop t32L0))
      (.seq (.draw [0, 1, 2, 3, 4, 5, 6, 7, 8, 9, 10] [(11, [], [12, 13, 14, 15, 16])] [⟨.mov (.loc 0), none, none⟩, ⟨.nilCheck (.reg 0), none, none⟩, ⟨.fieldAddr 0 (.reg 1), none, none⟩, ⟨.load1 (.reg 2), none, none⟩, ⟨.mov (.loc 5), none, none⟩, ⟨.mov (.loc 0), none, none⟩, ⟨.nilCheck (.reg 5), none, none⟩, ⟨.fieldAddr 1 (.reg 6), none, none⟩, ⟨.load1 (.reg 7), none, none⟩, ⟨.slice (.sl 1) (.reg 3) (some (.reg 4)) (some (.reg 8)) none, none, none⟩, ⟨.conv .bytesStr (.reg 9), none, none⟩, ⟨.call true false 40 [(.reg 10)], none, none⟩, ⟨.mov (.reg 11), none, none⟩, ⟨.extract 0 (.reg 12), none, none⟩, ⟨.extract 1 (.reg 12), none, none⟩, ⟨.mov (.reg 13), (some 6), none⟩, ⟨.mov (.reg 14), (some 7), none⟩])
      (.seq (.region [⟨.mov (.loc 7), none, none⟩, ⟨.mov (.reg 0), none, none⟩, ⟨.mov (.loc 0), none, (some (1, true))⟩, ⟨.call false false 35 [(.reg 2), (.cst (.int .i64 0))], none, (some (1, true))⟩, ⟨.bin .eql (.reg 3) (.cst (.int .u8 59)), none, (some (1, true))⟩, ⟨.pick (.reg 1) (.reg 4) (.cst (.bool false)), (some 14), none⟩])
      (.cond (.loc 14)
       (.seq (.region [⟨.mov (.loc 0), none, none⟩, ⟨.nilCheck (.reg 0), none, none⟩, ⟨.fieldAddr 1 (.reg 1), none, none⟩, ⟨.load1 (.reg 2), none, none⟩, ⟨.bin .add (.reg 3) (.cst (.int .i64 1)), none, none⟩, ⟨.nilCheck (.reg 0), none, none⟩, ⟨.fieldAddr 1 (.reg 5), none, none⟩, ⟨.store 1 (.reg 6) (.reg 4), none, none⟩])
       (.seq (.region [⟨.mov (.loc 6), none, none⟩, ⟨.call true false 16 [], none, none⟩, ⟨.mov (.reg 0), (some 1), none⟩, ⟨.store 2 (.loc 2) (.reg 1), none, none⟩])
       .ret))
       .skip)))))
      .skip))))))))))
 (.seq (.region [⟨.mov (.loc 3), none, none⟩, ⟨.call true false 27 [(.reg 0)], none, none⟩, ⟨.mov (.cst (.int .i32 0)), (some 1), none⟩, ⟨.store 2 (.loc 2) (.reg 1), none, none⟩])
 .ret))))))⟩
theorem c32 : compFunc Tryd.prog opts a32 Tryd.f32 = some t32 := by kernel_rfl
def a33 : Ann := { slots := [0, 1, 4, 5, 6], lb := [], mu := [], trunc := [], draws := [] }
def t33 : TFunc := ⟨2, 5, [.loc 2, .loc 3],
 (.seq (.region [⟨.mov (.cst (.int .i64 0)), (some 2), none⟩, ⟨.mov (.cst .nili), (some 3), none⟩])
 (.seq (.region [⟨.mov (.loc 0), none, none⟩, ⟨.prim 41 [(.reg 0)], none, none⟩])
 (.seq (.region [⟨.mov (.loc 0), none, none⟩, ⟨.nilCheck (.reg 0), none, none⟩, ⟨.fieldAddr 1 (.reg 1), none, none⟩, ⟨.load1 (.reg 2), none, none⟩, ⟨.len .sl (.reg 3), none, none⟩, ⟨.mov (.reg 4), (some 4), none⟩])
 (.seq (.region [⟨.mov (.loc 0), none, none⟩, ⟨.mov (.loc 0), none, none⟩, ⟨.nilCheck (.reg 1), none, none⟩, ⟨.fieldAddr 1 (.reg 2), none, none⟩, ⟨.load1 (.reg 3), none, none⟩, ⟨.mov (.loc 1), none, none⟩, ⟨.call false false 42 [(.reg 4), (.reg 5)], none, none⟩, ⟨.nilCheck (.reg 0), none, none⟩, ⟨.fieldAddr 1 (.reg 7), none, none⟩, ⟨.store 1 (.reg 8) (.reg 6), none, none⟩])
 (.seq (.region [⟨.mov (.loc 0), none, none⟩, ⟨.nilCheck (.reg 0), none, none⟩, ⟨.fieldAddr 1 (.reg 1), none, none⟩, ⟨.load1 (.reg 2), none, none⟩, ⟨.len .sl (.reg 3), none, none⟩, ⟨.mov (.loc 4), none, none⟩, ⟨.bin .sub (.reg 4) (.reg 5), none, none⟩, ⟨.mov (.reg 6), (some 2), none⟩, ⟨.mov (.cst .nili), (some 3), none⟩])
 .ret)))))⟩
theorem c33 : compFunc Tryd.prog opts a33 Tryd.f33 = some t33 := by kernel_rfl
def a34 : Ann := { slots := [0, 2, 3, 4, 5, 6, 7, 8, 9, 10, 23, 33, 42, 48, 52, 56, 69], lb := [6, 3], mu := [], trunc := [], draws := [] }
def t34 : TFunc := ⟨1, 17, [.loc 1, .cell 2 2 true],
 (.seq (.region [⟨.mov (.cst (.int .i64 0)), (some 1), none⟩, ⟨.allocL 2 [(.int .i64 0), (.int .i64 0)], none, none⟩])
 (.seq (.region [⟨.mov (.loc 0), none, none⟩, ⟨.nilCheck (.reg 0), none, none⟩, ⟨.fieldAddr 1 (.reg 1), none, none⟩, ⟨.load1 (.reg 2), none, none⟩, ⟨.mov (.reg 3), (some 3), none⟩])
 (.seq (.region [⟨.mov (.loc 0), none, none⟩, ⟨.nilCheck (.reg 0), none, none⟩, ⟨.fieldAddr 1 (.reg 1), none, none⟩, ⟨.load1 (.reg 2), none, none⟩, ⟨.bin .add (.reg 3) (.cst (.int .i64 2)), none, none⟩, ⟨.nilCheck (.reg 0), none, none⟩, ⟨.fieldAddr 1 (.reg 5), none, none⟩, ⟨.store 1 (.reg 6) (.reg 4), none, none⟩])
 (.seq (.seq (.region [⟨.mov (.loc 0), none, none⟩, ⟨.call false false 14 [(.reg 0)], (some 10), none⟩])
 (.cond (.loc 10)
  (.seq (.region [⟨.mov (.loc 3), none, none⟩, ⟨.call true false 27 [(.reg 0)], none, none⟩, ⟨.mov (.cst (.int .i64 0)), (some 1), none⟩, ⟨.store 2 (.loc 2) (.reg 1), none, none⟩])
  .ret)
  .skip))
 (.seq (.region [⟨.mov (.loc 0), none, none⟩, ⟨.call false false 29 [(.reg 0)], none, none⟩, ⟨.mov (.reg 1), none, none⟩, ⟨.extract 0 (.reg 2), none, none⟩, ⟨.extract 1 (.reg 2), none, none⟩, ⟨.allocL 5 [(.int .i64 0), (.int .i64 0)], none, none⟩, ⟨.mov (.reg 3), (some 4), none⟩, ⟨.store 2 (.reg 5) (.reg 4), none, none⟩])
 (.seq (.seq (.region [⟨.fieldAddr 0 (.loc 5), none, none⟩, ⟨.load1 (.reg 0), none, none⟩, ⟨.bin .neq (.reg 1) (.cst (.int .i64 0)), (some 11), none⟩])
 (.cond (.loc 11)
  (.seq (.region [⟨.mov (.loc 3), none, none⟩, ⟨.call true false 27 [(.reg 0)], none, none⟩, ⟨.mov (.cst (.int .i64 0)), (some 1), none⟩, ⟨.store 2 (.loc 2) (.reg 1), none, none⟩])
  .ret)
  .skip))
 (.seq (.region [⟨.mov (.loc 0), none, none⟩, ⟨.call false false 26 [(.reg 0)], none, none⟩, ⟨.mov (.reg 1), (some 6), none⟩])
 (.seq (.region [⟨.mov (.loc 4), none, none⟩, ⟨.conv .intStr (.reg 0), none, none⟩, ⟨.mov (.loc 6), none, none⟩, ⟨.bin .add (.reg 1) (.reg 2), none, none⟩, ⟨.mov (.reg 3), (some 7), none⟩])
 (.seq (.block 0
  (.seq (.region [⟨.mov (.loc 6), none, none⟩, ⟨.bin .eql (.reg 0) (.cst (.str [])), none, none⟩, ⟨.mov (.reg 1), (some 12), none⟩])
  (.cond (.loc 12)
   (.seq (.region [⟨.mov (.loc 4), none, none⟩, ⟨.conv (.toInt .i64) (.reg 0), none, none⟩, ⟨.call true false 16 [], none, none⟩, ⟨.mov (.reg 1), (some 1), none⟩, ⟨.store 2 (.loc 2) (.reg 2), none, none⟩])
   .ret)
   (.seq (.region [⟨.mov (.loc 7), none, none⟩, ⟨.bin .eql (.reg 0) (.cst (.str [115, 112, 97, 99, 101])), none, none⟩, ⟨.mov (.reg 1), (some 13), none⟩])
   (.cond (.loc 13)
    (.seq (.region [⟨.call true false 16 [], none, none⟩, ⟨.mov (.cst (.int .i64 32)), (some 1), none⟩, ⟨.store 2 (.loc 2) (.reg 0), none, none⟩])
    .ret)
    (.seq (.region [⟨.mov (.loc 7), none, none⟩, ⟨.bin .eql (.reg 0) (.cst (.str [110, 101, 119, 108, 105, 110, 101])), none, none⟩, ⟨.mov (.reg 1), (some 14), none⟩])
    (.cond (.loc 14)
     (.seq (.region [⟨.call true false 16 [], none, none⟩, ⟨.mov (.cst (.int .i64 10)), (some 1), none⟩, ⟨.store 2 (.loc 2) (.reg 0), none, none⟩])
     .ret)
     (.seq (.region [⟨.mov (.loc 7), none, none⟩, ⟨.bin .eql (.reg 0) (.cst (.str [116, 97, 98])), none, none⟩, ⟨.mov (.reg 1), (some 15), none⟩])
     (.cond (.loc 15)
      (.seq (.region [⟨.call true false 16 [], none, none⟩, ⟨.mov (.cst (.int .i64 9)), (some 1), none⟩, ⟨.store 2 (.loc 2) (.reg 0), none, none⟩])
      .ret)
      .skip)))))))))
 (.seq (.seq (.region [⟨.mov (.loc 6), none, none⟩, ⟨.call true false 40 [(.reg 0)], none, none⟩, ⟨.mov (.reg 1), none, none⟩, ⟨.extract 0 (.reg 2), none, none⟩, ⟨.extract 1 (.reg 2), none, none⟩, ⟨.mov (.reg 3), (some 8), none⟩, ⟨.mov (.reg 4), (some 9), none⟩])
 (.seq (.region [⟨.mov (.loc 4), none, none⟩, ⟨.bin .eql (.reg 0) (.cst (.int .i32 120)), none, none⟩, ⟨.mov (.reg 1), none, none⟩, ⟨.mov (.loc 9), none, (some (2, true))⟩, ⟨.pick (.reg 2) (.reg 3) (.cst (.bool false)), (some 16), none⟩])
 (.cond (.loc 16)
  (.seq (.region [⟨.mov (.loc 8), none, none⟩, ⟨.conv (.toInt .i64) (.reg 0), none, none⟩, ⟨.call true false 16 [], none, none⟩, ⟨.mov (.reg 1), (some 1), none⟩, ⟨.store 2 (.loc 2) (.reg 2), none, none⟩])
  .ret)
  .skip)))
 (.seq (.region [⟨.mov (.loc 3), none, none⟩, ⟨.call true false 27 [(.reg 0)], none, none⟩, ⟨.mov (.cst (.int .i64 0)), (some 1), none⟩, ⟨.store 2 (.loc 2) (.reg 1), none, none⟩])
 .ret)))))))))))⟩
theorem c34 : compFunc Tryd.prog opts a34 Tryd.f34 = some t34 := by kernel_rfl
def a35 : Ann := { slots := [0, 1, 4, 16], lb := [], mu := [], trunc := [], draws := [(1, ⟨[0, 1, 3, 7, 0, 31, 0, 64, 192, 448, 960, 2047], [0, 1, 2, 3, 4, 5, 6, 7, 8, 9, 10, 11], []⟩), (3, ⟨[0, 1, 3, 7, 0, 16, 48, 112, 0, 496, 1023, 2047, 4095], [0, 1, 2, 3, 4, 5, 6, 7, 8, 9, 10, 11, 12], []⟩)] }
def t35 : TFunc := ⟨2, 4, [.loc 2],
 (.seq (.region [⟨.mov (.cst (.int .u8 0)), (some 2), none⟩])
 (.seq (.seq (.draw [0, 1, 2, 3, 4, 5, 6, 7, 8, 9, 10, 11] [] [⟨.mov (.loc 0), none, none⟩, ⟨.nilCheck (.reg 0), none, none⟩, ⟨.fieldAddr 1 (.reg 1), none, none⟩, ⟨.load1 (.reg 2), none, none⟩, ⟨.mov (.loc 1), none, none⟩, ⟨.bin .add (.reg 3) (.reg 4), none, none⟩, ⟨.mov (.loc 0), none, none⟩, ⟨.nilCheck (.reg 6), none, none⟩, ⟨.fieldAddr 0 (.reg 7), none, none⟩, ⟨.load1 (.reg 8), none, none⟩, ⟨.len .sl (.reg 9), none, none⟩, ⟨.bin .geq (.reg 5) (.reg 10), (some 3), none⟩])
 (.cond (.loc 3)
  (.seq (.region [⟨.mov (.cst (.int .u8 0)), (some 2), none⟩])
  .ret)
  .skip))
 (.seq (.draw [0, 1, 2, 3, 4, 5, 6, 7, 8, 9, 10, 11, 12] [] [⟨.mov (.loc 0), none, none⟩, ⟨.nilCheck (.reg 0), none, none⟩, ⟨.fieldAddr 0 (.reg 1), none, none⟩, ⟨.load1 (.reg 2), none, none⟩, ⟨.mov (.loc 0), none, none⟩, ⟨.nilCheck (.reg 4), none, none⟩, ⟨.fieldAddr 1 (.reg 5), none, none⟩, ⟨.load1 (.reg 6), none, none⟩, ⟨.mov (.loc 1), none, none⟩, ⟨.bin .add (.reg 7) (.reg 8), none, none⟩, ⟨.indexAddrS 1 (.reg 3) (.reg 9), none, none⟩, ⟨.load1 (.reg 10), none, none⟩, ⟨.mov (.reg 11), (some 2), none⟩])
 .ret)))⟩
theorem c35 : compFunc Tryd.prog opts a35 Tryd.f35 = some t35 := by kernel_rfl
def a36 : Ann := { slots := [0, 2], lb := [], mu := [], trunc := [], draws := [] }
def t36 : TFunc := ⟨1, 2, [.loc 1],
 (.seq (.region [⟨.mov (.cst (.bool false)), (some 1), none⟩])
 (.seq (.region [⟨.mov (.loc 0), none, none⟩, ⟨.bin .geq (.reg 0) (.cst (.int .u8 48)), none, none⟩, ⟨.mov (.reg 1), none, none⟩, ⟨.mov (.loc 0), none, (some (2, true))⟩, ⟨.bin .leq (.reg 3) (.cst (.int .u8 57)), none, (some (2, true))⟩, ⟨.pick (.reg 2) (.reg 4) (.cst (.bool false)), none, none⟩, ⟨.mov (.reg 5), (some 1), none⟩])
 .ret))⟩
theorem c36 : compFunc Tryd.prog opts a36 Tryd.f36 = some t36 := by kernel_rfl
def a37 : Ann := { slots := [0, 2, 3, 4, 13, 22, 25, 28], lb := [], mu := [], trunc := [], draws := [] }
def t37 : TFunc := ⟨1, 8, [.loc 1, .loc 2],
 (.seq (.region [⟨.mov (.cst (.str [])), (some 1), none⟩, ⟨.mov (.cst (.bool false)), (some 2), none⟩])
 (.seq (.region [⟨.mov (.loc 0), none, none⟩, ⟨.mov (.reg 0), (some 3), none⟩])
 (.seq (.seq (.region [⟨.mov (.loc 0), none, none⟩, ⟨.indexS (.reg 0) (.cst (.int .i64 0)), none, none⟩, ⟨.bin .eql (.reg 1) (.cst (.int .u8 43)), none, none⟩, ⟨.mov (.reg 2), none, none⟩, ⟨.mov (.loc 0), none, (some (3, false))⟩, ⟨.indexS (.reg 4) (.cst (.int .i64 0)), none, (some (3, false))⟩, ⟨.bin .eql (.reg 5) (.cst (.int .u8 45)), none, (some (3, false))⟩, ⟨.pick (.reg 3) (.cst (.bool true)) (.reg 6), (some 4), none⟩])
 (.cond (.loc 4)
  (.region [⟨.mov (.loc 0), none, none⟩, ⟨.slice .str (.reg 0) (some (.cst (.int .i64 1))) none none, none, none⟩, ⟨.mov (.reg 1), (some 3), none⟩])
  .skip))
 (.seq (.seq (.region [⟨.mov (.loc 3), none, none⟩, ⟨.bin .eql (.reg 0) (.cst (.str [])), none, none⟩, ⟨.mov (.reg 1), none, none⟩, ⟨.mov (.loc 3), none, (some (2, false))⟩, ⟨.call true false 43 [(.reg 3), (.cst (.str [48, 49, 50, 51, 52, 53, 54, 55, 56, 57]))], none, (some (2, false))⟩, ⟨.bin .neq (.reg 4) (.cst (.str [])), none, (some (2, false))⟩, ⟨.pick (.reg 2) (.cst (.bool true)) (.reg 5), (some 5), none⟩])
 (.cond (.loc 5)
  (.seq (.region [⟨.mov (.cst (.str [])), (some 1), none⟩, ⟨.mov (.cst (.bool false)), (some 2), none⟩])
  .ret)
  .skip))
 (.seq (.region [⟨.mov (.loc 3), none, none⟩, ⟨.call true false 44 [(.reg 0), (.cst (.str [48]))], none, none⟩, ⟨.mov (.reg 1), (some 3), none⟩])
 (.seq (.block 0
  (.seq (.region [⟨.mov (.loc 3), none, none⟩, ⟨.bin .eql (.reg 0) (.cst (.str [])), none, none⟩, ⟨.mov (.reg 1), (some 6), none⟩])
  (.cond (.loc 6)
   (.seq (.region [⟨.mov (.cst (.str [48])), (some 1), none⟩, ⟨.mov (.cst (.bool true)), (some 2), none⟩])
   .ret)
   (.seq (.region [⟨.mov (.loc 0), none, none⟩, ⟨.indexS (.reg 0) (.cst (.int .i64 0)), none, none⟩, ⟨.bin .eql (.reg 1) (.cst (.int .u8 45)), none, none⟩, ⟨.mov (.reg 2), (some 7), none⟩])
   (.cond (.loc 7)
    (.seq (.region [⟨.mov (.loc 3), none, none⟩, ⟨.bin .add (.cst (.str [45])) (.reg 0), none, none⟩, ⟨.mov (.reg 1), (some 1), none⟩, ⟨.mov (.cst (.bool true)), (some 2), none⟩])
    .ret)
    .skip)))))
 (.seq (.region [⟨.mov (.loc 3), none, none⟩, ⟨.mov (.reg 0), (some 1), none⟩, ⟨.mov (.cst (.bool true)), (some 2), none⟩])
 .ret)))))))⟩
theorem c37 : compFunc Tryd.prog opts a37 Tryd.f37 = some t37 := by kernel_rfl
def a38 : Ann := { slots := [0, 1, 4, 5, 6, 7, 15, 25], lb := [], mu := [], trunc := [], draws := [] }
def t38 : TFunc := ⟨2, 8, [.loc 2, .loc 3, .loc 4],
 (.seq (.region [⟨.mov (.cst (.int .i64 0)), (some 2), none⟩, ⟨.mov (.cst (.int .i64 0)), (some 3), none⟩, ⟨.mov (.cst (.int .i64 0)), (some 4), none⟩])
 (.seq (.seq (.region [⟨.mov (.loc 1), none, none⟩, ⟨.bin .lss (.reg 0) (.cst (.int .i64 0)), none, none⟩, ⟨.mov (.reg 1), none, none⟩, ⟨.mov (.loc 1), none, (some (2, false))⟩, ⟨.mov (.loc 0), none, (some (2, false))⟩, ⟨.len .sl (.reg 4), none, (some (2, false))⟩, ⟨.bin .geq (.reg 3) (.reg 5), none, (some (2, false))⟩, ⟨.pick (.reg 2) (.cst (.bool true)) (.reg 6), (some 6), none⟩])
 (.cond (.loc 6)
  (.seq (.region [⟨.mov (.cst (.int .i64 0)), (some 2), none⟩, ⟨.mov (.cst (.int .i64 0)), (some 3), none⟩, ⟨.mov (.cst (.int .i64 2)), (some 4), none⟩])
  .ret)
  .skip))
 (.seq (.region [⟨.mov (.loc 0), none, none⟩, ⟨.mov (.loc 1), none, none⟩, ⟨.slice (.sl 1) (.reg 0) (some (.reg 1)) none none, none, none⟩, ⟨.call true false 45 [(.reg 2)], none, none⟩, ⟨.mov (.reg 3), none, none⟩, ⟨.extract 0 (.reg 4), none, none⟩, ⟨.extract 1 (.reg 4), none, none⟩, ⟨.mov (.reg 5), (some 5), none⟩, ⟨.mov (.reg 6), (some 3), none⟩])
 (.seq (.seq (.region [⟨.mov (.loc 5), none, none⟩, ⟨.mov (.loc 3), none, none⟩, ⟨.call true false 46 [(.reg 0), (.reg 1)], (some 7), none⟩])
 (.cond (.loc 7)
  (.seq (.region [⟨.mov (.cst (.int .i64 0)), (some 2), none⟩, ⟨.mov (.cst (.int .i64 0)), (some 3), none⟩, ⟨.mov (.cst (.int .i64 4)), (some 4), none⟩])
  .ret)
  .skip))
 (.seq (.region [⟨.mov (.loc 5), none, none⟩, ⟨.conv (.toInt .i64) (.reg 0), none, none⟩, ⟨.mov (.loc 3), none, none⟩, ⟨.mov (.reg 1), (some 2), none⟩, ⟨.mov (.reg 2), (some 3), none⟩, ⟨.mov (.cst (.int .i64 0)), (some 4), none⟩])
 .ret)))))⟩
theorem c38 : compFunc Tryd.prog opts a38 Tryd.f38 = some t38 := by kernel_rfl
def a40 : Ann := { slots := [0, 2, 3, 4, 6, 7, 9, 10, 11, 12, 23], lb := [], mu := [], trunc := [], draws := [] }
def t40L0 : TCode := (.seq (.region [⟨.bin .lss (.loc 8) (.loc 7), (some 9), none⟩])
   (.seq (.cond (.loc 9)
    .skip
    (.exit 0))
   (.seq (.block 1
    (.seq (.region [⟨.indexAddrS 1 (.loc 6) (.loc 8), none, none⟩, ⟨.load1 (.reg 0), none, none⟩, ⟨.mov (.reg 1), (some 4), none⟩])
    (.seq (.region [⟨.mov (.loc 4), none, none⟩, ⟨.bin .or (.reg 0) (.cst (.int .u8 32)), none, none⟩, ⟨.call true false 21 [(.cst (.str [48, 49, 50, 51, 52, 53, 54, 55, 56, 57, 97, 98, 99, 100, 101, 102])), (.reg 1)], none, none⟩, ⟨.mov (.reg 2), (some 5), none⟩])
    (.seq (.seq (.region [⟨.mov (.loc 5), none, none⟩, ⟨.bin .lss (.reg 0) (.cst (.int .i64 0)), none, none⟩, ⟨.mov (.reg 1), none, none⟩, ⟨.mov (.loc 4), none, (some (2, false))⟩, ⟨.bin .lss (.reg 3) (.cst (.int .u8 48)), none, (some (2, false))⟩, ⟨.pick (.reg 2) (.cst (.bool true)) (.reg 4), (some 10), none⟩])
    (.cond (.loc 10)
     (.seq (.region [⟨.mov (.cst (.int .i32 0)), (some 1), none⟩, ⟨.mov (.cst (.bool false)), (some 2), none⟩])
     .ret)
     .skip))
    (.region [⟨.mov (.loc 3), none, none⟩, ⟨.bin .mul (.cst (.int .i64 16)) (.reg 0), none, none⟩, ⟨.mov (.loc 5), none, none⟩, ⟨.bin .add (.reg 1) (.reg 2), none, none⟩, ⟨.minmax false [(.reg 3), (.cst (.int .i64 16777216))], none, none⟩, ⟨.mov (.reg 4), (some 3), none⟩])))))
   (.region [⟨.bin .add (.loc 8) (.cst (.int .i64 1)), none, none⟩, ⟨.mov (.reg 0), (some 8), none⟩]))))
def t40 : TFunc := ⟨1, 11, [.loc 1, .loc 2],
 (.seq (.region [⟨.mov (.cst (.int .i32 0)), (some 1), none⟩, ⟨.mov (.cst (.bool false)), (some 2), none⟩])
 (.seq (.region [⟨.mov (.cst (.int .i64 0)), (some 3), none⟩])
 (.seq (.seq (.region [⟨.mov (.loc 0), none, none⟩, ⟨.conv .strBytes (.reg 0), (some 6), none⟩, ⟨.len .sl (.reg 1), (some 7), none⟩, ⟨.mov (.cst (.int .i64 0)), (some 8), none⟩])
 (.block 0
  (.loop t40L0)))
 (.seq (.region [⟨.mov (.loc 3), none, none⟩, ⟨.conv (.toInt .i32) (.reg 0), none, none⟩, ⟨.mov (.loc 0), none, none⟩, ⟨.bin .neq (.reg 2) (.cst (.str [])), none, none⟩, ⟨.mov (.reg 3), none, none⟩, ⟨.mov (.loc 3), none, (some (4, true))⟩, ⟨.call true false 47 [(.reg 5)], none, (some (4, true))⟩, ⟨.pick (.reg 4) (.reg 6) (.cst (.bool false)), none, none⟩, ⟨.mov (.reg 1), (some 1), none⟩, ⟨.mov (.reg 7), (some 2), none⟩])
 .ret))))⟩
theorem c40 : compFunc Tryd.prog opts a40 Tryd.f40 = some t40 := by kernel_rfl
def a42 : Ann := { slots := [0, 1, 4, 7], lb := [], mu := [], trunc := [], draws := [] }
def t42 : TFunc := ⟨2, 4, [.loc 2],
 (.seq (.region [⟨.mov (.cst (.sl .nil [])), (some 2), none⟩])
 (.seq (.seq (.region [⟨.mov (.loc 1), none, none⟩, ⟨.conv (.toInt .u32) (.reg 0), none, none⟩, ⟨.bin .leq (.reg 1) (.cst (.int .u32 127)), (some 3), none⟩])
 (.cond (.loc 3)
  (.seq (.region [⟨.mov (.loc 0), none, none⟩, ⟨.mov (.loc 1), none, none⟩, ⟨.conv (.toInt .u8) (.reg 1), none, none⟩, ⟨.lit false [(.int .u8 0)] 1 [(0, (.reg 2))], none, none⟩, ⟨.append false 1 1 5 (.reg 0) (.reg 3), none, none⟩, ⟨.mov (.reg 4), (some 2), none⟩])
  .ret)
  .skip))
 (.seq (.region [⟨.mov (.loc 0), none, none⟩, ⟨.mov (.loc 1), none, none⟩, ⟨.call false false 49 [(.reg 0), (.reg 1)], none, none⟩, ⟨.mov (.reg 2), (some 2), none⟩])
 .ret)))⟩
theorem c42 : compFunc Tryd.prog opts a42 Tryd.f42 = some t42 := by kernel_rfl
def a43 : Ann := { slots := [0, 1, 4, 5, 6, 12, 21, 34], lb := [], mu := [], trunc := [], draws := [(4, ⟨[0, 0, 2, 7, 0, 16, 63, 127], [0, 1, 2, 4, 5], [(3, [], []), (6, [], [7])]⟩)] }
def t43 : TFunc := ⟨2, 8, [.loc 2],
 (.seq (.region [⟨.mov (.cst (.str [])), (some 2), none⟩])
 (.seq (.seq (.region [⟨.mov (.loc 0), none, none⟩, ⟨.bin .eql (.reg 0) (.cst (.str [])), none, none⟩, ⟨.mov (.reg 1), none, none⟩, ⟨.mov (.loc 1), none, (some (2, false))⟩, ⟨.bin .eql (.reg 3) (.cst (.str [])), none, (some (2, false))⟩, ⟨.pick (.reg 2) (.cst (.bool true)) (.reg 4), (some 5), none⟩])
 (.cond (.loc 5)
  (.seq (.region [⟨.mov (.loc 0), none, none⟩, ⟨.mov (.reg 0), (some 2), none⟩])
  .ret)
  .skip))
 (.seq (.seq (.region [⟨.mov (.loc 1), none, none⟩, ⟨.len .str (.reg 0), none, none⟩, ⟨.bin .eql (.reg 1) (.cst (.int .i64 1)), none, none⟩, ⟨.mov (.reg 2), none, none⟩, ⟨.mov (.loc 1), none, (some (3, true))⟩, ⟨.indexS (.reg 4) (.cst (.int .i64 0)), none, (some (3, true))⟩, ⟨.bin .lss (.reg 5) (.cst (.int .u8 128)), none, (some (3, true))⟩, ⟨.pick (.reg 3) (.reg 6) (.cst (.bool false)), (some 6), none⟩])
 (.cond (.loc 6)
  (.seq (.draw [0, 1, 2, 4, 5] [(3, [], []), (6, [], [7])] [⟨.mov (.loc 0), none, none⟩, ⟨.mov (.loc 1), none, none⟩, ⟨.indexS (.reg 1) (.cst (.int .i64 0)), none, none⟩, ⟨.call true false 51 [(.reg 0), (.reg 2)], none, none⟩, ⟨.mov (.loc 1), none, none⟩, ⟨.indexS (.reg 4) (.cst (.int .i64 0)), none, none⟩, ⟨.call true false 50 [(.reg 3), (.reg 5)], none, none⟩, ⟨.mov (.reg 6), (some 2), none⟩])
  .ret)
  .skip))
 (.seq (.seq (.region [⟨.mov (.loc 1), none, none⟩, ⟨.call true false 52 [(.reg 0)], none, none⟩, ⟨.mov (.reg 1), none, none⟩, ⟨.extract 0 (.reg 2), none, none⟩, ⟨.extract 1 (.reg 2), none, none⟩, ⟨.allocH 86 [(.bool false), (.bool false), (.bool false), (.bool false), (.bool false), (.bool false), (.bool false), (.bool false), (.bool false), (.bool false), (.bool false), (.bool false), (.bool false), (.bool false), (.bool false), (.bool false), (.bool false), (.bool false), (.bool false), (.bool false), (.bool false), (.bool false), (.bool false), (.bool false), (.bool false), (.bool false), (.bool false), (.bool false), (.bool false), (.bool false), (.bool false), (.bool false), (.bool false), (.bool false), (.bool false), (.bool false), (.bool false), (.bool false), (.bool false), (.bool false), (.bool false), (.bool false), (.bool false), (.bool false), (.bool false), (.bool false), (.bool false), (.bool false), (.bool false), (.bool false), (.bool false), (.bool false), (.bool false), (.bool false), (.bool false), (.bool false), (.bool false), (.bool false), (.bool false), (.bool false), (.bool false), (.bool false), (.bool false), (.bool false), (.bool false), (.bool false), (.bool false), (.bool false), (.bool false), (.bool false), (.bool false), (.bool false), (.bool false), (.bool false), (.bool false), (.bool false), (.bool false), (.bool false), (.bool false), (.bool false), (.bool false), (.bool false), (.bool false), (.bool false), (.bool false), (.bool false), (.bool false), (.bool false), (.bool false), (.bool false), (.bool false), (.bool false), (.bool false), (.bool false), (.bool false), (.bool false), (.bool false), (.bool false), (.bool false), (.bool false), (.bool false), (.bool false), (.bool false), (.bool false), (.bool false), (.bool false), (.bool false), (.bool false), (.bool false), (.bool false), (.bool false), (.bool false), (.bool false), (.bool false), (.bool false), (.bool false), (.bool false), (.bool false), (.bool false), (.bool false), (.bool false), (.bool false), (.bool false), (.bool false), (.bool false), (.bool false), (.bool false), (.bool false), (.bool false), (.bool false), (.bool false), (.bool false), (.bool false), (.bool false), (.bool false), (.bool false), (.bool false), (.bool false), (.bool false), (.bool false), (.bool false), (.bool false), (.bool false), (.bool false), (.bool false), (.bool false), (.bool false), (.bool false), (.bool false), (.bool false), (.bool false), (.bool false), (.bool false), (.bool false), (.bool false), (.bool false), (.bool false), (.bool false), (.bool false), (.bool false), (.bool false), (.bool false), (.bool false), (.bool false), (.bool false), (.bool false), (.bool false), (.bool false), (.bool false), (.bool false), (.bool false), (.bool false), (.bool false), (.bool false), (.bool false), (.bool false), (.bool false), (.bool false), (.bool false), (.bool false), (.bool false), (.bool false), (.bool false), (.bool false), (.bool false), (.bool false), (.bool false), (.bool false), (.bool false), (.bool false), (.bool false), (.bool false), (.bool false), (.bool false), (.bool false), (.bool false), (.bool false), (.bool false), (.bool false), (.bool false), (.bool false), (.bool false), (.bool false), (.bool false), (.bool false), (.bool false), (.bool false), (.bool false), (.bool false), (.bool false), (.bool false), (.bool false), (.bool false), (.bool false), (.bool false), (.bool false), (.bool false), (.bool false), (.bool false), (.bool false), (.bool false), (.bool false), (.bool false), (.bool false), (.bool false), (.bool false), (.bool false), (.bool false), (.bool false), (.bool false), (.bool false), (.bool false), (.bool false), (.bool false), (.bool false), (.bool false), (.bool false), (.bool false), (.bool false), (.bool false), (.bool false), (.bool false), (.bool false), (.bool false), (.bool false), (.bool false), (.bool false), (.bool false), (.bool false), (.bool false), (.bool false), (.bool false), (.bool false), (.bool false), (.bool false), (.bool false)], (some 3), none⟩, ⟨.store 256 (.reg 5) (.reg 3), none, none⟩, ⟨.mov (.reg 4), (some 4), none⟩])
 (.seq (.region [⟨.mov (.loc 4), (some 7), none⟩])
 (.cond (.loc 7)
  (.seq (.region [⟨.mov (.loc 0), none, none⟩, ⟨.call false false 54 [(.reg 0), (.loc 3)], none, none⟩, ⟨.call false false 53 [(.reg 1), (.loc 3)], none, none⟩, ⟨.mov (.reg 2), (some 2), none⟩])
  .ret)
  .skip)))
 (.seq (.region [⟨.mov (.loc 0), none, none⟩, ⟨.mov (.loc 1), none, none⟩, ⟨.call true false 56 [(.reg 0), (.reg 1)], none, none⟩, ⟨.mov (.loc 1), none, none⟩, ⟨.call true false 55 [(.reg 2), (.reg 3)], none, none⟩, ⟨.mov (.reg 4), (some 2), none⟩])
 .ret)))))⟩
theorem c43 : compFunc Tryd.prog opts a43 Tryd.f43 = some t43 := by kernel_rfl
def a44 : Ann := { slots := [0, 1, 4, 5, 6, 12, 21, 31], lb := [], mu := [], trunc := [], draws := [] }
def t44 : TFunc := ⟨2, 8, [.loc 2],
 (.seq (.region [⟨.mov (.cst (.str [])), (some 2), none⟩])
 (.seq (.seq (.region [⟨.mov (.loc 0), none, none⟩, ⟨.bin .eql (.reg 0) (.cst (.str [])), none, none⟩, ⟨.mov (.reg 1), none, none⟩, ⟨.mov (.loc 1), none, (some (2, false))⟩, ⟨.bin .eql (.reg 3) (.cst (.str [])), none, (some (2, false))⟩, ⟨.pick (.reg 2) (.cst (.bool true)) (.reg 4), (some 5), none⟩])
 (.cond (.loc 5)
  (.seq (.region [⟨.mov (.loc 0), none, none⟩, ⟨.mov (.reg 0), (some 2), none⟩])
  .ret)
  .skip))
 (.seq (.seq (.region [⟨.mov (.loc 1), none, none⟩, ⟨.len .str (.reg 0), none, none⟩, ⟨.bin .eql (.reg 1) (.cst (.int .i64 1)), none, none⟩, ⟨.mov (.reg 2), none, none⟩, ⟨.mov (.loc 1), none, (some (3, true))⟩, ⟨.indexS (.reg 4) (.cst (.int .i64 0)), none, (some (3, true))⟩, ⟨.bin .lss (.reg 5) (.cst (.int .u8 128)), none, (some (3, true))⟩, ⟨.pick (.reg 3) (.reg 6) (.cst (.bool false)), (some 6), none⟩])
 (.cond (.loc 6)
  (.seq (.region [⟨.mov (.loc 0), none, none⟩, ⟨.mov (.loc 1), none, none⟩, ⟨.indexS (.reg 1) (.cst (.int .i64 0)), none, none⟩, ⟨.call true false 50 [(.reg 0), (.reg 2)], none, none⟩, ⟨.mov (.reg 3), (some 2), none⟩])
  .ret)
  .skip))
 (.seq (.seq (.region [⟨.mov (.loc 1), none, none⟩, ⟨.call true false 52 [(.reg 0)], none, none⟩, ⟨.mov (.reg 1), none, none⟩, ⟨.extract 0 (.reg 2), none, none⟩, ⟨.extract 1 (.reg 2), none, none⟩, ⟨.allocH 86 [(.bool false), (.bool false), (.bool false), (.bool false), (.bool false), (.bool false), (.bool false), (.bool false), (.bool false), (.bool false), (.bool false), (.bool false), (.bool false), (.bool false), (.bool false), (.bool false), (.bool false), (.bool false), (.bool false), (.bool false), (.bool false), (.bool false), (.bool false), (.bool false), (.bool false), (.bool false), (.bool false), (.bool false), (.bool false), (.bool false), (.bool false), (.bool false), (.bool false), (.bool false), (.bool false), (.bool false), (.bool false), (.bool false), (.bool false), (.bool false), (.bool false), (.bool false), (.bool false), (.bool false), (.bool false), (.bool false), (.bool false), (.bool false), (.bool false), (.bool false), (.bool false), (.bool false), (.bool false), (.bool false), (.bool false), (.bool false), (.bool false), (.bool false), (.bool false), (.bool false), (.bool false), (.bool false), (.bool false), (.bool false), (.bool false), (.bool false), (.bool false), (.bool false), (.bool false), (.bool false), (.bool false), (.bool false), (.bool false), (.bool false), (.bool false), (.bool false), (.bool false), (.bool false), (.bool false), (.bool false), (.bool false), (.bool false), (.bool false), (.bool false), (.bool false), (.bool false), (.bool false), (.bool false), (.bool false), (.bool false), (.bool false), (.bool false), (.bool false), (.bool false), (.bool false), (.bool false), (.bool false), (.bool false), (.bool false), (.bool false), (.bool false), (.bool false), (.bool false), (.bool false), (.bool false), (.bool false), (.bool false), (.bool false), (.bool false), (.bool false), (.bool false), (.bool false), (.bool false), (.bool false), (.bool false), (.bool false), (.bool false), (.bool false), (.bool false), (.bool false), (.bool false), (.bool false), (.bool false), (.bool false), (.bool false), (.bool false), (.bool false), (.bool false), (.bool false), (.bool false), (.bool false), (.bool false), (.bool false), (.bool false), (.bool false), (.bool false), (.bool false), (.bool false), (.bool false), (.bool false), (.bool false), (.bool false), (.bool false), (.bool false), (.bool false), (.bool false), (.bool false), (.bool false), (.bool false), (.bool false), (.bool false), (.bool false), (.bool false), (.bool false), (.bool false), (.bool false), (.bool false), (.bool false), (.bool false), (.bool false), (.bool false), (.bool false), (.bool false), (.bool false), (.bool false), (.bool false), (.bool false), (.bool false), (.bool false), (.bool false), (.bool false), (.bool false), (.bool false), (.bool false), (.bool false), (.bool false), (.bool false), (.bool false), (.bool false), (.bool false), (.bool false), (.bool false), (.bool false), (.bool false), (.bool false), (.bool false), (.bool false), (.bool false), (.bool false), (.bool false), (.bool false), (.bool false), (.bool false), (.bool false), (.bool false), (.bool false), (.bool false), (.bool false), (.bool false), (.bool false), (.bool false), (.bool false), (.bool false), (.bool false), (.bool false), (.bool false), (.bool false), (.bool false), (.bool false), (.bool false), (.bool false), (.bool false), (.bool false), (.bool false), (.bool false), (.bool false), (.bool false), (.bool false), (.bool false), (.bool false), (.bool false), (.bool false), (.bool false), (.bool false), (.bool false), (.bool false), (.bool false), (.bool false), (.bool false), (.bool false), (.bool false), (.bool false), (.bool false), (.bool false), (.bool false), (.bool false), (.bool false), (.bool false), (.bool false), (.bool false), (.bool false), (.bool false), (.bool false), (.bool false), (.bool false), (.bool false), (.bool false), (.bool false), (.bool false), (.bool false), (.bool false), (.bool false), (.bool false), (.bool false), (.bool false), (.bool false)], (some 3), none⟩, ⟨.store 256 (.reg 5) (.reg 3), none, none⟩, ⟨.mov (.reg 4), (some 4), none⟩])
 (.seq (.region [⟨.mov (.loc 4), (some 7), none⟩])
 (.cond (.loc 7)
  (.seq (.region [⟨.mov (.loc 0), none, none⟩, ⟨.call false false 53 [(.reg 0), (.loc 3)], none, none⟩, ⟨.mov (.reg 1), (some 2), none⟩])
  .ret)
  .skip)))
 (.seq (.region [⟨.mov (.loc 0), none, none⟩, ⟨.mov (.loc 1), none, none⟩, ⟨.call true false 55 [(.reg 0), (.reg 1)], none, none⟩, ⟨.mov (.reg 2), (some 2), none⟩])
 .ret)))))⟩
theorem c44 : compFunc Tryd.prog opts a44 Tryd.f44 = some t44 := by kernel_rfl
def a45 : Ann := { slots := [0, 2, 3, 5, 6, 7, 8, 9, 13], lb := [], mu := [], trunc := [], draws := [] }
def t45L0 : TCode := (.seq (.region [⟨.bin .lss (.loc 6) (.loc 5), (some 7), none⟩])
   (.seq (.cond (.loc 7)
    .skip
    (.exit 0))
   (.seq (.block 1
    (.seq (.region [⟨.indexAddrS 1 (.loc 4) (.loc 6), none, none⟩, ⟨.load1 (.reg 0), none, none⟩, ⟨.mov (.reg 1), (some 3), none⟩])
    (.seq (.seq (.region [⟨.mov (.loc 3), none, none⟩, ⟨.bin .lss (.reg 0) (.cst (.int .u8 128)), (some 8), none⟩])
    (.cond (.loc 8)
     (.seq (.region [⟨.mov (.loc 3), none, none⟩, ⟨.conv (.toInt .i32) (.reg 0), none, none⟩, ⟨.mov (.reg 1), (some 1), none⟩, ⟨.mov (.cst (.int .i64 1)), (some 2), none⟩])
     .ret)
     .skip))
    (.exit 0))))
   (.region [⟨.bin .add (.loc 6) (.cst (.int .i64 1)), none, none⟩, ⟨.mov (.reg 0), (some 6), none⟩]))))
def t45 : TFunc := ⟨1, 9, [.loc 1, .loc 2],
 (.seq (.region [⟨.mov (.cst (.int .i32 0)), (some 1), none⟩, ⟨.mov (.cst (.int .i64 0)), (some 2), none⟩])
 (.seq (.seq (.region [⟨.mov (.loc 0), (some 4), none⟩, ⟨.len .sl (.reg 0), (some 5), none⟩, ⟨.mov (.cst (.int .i64 0)), (some 6), none⟩])
 (.block 0
  (.loop t45L0)))
 (.seq (.region [⟨.mov (.loc 0), none, none⟩, ⟨.call true false 57 [(.reg 0)], none, none⟩, ⟨.mov (.reg 1), none, none⟩, ⟨.extract 0 (.reg 2), none, none⟩, ⟨.extract 1 (.reg 2), none, none⟩, ⟨.mov (.reg 3), (some 1), none⟩, ⟨.mov (.reg 4), (some 2), none⟩])
 .ret)))⟩
theorem c45 : compFunc Tryd.prog opts a45 Tryd.f45 = some t45 := by kernel_rfl
def a46 : Ann := { slots := [0, 1, 4], lb := [], mu := [], trunc := [], draws := [] }
def t46 : TFunc := ⟨2, 3, [.loc 2],
 (.seq (.region [⟨.mov (.cst (.bool false)), (some 2), none⟩])
 (.seq (.region [⟨.mov (.loc 0), none, none⟩, ⟨.bin .eql (.reg 0) (.cst (.int .i32 65533)), none, none⟩, ⟨.mov (.reg 1), none, none⟩, ⟨.mov (.loc 1), none, (some (2, true))⟩, ⟨.bin .leq (.reg 3) (.cst (.int .i64 1)), none, (some (2, true))⟩, ⟨.pick (.reg 2) (.reg 4) (.cst (.bool false)), none, none⟩, ⟨.mov (.reg 5), (some 2), none⟩])
 .ret))⟩
theorem c46 : compFunc Tryd.prog opts a46 Tryd.f46 = some t46 := by kernel_rfl
def a47 : Ann := { slots := [0, 2], lb := [], mu := [], trunc := [], draws := [] }
def t47 : TFunc := ⟨1, 2, [.loc 1],
 (.seq (.region [⟨.mov (.cst (.bool false)), (some 1), none⟩])
 (.seq (.region [⟨.mov (.loc 0), none, none⟩, ⟨.bin .geq (.reg 0) (.cst (.int .i64 0)), none, none⟩, ⟨.mov (.reg 1), none, none⟩, ⟨.mov (.loc 0), none, (some (2, true))⟩, ⟨.bin .leq (.reg 3) (.cst (.int .i64 1114111)), none, (some (2, true))⟩, ⟨.pick (.reg 2) (.reg 4) (.cst (.bool false)), none, none⟩, ⟨.mov (.reg 5), none, none⟩, ⟨.mov (.loc 0), none, (some (6, true))⟩, ⟨.conv (.toInt .i32) (.reg 7), none, (some (6, true))⟩, ⟨.call true false 58 [(.reg 8)], none, (some (6, true))⟩, ⟨.pick (.reg 6) (.reg 9) (.cst (.bool false)), none, none⟩, ⟨.mov (.reg 10), (some 1), none⟩])
 .ret))⟩
theorem c47 : compFunc Tryd.prog opts a47 Tryd.f47 = some t47 := by kernel_rfl
def a49 : Ann := { slots := [0, 1, 4, 5, 11, 25, 50], lb := [], mu := [], trunc := [], draws := [] }
def t49 : TFunc := ⟨2, 7, [.loc 2],
 (.seq (.region [⟨.mov (.cst (.sl .nil [])), (some 2), none⟩])
 (.seq (.region [⟨.mov (.loc 1), none, none⟩, ⟨.conv (.toInt .u32) (.reg 0), none, none⟩, ⟨.mov (.reg 1), (some 3), none⟩])
 (.block 0
  (.seq (.region [⟨.mov (.loc 3), none, none⟩, ⟨.bin .leq (.reg 0) (.cst (.int .u32 2047)), none, none⟩, ⟨.mov (.reg 1), (some 4), none⟩])
  (.cond (.loc 4)
   (.seq (.region [⟨.mov (.loc 0), none, none⟩, ⟨.mov (.loc 1), none, none⟩, ⟨.bin .shr (.reg 1) (.cst (.int .u64 6)), none, none⟩, ⟨.conv (.toInt .u8) (.reg 2), none, none⟩, ⟨.bin .or (.cst (.int .u8 192)) (.reg 3), none, none⟩, ⟨.mov (.loc 1), none, none⟩, ⟨.conv (.toInt .u8) (.reg 5), none, none⟩, ⟨.bin .and (.reg 6) (.cst (.int .u8 63)), none, none⟩, ⟨.bin .or (.cst (.int .u8 128)) (.reg 7), none, none⟩, ⟨.lit false [(.int .u8 0)] 2 [(0, (.reg 4)), (1, (.reg 8))], none, none⟩, ⟨.append false 1 1 5 (.reg 0) (.reg 9), none, none⟩, ⟨.mov (.reg 10), (some 2), none⟩])
   .ret)
   (.seq (.seq (.region [⟨.mov (.loc 3), none, none⟩, ⟨.bin .lss (.reg 0) (.cst (.int .u32 55296)), none, none⟩, ⟨.mov (.reg 1), (some 5), none⟩])
   (.cond (.loc 5)
    .skip
    (.region [⟨.mov (.loc 3), none, none⟩, ⟨.bin .lss (.cst (.int .u32 57343)) (.reg 0), none, none⟩, ⟨.mov (.reg 1), none, none⟩, ⟨.mov (.loc 3), none, (some (2, true))⟩, ⟨.bin .leq (.reg 3) (.cst (.int .u32 65535)), none, (some (2, true))⟩, ⟨.pick (.reg 2) (.reg 4) (.cst (.bool false)), none, none⟩, ⟨.mov (.reg 5), (some 5), none⟩])))
   (.cond (.loc 5)
    (.seq (.region [⟨.mov (.loc 0), none, none⟩, ⟨.mov (.loc 1), none, none⟩, ⟨.bin .shr (.reg 1) (.cst (.int .u64 12)), none, none⟩, ⟨.conv (.toInt .u8) (.reg 2), none, none⟩, ⟨.bin .or (.cst (.int .u8 224)) (.reg 3), none, none⟩, ⟨.mov (.loc 1), none, none⟩, ⟨.bin .shr (.reg 5) (.cst (.int .u64 6)), none, none⟩, ⟨.conv (.toInt .u8) (.reg 6), none, none⟩, ⟨.bin .and (.reg 7) (.cst (.int .u8 63)), none, none⟩, ⟨.bin .or (.cst (.int .u8 128)) (.reg 8), none, none⟩, ⟨.mov (.loc 1), none, none⟩, ⟨.conv (.toInt .u8) (.reg 10), none, none⟩, ⟨.bin .and (.reg 11) (.cst (.int .u8 63)), none, none⟩, ⟨.bin .or (.cst (.int .u8 128)) (.reg 12), none, none⟩, ⟨.lit false [(.int .u8 0)] 3 [(0, (.reg 4)), (1, (.reg 9)), (2, (.reg 13))], none, none⟩, ⟨.append false 1 1 5 (.reg 0) (.reg 14), none, none⟩, ⟨.mov (.reg 15), (some 2), none⟩])
    .ret)
    (.seq (.region [⟨.mov (.loc 3), none, none⟩, ⟨.bin .gtr (.reg 0) (.cst (.int .u32 65535)), none, none⟩, ⟨.mov (.reg 1), none, none⟩, ⟨.mov (.loc 3), none, (some (2, true))⟩, ⟨.bin .leq (.reg 3) (.cst (.int .u32 1114111)), none, (some (2, true))⟩, ⟨.pick (.reg 2) (.reg 4) (.cst (.bool false)), none, none⟩, ⟨.mov (.reg 5), (some 6), none⟩])
    (.cond (.loc 6)
     (.seq (.region [⟨.mov (.loc 0), none, none⟩, ⟨.mov (.loc 1), none, none⟩, ⟨.bin .shr (.reg 1) (.cst (.int .u64 18)), none, none⟩, ⟨.conv (.toInt .u8) (.reg 2), none, none⟩, ⟨.bin .or (.cst (.int .u8 240)) (.reg 3), none, none⟩, ⟨.mov (.loc 1), none, none⟩, ⟨.bin .shr (.reg 5) (.cst (.int .u64 12)), none, none⟩, ⟨.conv (.toInt .u8) (.reg 6), none, none⟩, ⟨.bin .and (.reg 7) (.cst (.int .u8 63)), none, none⟩, ⟨.bin .or (.cst (.int .u8 128)) (.reg 8), none, none⟩, ⟨.mov (.loc 1), none, none⟩, ⟨.bin .shr (.reg 10) (.cst (.int .u64 6)), none, none⟩, ⟨.conv (.toInt .u8) (.reg 11), none, none⟩, ⟨.bin .and (.reg 12) (.cst (.int .u8 63)), none, none⟩, ⟨.bin .or (.cst (.int .u8 128)) (.reg 13), none, none⟩, ⟨.mov (.loc 1), none, none⟩, ⟨.conv (.toInt .u8) (.reg 15), none, none⟩, ⟨.bin .and (.reg 16) (.cst (.int .u8 63)), none, none⟩, ⟨.bin .or (.cst (.int .u8 128)) (.reg 17), none, none⟩, ⟨.lit false [(.int .u8 0)] 4 [(0, (.reg 4)), (1, (.reg 9)), (2, (.reg 14)), (3, (.reg 18))], none, none⟩, ⟨.append false 1 1 5 (.reg 0) (.reg 19), none, none⟩, ⟨.mov (.reg 20), (some 2), none⟩])
     .ret)
     (.seq (.region [⟨.mov (.loc 0), none, none⟩, ⟨.lit false [(.int .u8 0)] 3 [(0, (.cst (.int .u8 239))), (1, (.cst (.int .u8 191))), (2, (.cst (.int .u8 189)))], none, none⟩, ⟨.append false 1 1 5 (.reg 0) (.reg 1), none, none⟩, ⟨.mov (.reg 2), (some 2), none⟩])
     .ret))))))))))⟩
theorem c49 : compFunc Tryd.prog opts a49 Tryd.f49 = some t49 := by kernel_rfl
def a50 : Ann := { slots := [0, 1, 4, 13], lb := [], mu := [], trunc := [], draws := [] }
def t50L0 : TCode := (.seq (.seq (.region [⟨.mov (.loc 0), none, none⟩, ⟨.len .str (.reg 0), none, none⟩, ⟨.bin .gtr (.reg 1) (.cst (.int .i64 0)), none, none⟩, ⟨.mov (.reg 2), none, none⟩, ⟨.mov (.loc 0), none, (some (3, true))⟩, ⟨.indexS (.reg 4) (.cst (.int .i64 0)), none, (some (3, true))⟩, ⟨.mov (.loc 1), none, (some (3, true))⟩, ⟨.bin .eql (.reg 5) (.reg 6), none, (some (3, true))⟩, ⟨.pick (.reg 3) (.reg 7) (.cst (.bool false)), (some 3), none⟩])
   (.cond (.loc 3)
    .skip
    (.exit 0)))
   (.block 1
    (.region [⟨.mov (.loc 0), none, none⟩, ⟨.slice .str (.reg 0) (some (.cst (.int .i64 1))) none none, none, none⟩, ⟨.mov (.reg 1), (some 0), none⟩])))
def t50 : TFunc := ⟨2, 4, [.loc 2],
 (.seq (.region [⟨.mov (.cst (.str [])), (some 2), none⟩])
 (.seq (.block 0
  (.loop t50L0))
 (.seq (.region [⟨.mov (.loc 0), none, none⟩, ⟨.mov (.reg 0), (some 2), none⟩])
 .ret)))⟩
theorem c50 : compFunc Tryd.prog opts a50 Tryd.f50 = some t50 := by kernel_rfl
def a51 : Ann := { slots := [0, 1, 4, 16], lb := [], mu := [], trunc := [], draws := [] }
def t51L0 : TCode := (.seq (.seq (.region [⟨.mov (.loc 0), none, none⟩, ⟨.len .str (.reg 0), none, none⟩, ⟨.bin .gtr (.reg 1) (.cst (.int .i64 0)), none, none⟩, ⟨.mov (.reg 2), none, none⟩, ⟨.mov (.loc 0), none, (some (3, true))⟩, ⟨.mov (.loc 0), none, (some (3, true))⟩, ⟨.len .str (.reg 5), none, (some (3, true))⟩, ⟨.bin .sub (.reg 6) (.cst (.int .i64 1)), none, (some (3, true))⟩, ⟨.indexS (.reg 4) (.reg 7), none, (some (3, true))⟩, ⟨.mov (.loc 1), none, (some (3, true))⟩, ⟨.bin .eql (.reg 8) (.reg 9), none, (some (3, true))⟩, ⟨.pick (.reg 3) (.reg 10) (.cst (.bool false)), (some 3), none⟩])
   (.cond (.loc 3)
    .skip
    (.exit 0)))
   (.block 1
    (.region [⟨.mov (.loc 0), none, none⟩, ⟨.mov (.loc 0), none, none⟩, ⟨.len .str (.reg 1), none, none⟩, ⟨.bin .sub (.reg 2) (.cst (.int .i64 1)), none, none⟩, ⟨.slice .str (.reg 0) none (some (.reg 3)) none, none, none⟩, ⟨.mov (.reg 4), (some 0), none⟩])))
def t51 : TFunc := ⟨2, 4, [.loc 2],
 (.seq (.region [⟨.mov (.cst (.str [])), (some 2), none⟩])
 (.seq (.block 0
  (.loop t51L0))
 (.seq (.region [⟨.mov (.loc 0), none, none⟩, ⟨.mov (.reg 0), (some 2), none⟩])
 .ret)))⟩
theorem c51 : compFunc Tryd.prog opts a51 Tryd.f51 = some t51 := by kernel_rfl
def a52 : Ann := { slots := [0, 2, 3, 4, 5, 9, 16], lb := [2], mu := [], trunc := [], draws := [] }
def t52L0 : TCode := (.seq (.seq (.region [⟨.mov (.loc 3), none, none⟩, ⟨.mov (.loc 0), none, none⟩, ⟨.len .str (.reg 1), none, none⟩, ⟨.bin .lss (.reg 0) (.reg 2), (some 5), none⟩])
   (.cond (.loc 5)
    .skip
    (.exit 0)))
   (.seq (.block 1
    (.seq (.region [⟨.mov (.loc 0), none, none⟩, ⟨.mov (.loc 3), none, none⟩, ⟨.indexS (.reg 0) (.reg 1), none, none⟩, ⟨.mov (.reg 2), (some 4), none⟩])
    (.seq (.seq (.region [⟨.mov (.loc 4), none, none⟩, ⟨.bin .geq (.reg 0) (.cst (.int .u8 128)), (some 6), none⟩])
    (.cond (.loc 6)
     (.seq (.region [⟨.loadN 256 (.loc 1), none, none⟩, ⟨.store 256 (.loc 1) (.reg 0), none, none⟩, ⟨.mov (.cst (.bool false)), (some 2), none⟩])
     .ret)
     .skip))
    (.region [⟨.mov (.loc 4), none, none⟩, ⟨.indexAddrA 256 1 (.loc 1) (.reg 0), none, none⟩, ⟨.store 1 (.reg 1) (.cst (.bool true)), none, none⟩]))))
   (.region [⟨.mov (.loc 3), none, none⟩, ⟨.bin .add (.reg 0) (.cst (.int .i64 1)), none, none⟩, ⟨.mov (.reg 1), (some 3), none⟩])))
def t52 : TFunc := ⟨1, 7, [.cell 1 256 true, .loc 2],
 (.seq (.region [⟨.allocL 1 [(.bool false), (.bool false), (.bool false), (.bool false), (.bool false), (.bool false), (.bool false), (.bool false), (.bool false), (.bool false), (.bool false), (.bool false), (.bool false), (.bool false), (.bool false), (.bool false), (.bool false), (.bool false), (.bool false), (.bool false), (.bool false), (.bool false), (.bool false), (.bool false), (.bool false), (.bool false), (.bool false), (.bool false), (.bool false), (.bool false), (.bool false), (.bool false), (.bool false), (.bool false), (.bool false), (.bool false), (.bool false), (.bool false), (.bool false), (.bool false), (.bool false), (.bool false), (.bool false), (.bool false), (.bool false), (.bool false), (.bool false), (.bool false), (.bool false), (.bool false), (.bool false), (.bool false), (.bool false), (.bool false), (.bool false), (.bool false), (.bool false), (.bool false), (.bool false), (.bool false), (.bool false), (.bool false), (.bool false), (.bool false), (.bool false), (.bool false), (.bool false), (.bool false), (.bool false), (.bool false), (.bool false), (.bool false), (.bool false), (.bool false), (.bool false), (.bool false), (.bool false), (.bool false), (.bool false), (.bool false), (.bool false), (.bool false), (.bool false), (.bool false), (.bool false), (.bool false), (.bool false), (.bool false), (.bool false), (.bool false), (.bool false), (.bool false), (.bool false), (.bool false), (.bool false), (.bool false), (.bool false), (.bool false), (.bool false), (.bool false), (.bool false), (.bool false), (.bool false), (.bool false), (.bool false), (.bool false), (.bool false), (.bool false), (.bool false), (.bool false), (.bool false), (.bool false), (.bool false), (.bool false), (.bool false), (.bool false), (.bool false), (.bool false), (.bool false), (.bool false), (.bool false), (.bool false), (.bool false), (.bool false), (.bool false), (.bool false), (.bool false), (.bool false), (.bool false), (.bool false), (.bool false), (.bool false), (.bool false), (.bool false), (.bool false), (.bool false), (.bool false), (.bool false), (.bool false), (.bool false), (.bool false), (.bool false), (.bool false), (.bool false), (.bool false), (.bool false), (.bool false), (.bool false), (.bool false), (.bool false), (.bool false), (.bool false), (.bool false), (.bool false), (.bool false), (.bool false), (.bool false), (.bool false), (.bool false), (.bool false), (.bool false), (.bool false), (.bool false), (.bool false), (.bool false), (.bool false), (.bool false), (.bool false), (.bool false), (.bool false), (.bool false), (.bool false), (.bool false), (.bool false), (.bool false), (.bool false), (.bool false), (.bool false), (.bool false), (.bool false), (.bool false), (.bool false), (.bool false), (.bool false), (.bool false), (.bool false), (.bool false), (.bool false), (.bool false), (.bool false), (.bool false), (.bool false), (.bool false), (.bool false), (.bool false), (.bool false), (.bool false), (.bool false), (.bool false), (.bool false), (.bool false), (.bool false), (.bool false), (.bool false), (.bool false), (.bool false), (.bool false), (.bool false), (.bool false), (.bool false), (.bool false), (.bool false), (.bool false), (.bool false), (.bool false), (.bool false), (.bool false), (.bool false), (.bool false), (.bool false), (.bool false), (.bool false), (.bool false), (.bool false), (.bool false), (.bool false), (.bool false), (.bool false), (.bool false), (.bool false), (.bool false), (.bool false), (.bool false), (.bool false), (.bool false), (.bool false), (.bool false), (.bool false), (.bool false), (.bool false), (.bool false), (.bool false), (.bool false), (.bool false), (.bool false), (.bool false), (.bool false), (.bool false), (.bool false), (.bool false), (.bool false), (.bool false), (.bool false), (.bool false), (.bool false), (.bool false)], none, none⟩, ⟨.mov (.cst (.bool false)), (some 2), none⟩])
 (.seq (.seq (.region [⟨.mov (.cst (.int .i64 0)), (some 3), none⟩])
 (.block 0
  (.loop t52L0)))
 (.seq (.region [⟨.loadN 256 (.loc 1), none, none⟩, ⟨.store 256 (.loc 1) (.reg 0), none, none⟩, ⟨.mov (.cst (.bool true)), (some 2), none⟩])
 .ret)))⟩
theorem c52 : compFunc Tryd.prog opts a52 Tryd.f52 = some t52 := by kernel_rfl
def a53 : Ann := { slots := [0, 1, 4, 7, 12], lb := [], mu := [], trunc := [], draws := [] }
def t53L0 : TCode := (.seq (.seq (.region [⟨.mov (.loc 0), none, none⟩, ⟨.len .str (.reg 0), none, none⟩, ⟨.bin .gtr (.reg 1) (.cst (.int .i64 0)), (some 3), none⟩])
   (.cond (.loc 3)
    .skip
    (.exit 0)))
   (.block 1
    (.seq (.seq (.region [⟨.mov (.loc 1), none, none⟩, ⟨.mov (.loc 0), none, none⟩, ⟨.indexS (.reg 1) (.cst (.int .i64 0)), none, none⟩, ⟨.call false false 59 [(.reg 0), (.reg 2)], none, none⟩, ⟨.un .not (.reg 3), (some 4), none⟩])
    (.cond (.loc 4)
     (.exit 0)
     .skip))
    (.region [⟨.mov (.loc 0), none, none⟩, ⟨.slice .str (.reg 0) (some (.cst (.int .i64 1))) none none, none, none⟩, ⟨.mov (.reg 1), (some 0), none⟩]))))
def t53 : TFunc := ⟨2, 5, [.loc 2],
 (.seq (.region [⟨.mov (.cst (.str [])), (some 2), none⟩])
 (.seq (.block 0
  (.loop t53L0))
 (.seq (.region [⟨.mov (.loc 0), none, none⟩, ⟨.mov (.reg 0), (some 2), none⟩])
 .ret)))⟩
theorem c53 : compFunc Tryd.prog opts a53 Tryd.f53 = some t53 := by kernel_rfl
def a54 : Ann := { slots := [0, 1, 4, 7, 15], lb := [], mu := [], trunc := [], draws := [] }
def t54L0 : TCode := (.seq (.seq (.region [⟨.mov (.loc 0), none, none⟩, ⟨.len .str (.reg 0), none, none⟩, ⟨.bin .gtr (.reg 1) (.cst (.int .i64 0)), (some 3), none⟩])
   (.cond (.loc 3)
    .skip
    (.exit 0)))
   (.block 1
    (.seq (.seq (.region [⟨.mov (.loc 1), none, none⟩, ⟨.mov (.loc 0), none, none⟩, ⟨.mov (.loc 0), none, none⟩, ⟨.len .str (.reg 2), none, none⟩, ⟨.bin .sub (.reg 3) (.cst (.int .i64 1)), none, none⟩, ⟨.indexS (.reg 1) (.reg 4), none, none⟩, ⟨.call false false 59 [(.reg 0), (.reg 5)], none, none⟩, ⟨.un .not (.reg 6), (some 4), none⟩])
    (.cond (.loc 4)
     (.exit 0)
     .skip))
    (.region [⟨.mov (.loc 0), none, none⟩, ⟨.mov (.loc 0), none, none⟩, ⟨.len .str (.reg 1), none, none⟩, ⟨.bin .sub (.reg 2) (.cst (.int .i64 1)), none, none⟩, ⟨.slice .str (.reg 0) none (some (.reg 3)) none, none, none⟩, ⟨.mov (.reg 4), (some 0), none⟩]))))
def t54 : TFunc := ⟨2, 5, [.loc 2],
 (.seq (.region [⟨.mov (.cst (.str [])), (some 2), none⟩])
 (.seq (.block 0
  (.loop t54L0))
 (.seq (.region [⟨.mov (.loc 0), none, none⟩, ⟨.mov (.reg 0), (some 2), none⟩])
 .ret)))⟩
theorem c54 : compFunc Tryd.prog opts a54 Tryd.f54 = some t54 := by kernel_rfl
def a55 : Ann := { slots := [0, 1, 4, 5, 6, 9, 18], lb := [], mu := [], trunc := [], draws := [] }
def t55L0 : TCode := (.seq (.seq (.region [⟨.mov (.loc 0), none, none⟩, ⟨.len .str (.reg 0), none, none⟩, ⟨.bin .gtr (.reg 1) (.cst (.int .i64 0)), (some 5), none⟩])
   (.cond (.loc 5)
    .skip
    (.exit 0)))
   (.block 1
    (.seq (.region [⟨.mov (.loc 0), none, none⟩, ⟨.call true false 60 [(.reg 0)], none, none⟩, ⟨.mov (.reg 1), none, none⟩, ⟨.extract 0 (.reg 2), none, none⟩, ⟨.extract 1 (.reg 2), none, none⟩, ⟨.mov (.reg 3), (some 3), none⟩, ⟨.mov (.reg 4), (some 4), none⟩])
    (.seq (.seq (.region [⟨.mov (.loc 1), none, none⟩, ⟨.mov (.loc 3), none, none⟩, ⟨.call true false 61 [(.reg 0), (.reg 1)], none, none⟩, ⟨.un .not (.reg 2), (some 6), none⟩])
    (.cond (.loc 6)
     (.exit 0)
     .skip))
    (.region [⟨.mov (.loc 0), none, none⟩, ⟨.mov (.loc 4), none, none⟩, ⟨.slice .str (.reg 0) (some (.reg 1)) none none, none, none⟩, ⟨.mov (.reg 2), (some 0), none⟩])))))
def t55 : TFunc := ⟨2, 7, [.loc 2],
 (.seq (.region [⟨.mov (.cst (.str [])), (some 2), none⟩])
 (.seq (.block 0
  (.loop t55L0))
 (.seq (.region [⟨.mov (.loc 0), none, none⟩, ⟨.mov (.reg 0), (some 2), none⟩])
 .ret)))⟩
theorem c55 : compFunc Tryd.prog opts a55 Tryd.f55 = some t55 := by kernel_rfl
def a56 : Ann := { slots := [0, 1, 4, 5, 6, 9, 17, 26], lb := [], mu := [], trunc := [], draws := [] }
def t56L0 : TCode := (.seq (.seq (.region [⟨.mov (.loc 0), none, none⟩, ⟨.len .str (.reg 0), none, none⟩, ⟨.bin .gtr (.reg 1) (.cst (.int .i64 0)), (some 5), none⟩])
   (.cond (.loc 5)
    .skip
    (.exit 0)))
   (.block 1
    (.seq (.region [⟨.mov (.loc 0), none, none⟩, ⟨.mov (.loc 0), none, none⟩, ⟨.len .str (.reg 1), none, none⟩, ⟨.bin .sub (.reg 2) (.cst (.int .i64 1)), none, none⟩, ⟨.indexS (.reg 0) (.reg 3), none, none⟩, ⟨.conv (.toInt .i32) (.reg 4), none, none⟩, ⟨.mov (.reg 5), (some 3), none⟩, ⟨.mov (.cst (.int .i64 1)), (some 4), none⟩])
    (.seq (.seq (.region [⟨.mov (.loc 3), none, none⟩, ⟨.bin .geq (.reg 0) (.cst (.int .i32 128)), (some 6), none⟩])
    (.cond (.loc 6)
     (.region [⟨.mov (.loc 0), none, none⟩, ⟨.call true false 62 [(.reg 0)], none, none⟩, ⟨.mov (.reg 1), none, none⟩, ⟨.extract 0 (.reg 2), none, none⟩, ⟨.extract 1 (.reg 2), none, none⟩, ⟨.mov (.reg 3), (some 3), none⟩, ⟨.mov (.reg 4), (some 4), none⟩])
     .skip))
    (.seq (.seq (.region [⟨.mov (.loc 1), none, none⟩, ⟨.mov (.loc 3), none, none⟩, ⟨.call true false 61 [(.reg 0), (.reg 1)], none, none⟩, ⟨.un .not (.reg 2), (some 7), none⟩])
    (.cond (.loc 7)
     (.exit 0)
     .skip))
    (.region [⟨.mov (.loc 0), none, none⟩, ⟨.mov (.loc 0), none, none⟩, ⟨.len .str (.reg 1), none, none⟩, ⟨.mov (.loc 4), none, none⟩, ⟨.bin .sub (.reg 2) (.reg 3), none, none⟩, ⟨.slice .str (.reg 0) none (some (.reg 4)) none, none, none⟩, ⟨.mov (.reg 5), (some 0), none⟩]))))))
def t56 : TFunc := ⟨2, 8, [.loc 2],
 (.seq (.region [⟨.mov (.cst (.str [])), (some 2), none⟩])
 (.seq (.block 0
  (.loop t56L0))
 (.seq (.region [⟨.mov (.loc 0), none, none⟩, ⟨.mov (.reg 0), (some 2), none⟩])
 .ret)))⟩
theorem c56 : compFunc Tryd.prog opts a56 Tryd.f56 = some t56 := by kernel_rfl
def a57 : Ann := { slots := [0, 2, 3, 4, 5, 6, 7, 8, 9, 10, 11, 12, 16, 24, 47, 60, 62, 79, 81, 103], lb := [9], mu := [], trunc := [], draws := [] }
def t57 : TFunc := ⟨1, 20, [.loc 1, .loc 2],
 (.seq (.region [⟨.mov (.cst (.int .i32 0)), (some 1), none⟩, ⟨.mov (.cst (.int .i64 0)), (some 2), none⟩])
 (.seq (.region [⟨.mov (.loc 0), none, none⟩, ⟨.len .sl (.reg 0), none, none⟩, ⟨.mov (.reg 1), (some 3), none⟩])
 (.seq (.seq (.region [⟨.mov (.loc 3), none, none⟩, ⟨.bin .lss (.reg 0) (.cst (.int .i64 1)), (some 12), none⟩])
 (.cond (.loc 12)
  (.seq (.region [⟨.mov (.cst (.int .i32 65533)), (some 1), none⟩, ⟨.mov (.cst (.int .i64 0)), (some 2), none⟩])
  .ret)
  .skip))
 (.seq (.region [⟨.mov (.loc 0), none, none⟩, ⟨.indexAddrS 1 (.reg 0) (.cst (.int .i64 0)), none, none⟩, ⟨.load1 (.reg 1), none, none⟩, ⟨.mov (.reg 2), (some 4), none⟩])
 (.seq (.region [⟨.mov (.loc 4), none, none⟩, ⟨.indexAddrA 256 1 (.glob 1) (.reg 0), none, none⟩, ⟨.load1 (.reg 1), none, none⟩, ⟨.mov (.reg 2), (some 5), none⟩])
 (.seq (.seq (.region [⟨.mov (.loc 5), none, none⟩, ⟨.bin .geq (.reg 0) (.cst (.int .u8 240)), (some 13), none⟩])
 (.cond (.loc 13)
  (.seq (.region [⟨.mov (.loc 5), none, none⟩, ⟨.conv (.toInt .i32) (.reg 0), none, none⟩, ⟨.bin .shl (.reg 1) (.cst (.int .u64 31)), none, none⟩, ⟨.bin .shr (.reg 2) (.cst (.int .u64 31)), none, none⟩, ⟨.mov (.reg 3), (some 6), none⟩])
  (.seq (.region [⟨.mov (.loc 0), none, none⟩, ⟨.indexAddrS 1 (.reg 0) (.cst (.int .i64 0)), none, none⟩, ⟨.load1 (.reg 1), none, none⟩, ⟨.conv (.toInt .i32) (.reg 2), none, none⟩, ⟨.mov (.loc 6), none, none⟩, ⟨.bin .andNot (.reg 3) (.reg 4), none, none⟩, ⟨.mov (.loc 6), none, none⟩, ⟨.bin .and (.cst (.int .i32 65533)) (.reg 6), none, none⟩, ⟨.bin .or (.reg 5) (.reg 7), none, none⟩, ⟨.mov (.reg 8), (some 1), none⟩, ⟨.mov (.cst (.int .i64 1)), (some 2), none⟩])
  .ret))
  .skip))
 (.seq (.region [⟨.mov (.loc 5), none, none⟩, ⟨.bin .and (.reg 0) (.cst (.int .u8 7)), none, none⟩, ⟨.conv (.toInt .i64) (.reg 1), none, none⟩, ⟨.mov (.reg 2), (some 7), none⟩])
 (.seq (.region [⟨.mov (.loc 5), none, none⟩, ⟨.bin .shr (.reg 0) (.cst (.int .u64 4)), none, none⟩, ⟨.indexAddrA 16 2 (.glob 2) (.reg 1), none, none⟩, ⟨.loadN 2 (.reg 2), none, none⟩, ⟨.allocL 8 [(.int .u8 0), (.int .u8 0)], none, none⟩, ⟨.store 2 (.reg 4) (.reg 3), none, none⟩])
 (.seq (.seq (.region [⟨.mov (.loc 3), none, none⟩, ⟨.mov (.loc 7), none, none⟩, ⟨.bin .lss (.reg 0) (.reg 1), (some 14), none⟩])
 (.cond (.loc 14)
  (.seq (.region [⟨.mov (.cst (.int .i32 65533)), (some 1), none⟩, ⟨.mov (.cst (.int .i64 1)), (some 2), none⟩])
  .ret)
  .skip))
 (.seq (.region [⟨.mov (.loc 0), none, none⟩, ⟨.indexAddrS 1 (.reg 0) (.cst (.int .i64 1)), none, none⟩, ⟨.load1 (.reg 1), none, none⟩, ⟨.mov (.reg 2), (some 9), none⟩])
 (.seq (.seq (.region [⟨.mov (.loc 9), none, none⟩, ⟨.fieldAddr 0 (.loc 8), none, none⟩, ⟨.load1 (.reg 1), none, none⟩, ⟨.bin .lss (.reg 0) (.reg 2), none, none⟩, ⟨.mov (.reg 3), none, none⟩, ⟨.fieldAddr 1 (.loc 8), none, (some (4, false))⟩, ⟨.load1 (.reg 5), none, (some (4, false))⟩, ⟨.mov (.loc 9), none, (some (4, false))⟩, ⟨.bin .lss (.reg 6) (.reg 7), none, (some (4, false))⟩, ⟨.pick (.reg 4) (.cst (.bool true)) (.reg 8), (some 15), none⟩])
 (.cond (.loc 15)
  (.seq (.region [⟨.mov (.cst (.int .i32 65533)), (some 1), none⟩, ⟨.mov (.cst (.int .i64 1)), (some 2), none⟩])
  .ret)
  .skip))
 (.seq (.seq (.region [⟨.mov (.loc 7), none, none⟩, ⟨.bin .leq (.reg 0) (.cst (.int .i64 2)), (some 16), none⟩])
 (.cond (.loc 16)
  (.seq (.region [⟨.mov (.loc 4), none, none⟩, ⟨.bin .and (.reg 0) (.cst (.int .u8 31)), none, none⟩, ⟨.conv (.toInt .i32) (.reg 1), none, none⟩, ⟨.bin .shl (.reg 2) (.cst (.int .u64 6)), none, none⟩, ⟨.mov (.loc 9), none, none⟩, ⟨.bin .and (.reg 4) (.cst (.int .u8 63)), none, none⟩, ⟨.conv (.toInt .i32) (.reg 5), none, none⟩, ⟨.bin .or (.reg 3) (.reg 6), none, none⟩, ⟨.mov (.reg 7), (some 1), none⟩, ⟨.mov (.cst (.int .i64 2)), (some 2), none⟩])
  .ret)
  .skip))
 (.seq (.region [⟨.mov (.loc 0), none, none⟩, ⟨.indexAddrS 1 (.reg 0) (.cst (.int .i64 2)), none, none⟩, ⟨.load1 (.reg 1), none, none⟩, ⟨.mov (.reg 2), (some 10), none⟩])
 (.seq (.seq (.region [⟨.mov (.loc 10), none, none⟩, ⟨.bin .lss (.reg 0) (.cst (.int .u8 128)), none, none⟩, ⟨.mov (.reg 1), none, none⟩, ⟨.mov (.loc 10), none, (some (2, false))⟩, ⟨.bin .lss (.cst (.int .u8 191)) (.reg 3), none, (some (2, false))⟩, ⟨.pick (.reg 2) (.cst (.bool true)) (.reg 4), (some 17), none⟩])
 (.cond (.loc 17)
  (.seq (.region [⟨.mov (.cst (.int .i32 65533)), (some 1), none⟩, ⟨.mov (.cst (.int .i64 1)), (some 2), none⟩])
  .ret)
  .skip))
 (.seq (.seq (.region [⟨.mov (.loc 7), none, none⟩, ⟨.bin .leq (.reg 0) (.cst (.int .i64 3)), (some 18), none⟩])
 (.cond (.loc 18)
  (.seq (.region [⟨.mov (.loc 4), none, none⟩, ⟨.bin .and (.reg 0) (.cst (.int .u8 15)), none, none⟩, ⟨.conv (.toInt .i32) (.reg 1), none, none⟩, ⟨.bin .shl (.reg 2) (.cst (.int .u64 12)), none, none⟩, ⟨.mov (.loc 9), none, none⟩, ⟨.bin .and (.reg 4) (.cst (.int .u8 63)), none, none⟩, ⟨.conv (.toInt .i32) (.reg 5), none, none⟩, ⟨.bin .shl (.reg 6) (.cst (.int .u64 6)), none, none⟩, ⟨.bin .or (.reg 3) (.reg 7), none, none⟩, ⟨.mov (.loc 10), none, none⟩, ⟨.bin .and (.reg 9) (.cst (.int .u8 63)), none, none⟩, ⟨.conv (.toInt .i32) (.reg 10), none, none⟩, ⟨.bin .or (.reg 8) (.reg 11), none, none⟩, ⟨.mov (.reg 12), (some 1), none⟩, ⟨.mov (.cst (.int .i64 3)), (some 2), none⟩])
  .ret)
  .skip))
 (.seq (.region [⟨.mov (.loc 0), none, none⟩, ⟨.indexAddrS 1 (.reg 0) (.cst (.int .i64 3)), none, none⟩, ⟨.load1 (.reg 1), none, none⟩, ⟨.mov (.reg 2), (some 11), none⟩])
 (.seq (.seq (.region [⟨.mov (.loc 11), none, none⟩, ⟨.bin .lss (.reg 0) (.cst (.int .u8 128)), none, none⟩, ⟨.mov (.reg 1), none, none⟩, ⟨.mov (.loc 11), none, (some (2, false))⟩, ⟨.bin .lss (.cst (.int .u8 191)) (.reg 3), none, (some (2, false))⟩, ⟨.pick (.reg 2) (.cst (.bool true)) (.reg 4), (some 19), none⟩])
 (.cond (.loc 19)
  (.seq (.region [⟨.mov (.cst (.int .i32 65533)), (some 1), none⟩, ⟨.mov (.cst (.int .i64 1)), (some 2), none⟩])
  .ret)
  .skip))
 (.seq (.region [⟨.mov (.loc 4), none, none⟩, ⟨.bin .and (.reg 0) (.cst (.int .u8 7)), none, none⟩, ⟨.conv (.toInt .i32) (.reg 1), none, none⟩, ⟨.bin .shl (.reg 2) (.cst (.int .u64 18)), none, none⟩, ⟨.mov (.loc 9), none, none⟩, ⟨.bin .and (.reg 4) (.cst (.int .u8 63)), none, none⟩, ⟨.conv (.toInt .i32) (.reg 5), none, none⟩, ⟨.bin .shl (.reg 6) (.cst (.int .u64 12)), none, none⟩, ⟨.bin .or (.reg 3) (.reg 7), none, none⟩, ⟨.mov (.loc 10), none, none⟩, ⟨.bin .and (.reg 9) (.cst (.int .u8 63)), none, none⟩, ⟨.conv (.toInt .i32) (.reg 10), none, none⟩, ⟨.bin .shl (.reg 11) (.cst (.int .u64 6)), none, none⟩, ⟨.bin .or (.reg 8) (.reg 12), none, none⟩, ⟨.mov (.loc 11), none, none⟩, ⟨.bin .and (.reg 14) (.cst (.int .u8 63)), none, none⟩, ⟨.conv (.toInt .i32) (.reg 15), none, none⟩, ⟨.bin .or (.reg 13) (.reg 16), none, none⟩, ⟨.mov (.reg 17), (some 1), none⟩, ⟨.mov (.cst (.int .i64 4)), (some 2), none⟩])
 .ret))))))))))))))))))⟩
theorem c57 : compFunc Tryd.prog opts a57 Tryd.f57 = some t57 := by kernel_rfl
def a58 : Ann := { slots := [0, 2, 3, 10], lb := [], mu := [], trunc := [], draws := [] }
def t58 : TFunc := ⟨1, 4, [.loc 1],
 (.seq (.region [⟨.mov (.cst (.bool false)), (some 1), none⟩])
 (.seq (.block 0
  (.seq (.region [⟨.mov (.loc 0), none, none⟩, ⟨.bin .leq (.cst (.int .i32 0)) (.reg 0), none, none⟩, ⟨.mov (.reg 1), none, none⟩, ⟨.mov (.loc 0), none, (some (2, true))⟩, ⟨.bin .lss (.reg 3) (.cst (.int .i32 55296)), none, (some (2, true))⟩, ⟨.pick (.reg 2) (.reg 4) (.cst (.bool false)), none, none⟩, ⟨.mov (.reg 5), (some 2), none⟩])
  (.cond (.loc 2)
   (.seq (.region [⟨.mov (.cst (.bool true)), (some 1), none⟩])
   .ret)
   (.seq (.region [⟨.mov (.loc 0), none, none⟩, ⟨.bin .lss (.cst (.int .i32 57343)) (.reg 0), none, none⟩, ⟨.mov (.reg 1), none, none⟩, ⟨.mov (.loc 0), none, (some (2, true))⟩, ⟨.bin .leq (.reg 3) (.cst (.int .i32 1114111)), none, (some (2, true))⟩, ⟨.pick (.reg 2) (.reg 4) (.cst (.bool false)), none, none⟩, ⟨.mov (.reg 5), (some 3), none⟩])
   (.cond (.loc 3)
    (.seq (.region [⟨.mov (.cst (.bool true)), (some 1), none⟩])
    .ret)
    .skip)))))
 (.seq (.region [⟨.mov (.cst (.bool false)), (some 1), none⟩])
 .ret)))⟩
theorem c58 : compFunc Tryd.prog opts a58 Tryd.f58 = some t58 := by kernel_rfl
def a59 : Ann := { slots := [0, 1, 4], lb := [], mu := [], trunc := [], draws := [] }
def t59 : TFunc := ⟨2, 3, [.loc 2],
 (.seq (.region [⟨.mov (.cst (.bool false)), (some 2), none⟩])
 (.seq (.region [⟨.mov (.loc 0), none, none⟩, ⟨.mov (.loc 1), none, none⟩, ⟨.nilCheck (.reg 0), none, none⟩, ⟨.indexAddrA 256 1 (.reg 2) (.reg 1), none, none⟩, ⟨.load1 (.reg 3), none, none⟩, ⟨.mov (.reg 4), (some 2), none⟩])
 .ret))⟩
theorem c59 : compFunc Tryd.prog opts a59 Tryd.f59 = some t59 := by kernel_rfl
def a60 : Ann := { slots := [0, 2, 3, 10], lb := [], mu := [], trunc := [], draws := [] }
def t60 : TFunc := ⟨1, 4, [.loc 1, .loc 2],
 (.seq (.region [⟨.mov (.cst (.int .i32 0)), (some 1), none⟩, ⟨.mov (.cst (.int .i64 0)), (some 2), none⟩])
 (.seq (.seq (.region [⟨.mov (.loc 0), none, none⟩, ⟨.bin .neq (.reg 0) (.cst (.str [])), none, none⟩, ⟨.mov (.reg 1), none, none⟩, ⟨.mov (.loc 0), none, (some (2, true))⟩, ⟨.indexS (.reg 3) (.cst (.int .i64 0)), none, (some (2, true))⟩, ⟨.bin .lss (.reg 4) (.cst (.int .u8 128)), none, (some (2, true))⟩, ⟨.pick (.reg 2) (.reg 5) (.cst (.bool false)), (some 3), none⟩])
 (.cond (.loc 3)
  (.seq (.region [⟨.mov (.loc 0), none, none⟩, ⟨.indexS (.reg 0) (.cst (.int .i64 0)), none, none⟩, ⟨.conv (.toInt .i32) (.reg 1), none, none⟩, ⟨.mov (.reg 2), (some 1), none⟩, ⟨.mov (.cst (.int .i64 1)), (some 2), none⟩])
  .ret)
  (.region [⟨.mov (.loc 0), none, none⟩, ⟨.call true false 63 [(.reg 0)], none, none⟩, ⟨.mov (.reg 1), none, none⟩, ⟨.extract 0 (.reg 2), none, none⟩, ⟨.extract 1 (.reg 2), none, none⟩, ⟨.mov (.reg 3), (some 1), none⟩, ⟨.mov (.reg 4), (some 2), none⟩])))
 .ret))⟩
theorem c60 : compFunc Tryd.prog opts a60 Tryd.f60 = some t60 := by kernel_rfl
def a61 : Ann := { slots := [0, 1, 4], lb := [], mu := [], trunc := [], draws := [] }
def t61 : TFunc := ⟨2, 3, [.loc 2],
 (.seq (.region [⟨.mov (.cst (.bool false)), (some 2), none⟩])
 (.seq (.region [⟨.mov (.loc 0), none, none⟩, ⟨.mov (.loc 1), none, none⟩, ⟨.call true false 64 [(.reg 0), (.reg 1)], none, none⟩, ⟨.bin .geq (.reg 2) (.cst (.int .i64 0)), none, none⟩, ⟨.mov (.reg 3), (some 2), none⟩])
 .ret))⟩
theorem c61 : compFunc Tryd.prog opts a61 Tryd.f61 = some t61 := by kernel_rfl
def a62 : Ann := { slots := [0, 2, 3, 4, 5, 6, 10, 18, 27, 33, 35, 48], lb := [], mu := [], trunc := [], draws := [] }
def t62L0 : TCode := (.seq (.seq (.region [⟨.mov (.loc 4), none, none⟩, ⟨.mov (.loc 5), none, none⟩, ⟨.bin .geq (.reg 0) (.reg 1), (some 8), none⟩])
   (.cond (.loc 8)
    .skip
    (.exit 0)))
   (.seq (.block 1
    (.seq (.region [⟨.mov (.loc 0), none, none⟩, ⟨.mov (.loc 4), none, none⟩, ⟨.indexS (.reg 0) (.reg 1), none, none⟩, ⟨.call true false 65 [(.reg 2)], (some 9), none⟩])
    (.cond (.loc 9)
     (.exit 0)
     .skip)))
   (.region [⟨.mov (.loc 4), none, none⟩, ⟨.bin .sub (.reg 0) (.cst (.int .i64 1)), none, none⟩, ⟨.mov (.reg 1), (some 4), none⟩])))
def t62 : TFunc := ⟨1, 12, [.loc 1, .loc 2],
 (.seq (.region [⟨.mov (.cst (.int .i32 0)), (some 1), none⟩, ⟨.mov (.cst (.int .i64 0)), (some 2), none⟩])
 (.seq (.region [⟨.mov (.loc 0), none, none⟩, ⟨.len .str (.reg 0), none, none⟩, ⟨.mov (.reg 1), (some 3), none⟩])
 (.seq (.seq (.region [⟨.mov (.loc 3), none, none⟩, ⟨.bin .eql (.reg 0) (.cst (.int .i64 0)), (some 6), none⟩])
 (.cond (.loc 6)
  (.seq (.region [⟨.mov (.cst (.int .i32 65533)), (some 1), none⟩, ⟨.mov (.cst (.int .i64 0)), (some 2), none⟩])
  .ret)
  .skip))
 (.seq (.region [⟨.mov (.loc 3), none, none⟩, ⟨.bin .sub (.reg 0) (.cst (.int .i64 1)), none, none⟩, ⟨.mov (.reg 1), (some 4), none⟩])
 (.seq (.region [⟨.mov (.loc 0), none, none⟩, ⟨.mov (.loc 4), none, none⟩, ⟨.indexS (.reg 0) (.reg 1), none, none⟩, ⟨.conv (.toInt .i32) (.reg 2), none, none⟩, ⟨.mov (.reg 3), (some 1), none⟩])
 (.seq (.seq (.region [⟨.mov (.loc 1), none, none⟩, ⟨.bin .lss (.reg 0) (.cst (.int .i32 128)), (some 7), none⟩])
 (.cond (.loc 7)
  (.seq (.region [⟨.mov (.loc 1), none, none⟩, ⟨.mov (.reg 0), (some 1), none⟩, ⟨.mov (.cst (.int .i64 1)), (some 2), none⟩])
  .ret)
  .skip))
 (.seq (.region [⟨.mov (.loc 3), none, none⟩, ⟨.bin .sub (.reg 0) (.cst (.int .i64 4)), none, none⟩, ⟨.minmax true [(.reg 1), (.cst (.int .i64 0))], none, none⟩, ⟨.mov (.reg 2), (some 5), none⟩])
 (.seq (.seq (.region [⟨.mov (.loc 4), none, none⟩, ⟨.bin .sub (.reg 0) (.cst (.int .i64 1)), none, none⟩, ⟨.mov (.reg 1), (some 4), none⟩])
 (.block 0
  (.loop t62L0)))
 (.seq (.seq (.region [⟨.mov (.loc 4), none, none⟩, ⟨.bin .lss (.reg 0) (.cst (.int .i64 0)), (some 10), none⟩])
 (.cond (.loc 10)
  (.region [⟨.mov (.cst (.int .i64 0)), (some 4), none⟩])
  .skip))
 (.seq (.region [⟨.mov (.loc 0), none, none⟩, ⟨.mov (.loc 4), none, none⟩, ⟨.mov (.loc 3), none, none⟩, ⟨.slice .str (.reg 0) (some (.reg 1)) (some (.reg 2)) none, none, none⟩, ⟨.call true false 60 [(.reg 3)], none, none⟩, ⟨.mov (.reg 4), none, none⟩, ⟨.extract 0 (.reg 5), none, none⟩, ⟨.extract 1 (.reg 5), none, none⟩, ⟨.mov (.reg 6), (some 1), none⟩, ⟨.mov (.reg 7), (some 2), none⟩])
 (.seq (.seq (.region [⟨.mov (.loc 4), none, none⟩, ⟨.mov (.loc 2), none, none⟩, ⟨.bin .add (.reg 0) (.reg 1), none, none⟩, ⟨.mov (.loc 3), none, none⟩, ⟨.bin .neq (.reg 2) (.reg 3), (some 11), none⟩])
 (.cond (.loc 11)
  (.seq (.region [⟨.mov (.cst (.int .i32 65533)), (some 1), none⟩, ⟨.mov (.cst (.int .i64 1)), (some 2), none⟩])
  .ret)
  .skip))
 (.seq (.region [⟨.mov (.loc 1), none, none⟩, ⟨.mov (.loc 2), none, none⟩, ⟨.mov (.reg 0), (some 1), none⟩, ⟨.mov (.reg 1), (some 2), none⟩])
 .ret))))))))))))⟩
theorem c62 : compFunc Tryd.prog opts a62 Tryd.f62 = some t62 := by kernel_rfl
def a63 : Ann := { slots := [0, 2, 3, 4, 5, 6, 7, 8, 9, 10, 11, 12, 16, 23, 45, 57, 59, 75, 77, 98], lb := [9], mu := [], trunc := [], draws := [] }
def t63 : TFunc := ⟨1, 20, [.loc 1, .loc 2],
 (.seq (.region [⟨.mov (.cst (.int .i32 0)), (some 1), none⟩, ⟨.mov (.cst (.int .i64 0)), (some 2), none⟩])
 (.seq (.region [⟨.mov (.loc 0), none, none⟩, ⟨.len .str (.reg 0), none, none⟩, ⟨.mov (.reg 1), (some 3), none⟩])
 (.seq (.seq (.region [⟨.mov (.loc 3), none, none⟩, ⟨.bin .lss (.reg 0) (.cst (.int .i64 1)), (some 12), none⟩])
 (.cond (.loc 12)
  (.seq (.region [⟨.mov (.cst (.int .i32 65533)), (some 1), none⟩, ⟨.mov (.cst (.int .i64 0)), (some 2), none⟩])
  .ret)
  .skip))
 (.seq (.region [⟨.mov (.loc 0), none, none⟩, ⟨.indexS (.reg 0) (.cst (.int .i64 0)), none, none⟩, ⟨.mov (.reg 1), (some 4), none⟩])
 (.seq (.region [⟨.mov (.loc 4), none, none⟩, ⟨.indexAddrA 256 1 (.glob 1) (.reg 0), none, none⟩, ⟨.load1 (.reg 1), none, none⟩, ⟨.mov (.reg 2), (some 5), none⟩])
 (.seq (.seq (.region [⟨.mov (.loc 5), none, none⟩, ⟨.bin .geq (.reg 0) (.cst (.int .u8 240)), (some 13), none⟩])
 (.cond (.loc 13)
  (.seq (.region [⟨.mov (.loc 5), none, none⟩, ⟨.conv (.toInt .i32) (.reg 0), none, none⟩, ⟨.bin .shl (.reg 1) (.cst (.int .u64 31)), none, none⟩, ⟨.bin .shr (.reg 2) (.cst (.int .u64 31)), none, none⟩, ⟨.mov (.reg 3), (some 6), none⟩])
  (.seq (.region [⟨.mov (.loc 0), none, none⟩, ⟨.indexS (.reg 0) (.cst (.int .i64 0)), none, none⟩, ⟨.conv (.toInt .i32) (.reg 1), none, none⟩, ⟨.mov (.loc 6), none, none⟩, ⟨.bin .andNot (.reg 2) (.reg 3), none, none⟩, ⟨.mov (.loc 6), none, none⟩, ⟨.bin .and (.cst (.int .i32 65533)) (.reg 5), none, none⟩, ⟨.bin .or (.reg 4) (.reg 6), none, none⟩, ⟨.mov (.reg 7), (some 1), none⟩, ⟨.mov (.cst (.int .i64 1)), (some 2), none⟩])
  .ret))
  .skip))
 (.seq (.region [⟨.mov (.loc 5), none, none⟩, ⟨.bin .and (.reg 0) (.cst (.int .u8 7)), none, none⟩, ⟨.conv (.toInt .i64) (.reg 1), none, none⟩, ⟨.mov (.reg 2), (some 7), none⟩])
 (.seq (.region [⟨.mov (.loc 5), none, none⟩, ⟨.bin .shr (.reg 0) (.cst (.int .u64 4)), none, none⟩, ⟨.indexAddrA 16 2 (.glob 2) (.reg 1), none, none⟩, ⟨.loadN 2 (.reg 2), none, none⟩, ⟨.allocL 8 [(.int .u8 0), (.int .u8 0)], none, none⟩, ⟨.store 2 (.reg 4) (.reg 3), none, none⟩])
 (.seq (.seq (.region [⟨.mov (.loc 3), none, none⟩, ⟨.mov (.loc 7), none, none⟩, ⟨.bin .lss (.reg 0) (.reg 1), (some 14), none⟩])
 (.cond (.loc 14)
  (.seq (.region [⟨.mov (.cst (.int .i32 65533)), (some 1), none⟩, ⟨.mov (.cst (.int .i64 1)), (some 2), none⟩])
  .ret)
  .skip))
 (.seq (.region [⟨.mov (.loc 0), none, none⟩, ⟨.indexS (.reg 0) (.cst (.int .i64 1)), none, none⟩, ⟨.mov (.reg 1), (some 9), none⟩])
 (.seq (.seq (.region [⟨.mov (.loc 9), none, none⟩, ⟨.fieldAddr 0 (.loc 8), none, none⟩, ⟨.load1 (.reg 1), none, none⟩, ⟨.bin .lss (.reg 0) (.reg 2), none, none⟩, ⟨.mov (.reg 3), none, none⟩, ⟨.fieldAddr 1 (.loc 8), none, (some (4, false))⟩, ⟨.load1 (.reg 5), none, (some (4, false))⟩, ⟨.mov (.loc 9), none, (some (4, false))⟩, ⟨.bin .lss (.reg 6) (.reg 7), none, (some (4, false))⟩, ⟨.pick (.reg 4) (.cst (.bool true)) (.reg 8), (some 15), none⟩])
 (.cond (.loc 15)
  (.seq (.region [⟨.mov (.cst (.int .i32 65533)), (some 1), none⟩, ⟨.mov (.cst (.int .i64 1)), (some 2), none⟩])
  .ret)
  .skip))
 (.seq (.seq (.region [⟨.mov (.loc 7), none, none⟩, ⟨.bin .leq (.reg 0) (.cst (.int .i64 2)), (some 16), none⟩])
 (.cond (.loc 16)
  (.seq (.region [⟨.mov (.loc 4), none, none⟩, ⟨.bin .and (.reg 0) (.cst (.int .u8 31)), none, none⟩, ⟨.conv (.toInt .i32) (.reg 1), none, none⟩, ⟨.bin .shl (.reg 2) (.cst (.int .u64 6)), none, none⟩, ⟨.mov (.loc 9), none, none⟩, ⟨.bin .and (.reg 4) (.cst (.int .u8 63)), none, none⟩, ⟨.conv (.toInt .i32) (.reg 5), none, none⟩, ⟨.bin .or (.reg 3) (.reg 6), none, none⟩, ⟨.mov (.reg 7), (some 1), none⟩, ⟨.mov (.cst (.int .i64 2)), (some 2), none⟩])
  .ret)
  .skip))
 (.seq (.region [⟨.mov (.loc 0), none, none⟩, ⟨.indexS (.reg 0) (.cst (.int .i64 2)), none, none⟩, ⟨.mov (.reg 1), (some 10), none⟩])
 (.seq (.seq (.region [⟨.mov (.loc 10), none, none⟩, ⟨.bin .lss (.reg 0) (.cst (.int .u8 128)), none, none⟩, ⟨.mov (.reg 1), none, none⟩, ⟨.mov (.loc 10), none, (some (2, false))⟩, ⟨.bin .lss (.cst (.int .u8 191)) (.reg 3), none, (some (2, false))⟩, ⟨.pick (.reg 2) (.cst (.bool true)) (.reg 4), (some 17), none⟩])
 (.cond (.loc 17)
  (.seq (.region [⟨.mov (.cst (.int .i32 65533)), (some 1), none⟩, ⟨.mov (.cst (.int .i64 1)), (some 2), none⟩])
  .ret)
  .skip))
 (.seq (.seq (.region [⟨.mov (.loc 7), none, none⟩, ⟨.bin .leq (.reg 0) (.cst (.int .i64 3)), (some 18), none⟩])
 (.cond (.loc 18)
  (.seq (.region [⟨.mov (.loc 4), none, none⟩, ⟨.bin .and (.reg 0) (.cst (.int .u8 15)), none, none⟩, ⟨.conv (.toInt .i32) (.reg 1), none, none⟩, ⟨.bin .shl (.reg 2) (.cst (.int .u64 12)), none, none⟩, ⟨.mov (.loc 9), none, none⟩, ⟨.bin .and (.reg 4) (.cst (.int .u8 63)), none, none⟩, ⟨.conv (.toInt .i32) (.reg 5), none, none⟩, ⟨.bin .shl (.reg 6) (.cst (.int .u64 6)), none, none⟩, ⟨.bin .or (.reg 3) (.reg 7), none, none⟩, ⟨.mov (.loc 10), none, none⟩, ⟨.bin .and (.reg 9) (.cst (.int .u8 63)), none, none⟩, ⟨.conv (.toInt .i32) (.reg 10), none, none⟩, ⟨.bin .or (.reg 8) (.reg 11), none, none⟩, ⟨.mov (.reg 12), (some 1), none⟩, ⟨.mov (.cst (.int .i64 3)), (some 2), none⟩])
  .ret)
  .skip))
 (.seq (.region [⟨.mov (.loc 0), none, none⟩, ⟨.indexS (.reg 0) (.cst (.int .i64 3)), none, none⟩, ⟨.mov (.reg 1), (some 11), none⟩])
 (.seq (.seq (.region [⟨.mov (.loc 11), none, none⟩, ⟨.bin .lss (.reg 0) (.cst (.int .u8 128)), none, none⟩, ⟨.mov (.reg 1), none, none⟩, ⟨.mov (.loc 11), none, (some (2, false))⟩, ⟨.bin .lss (.cst (.int .u8 191)) (.reg 3), none, (some (2, false))⟩, ⟨.pick (.reg 2) (.cst (.bool true)) (.reg 4), (some 19), none⟩])
 (.cond (.loc 19)
  (.seq (.region [⟨.mov (.cst (.int .i32 65533)), (some 1), none⟩, ⟨.mov (.cst (.int .i64 1)), (some 2), none⟩])
  .ret)
  .skip))
 (.seq (.region [⟨.mov (.loc 4), none, none⟩, ⟨.bin .and (.reg 0) (.cst (.int .u8 7)), none, none⟩, ⟨.conv (.toInt .i32) (.reg 1), none, none⟩, ⟨.bin .shl (.reg 2) (.cst (.int .u64 18)), none, none⟩, ⟨.mov (.loc 9), none, none⟩, ⟨.bin .and (.reg 4) (.cst (.int .u8 63)), none, none⟩, ⟨.conv (.toInt .i32) (.reg 5), none, none⟩, ⟨.bin .shl (.reg 6) (.cst (.int .u64 12)), none, none⟩, ⟨.bin .or (.reg 3) (.reg 7), none, none⟩, ⟨.mov (.loc 10), none, none⟩, ⟨.bin .and (.reg 9) (.cst (.int .u8 63)), none, none⟩, ⟨.conv (.toInt .i32) (.reg 10), none, none⟩, ⟨.bin .shl (.reg 11) (.cst (.int .u64 6)), none, none⟩, ⟨.bin .or (.reg 8) (.reg 12), none, none⟩, ⟨.mov (.loc 11), none, none⟩, ⟨.bin .and (.reg 14) (.cst (.int .u8 63)), none, none⟩, ⟨.conv (.toInt .i32) (.reg 15), none, none⟩, ⟨.bin .or (.reg 13) (.reg 16), none, none⟩, ⟨.mov (.reg 17), (some 1), none⟩, ⟨.mov (.cst (.int .i64 4)), (some 2), none⟩])
 .ret))))))))))))))))))⟩
theorem c63 : compFunc Tryd.prog opts a63 Tryd.f63 = some t63 := by kernel_rfl
def a64 : Ann := { slots := [0, 1, 4, 5, 6, 7, 8, 9, 10, 11, 12, 13, 14, 15, 16, 26, 33, 43, 51, 64, 98, 108, 124, 139, 143, 156, 160, 171, 175, 176, 177, 181, 183], lb := [], mu := [], trunc := [], draws := [(6, ⟨[0, 0, 3, 0, 0, 24, 63], [0, 1, 2, 3, 4, 5, 6], []⟩), (7, ⟨[0, 0, 2, 7, 0, 0, 48, 127, 255], [0, 1, 2, 3, 4, 5, 6], [(7, [], [8])]⟩), (14, ⟨[0, 0, 0, 6, 15, 0, 0, 0, 192, 480, 1023], [0, 1, 2, 3, 4, 5, 6, 7, 8, 9, 10], []⟩), (31, ⟨[0, 0, 0, 6, 15, 0, 0, 0, 192, 480, 1023], [0, 1, 2, 3, 4, 5, 6, 7, 8, 9, 10], []⟩)] }
def t64L0 : TCode := (.seq (.region [⟨.nextS (.loc 28), (some 29), none⟩, ⟨.extract 0 (.reg 0), (some 30), none⟩])
      (.seq (.cond (.loc 30)
       .skip
       (.exit 9))
      (.block 10
       (.seq (.region [⟨.extract 1 (.loc 29), none, none⟩, ⟨.extract 2 (.loc 29), none, none⟩, ⟨.mov (.reg 0), (some 3), none⟩, ⟨.mov (.reg 1), (some 4), none⟩])
       (.seq (.region [⟨.mov (.loc 4), none, none⟩, ⟨.bin .eql (.reg 0) (.cst (.int .i32 65533)), (some 31), none⟩])
       (.cond (.loc 31)
        (.seq (.region [⟨.mov (.loc 3), none, none⟩, ⟨.mov (.reg 0), (some 2), none⟩])
        .ret)
        .skip))))))
def t64 : TFunc := ⟨2, 33, [.loc 2],
 (.seq (.region [⟨.mov (.cst (.int .i64 0)), (some 2), none⟩])
 (.block 0
  (.seq (.region [⟨.mov (.loc 1), none, none⟩, ⟨.bin .leq (.cst (.int .i32 0)) (.reg 0), none, none⟩, ⟨.mov (.reg 1), none, none⟩, ⟨.mov (.loc 1), none, (some (2, true))⟩, ⟨.bin .lss (.reg 3) (.cst (.int .i32 128)), none, (some (2, true))⟩, ⟨.pick (.reg 2) (.reg 4) (.cst (.bool false)), none, none⟩, ⟨.mov (.reg 5), (some 26), none⟩])
  (.cond (.loc 26)
   (.seq (.region [⟨.mov (.loc 0), none, none⟩, ⟨.mov (.loc 1), none, none⟩, ⟨.conv (.toInt .u8) (.reg 1), none, none⟩, ⟨.call true false 21 [(.reg 0), (.reg 2)], none, none⟩, ⟨.mov (.reg 3), (some 2), none⟩])
   .ret)
   (.seq (.region [⟨.mov (.loc 1), none, none⟩, ⟨.bin .eql (.reg 0) (.cst (.int .i32 65533)), none, none⟩, ⟨.mov (.reg 1), (some 27), none⟩])
   (.cond (.loc 27)
    (.seq (.seq (.region [⟨.mov (.loc 0), none, none⟩, ⟨.range true (.reg 0), (some 28), none⟩])
    (.block 9
     (.loop t64L0)))
    (.seq (.region [⟨.mov (.cst (.int .i64 (-1))), (some 2), none⟩])
    .ret))
    (.seq (.region [⟨.mov (.loc 1), none, none⟩, ⟨.call true false 58 [(.reg 0)], none, none⟩, ⟨.un .not (.reg 1), none, none⟩, ⟨.mov (.reg 2), (some 32), none⟩])
    (.cond (.loc 32)
     (.seq (.region [⟨.mov (.cst (.int .i64 (-1))), (some 2), none⟩])
     .ret)
     .bad))))))))⟩
theorem c64 : compFunc Tryd.prog opts a64 Tryd.f64 = some t64 := by kernel_rfl
def a65 : Ann := { slots := [0, 2], lb := [], mu := [], trunc := [], draws := [] }
def t65 : TFunc := ⟨1, 2, [.loc 1],
 (.seq (.region [⟨.mov (.cst (.bool false)), (some 1), none⟩])
 (.seq (.region [⟨.mov (.loc 0), none, none⟩, ⟨.bin .and (.reg 0) (.cst (.int .u8 192)), none, none⟩, ⟨.bin .neq (.reg 1) (.cst (.int .u8 128)), none, none⟩, ⟨.mov (.reg 2), (some 1), none⟩])
 .ret))⟩
theorem c65 : compFunc Tryd.prog opts a65 Tryd.f65 = some t65 := by kernel_rfl
def g1 : List IV := [(.int .u8 240), (.int .u8 240), (.int .u8 240), (.int .u8 240), (.int .u8 240), (.int .u8 240), (.int .u8 240), (.int .u8 240), (.int .u8 240), (.int .u8 240), (.int .u8 240), (.int .u8 240), (.int .u8 240), (.int .u8 240), (.int .u8 240), (.int .u8 240), (.int .u8 240), (.int .u8 240), (.int .u8 240), (.int .u8 240), (.int .u8 240), (.int .u8 240), (.int .u8 240), (.int .u8 240), (.int .u8 240), (.int .u8 240), (.int .u8 240), (.int .u8 240), (.int .u8 240), (.int .u8 240), (.int .u8 240), (.int .u8 240), (.int .u8 240), (.int .u8 240), (.int .u8 240), (.int .u8 240), (.int .u8 240), (.int .u8 240), (.int .u8 240), (.int .u8 240), (.int .u8 240), (.int .u8 240), (.int .u8 240), (.int .u8 240), (.int .u8 240), (.int .u8 240), (.int .u8 240), (.int .u8 240), (.int .u8 240), (.int .u8 240), (.int .u8 240), (.int .u8 240), (.int .u8 240), (.int .u8 240), (.int .u8 240), (.int .u8 240), (.int .u8 240), (.int .u8 240), (.int .u8 240), (.int .u8 240), (.int .u8 240), (.int .u8 240), (.int .u8 240), (.int .u8 240), (.int .u8 240), (.int .u8 240), (.int .u8 240), (.int .u8 240), (.int .u8 240), (.int .u8 240), (.int .u8 240), (.int .u8 240), (.int .u8 240), (.int .u8 240), (.int .u8 240), (.int .u8 240), (.int .u8 240), (.int .u8 240), (.int .u8 240), (.int .u8 240), (.int .u8 240), (.int .u8 240), (.int .u8 240), (.int .u8 240), (.int .u8 240), (.int .u8 240), (.int .u8 240), (.int .u8 240), (.int .u8 240), (.int .u8 240), (.int .u8 240), (.int .u8 240), (.int .u8 240), (.int .u8 240), (.int .u8 240), (.int .u8 240), (.int .u8 240), (.int .u8 240), (.int .u8 240), (.int .u8 240), (.int .u8 240), (.int .u8 240), (.int .u8 240), (.int .u8 240), (.int .u8 240), (.int .u8 240), (.int .u8 240), (.int .u8 240), (.int .u8 240), (.int .u8 240), (.int .u8 240), (.int .u8 240), (.int .u8 240), (.int .u8 240), (.int .u8 240), (.int .u8 240), (.int .u8 240), (.int .u8 240), (.int .u8 240), (.int .u8 240), (.int .u8 240), (.int .u8 240), (.int .u8 240), (.int .u8 240), (.int .u8 240), (.int .u8 240), (.int .u8 240), (.int .u8 240), (.int .u8 241), (.int .u8 241), (.int .u8 241), (.int .u8 241), (.int .u8 241), (.int .u8 241), (.int .u8 241), (.int .u8 241), (.int .u8 241), (.int .u8 241), (.int .u8 241), (.int .u8 241), (.int .u8 241), (.int .u8 241), (.int .u8 241), (.int .u8 241), (.int .u8 241), (.int .u8 241), (.int .u8 241), (.int .u8 241), (.int .u8 241), (.int .u8 241), (.int .u8 241), (.int .u8 241), (.int .u8 241), (.int .u8 241), (.int .u8 241), (.int .u8 241), (.int .u8 241), (.int .u8 241), (.int .u8 241), (.int .u8 241), (.int .u8 241), (.int .u8 241), (.int .u8 241), (.int .u8 241), (.int .u8 241), (.int .u8 241), (.int .u8 241), (.int .u8 241), (.int .u8 241), (.int .u8 241), (.int .u8 241), (.int .u8 241), (.int .u8 241), (.int .u8 241), (.int .u8 241), (.int .u8 241), (.int .u8 241), (.int .u8 241), (.int .u8 241), (.int .u8 241), (.int .u8 241), (.int .u8 241), (.int .u8 241), (.int .u8 241), (.int .u8 241), (.int .u8 241), (.int .u8 241), (.int .u8 241), (.int .u8 241), (.int .u8 241), (.int .u8 241), (.int .u8 241), (.int .u8 241), (.int .u8 241), (.int .u8 2), (.int .u8 2), (.int .u8 2), (.int .u8 2), (.int .u8 2), (.int .u8 2), (.int .u8 2), (.int .u8 2), (.int .u8 2), (.int .u8 2), (.int .u8 2), (.int .u8 2), (.int .u8 2), (.int .u8 2), (.int .u8 2), (.int .u8 2), (.int .u8 2), (.int .u8 2), (.int .u8 2), (.int .u8 2), (.int .u8 2), (.int .u8 2), (.int .u8 2), (.int .u8 2), (.int .u8 2), (.int .u8 2), (.int .u8 2), (.int .u8 2), (.int .u8 2), (.int .u8 2), (.int .u8 19), (.int .u8 3), (.int .u8 3), (.int .u8 3), (.int .u8 3), (.int .u8 3), (.int .u8 3), (.int .u8 3), (.int .u8 3), (.int .u8 3), (.int .u8 3), (.int .u8 3), (.int .u8 3), (.int .u8 35), (.int .u8 3), (.int .u8 3), (.int .u8 52), (.int .u8 4), (.int .u8 4), (.int .u8 4), (.int .u8 68), (.int .u8 241), (.int .u8 241), (.int .u8 241), (.int .u8 241), (.int .u8 241), (.int .u8 241), (.int .u8 241), (.int .u8 241), (.int .u8 241), (.int .u8 241), (.int .u8 241)]
def g2 : List IV := [(.int .u8 128), (.int .u8 191), (.int .u8 160), (.int .u8 191), (.int .u8 128), (.int .u8 159), (.int .u8 144), (.int .u8 191), (.int .u8 128), (.int .u8 143), (.int .u8 0), (.int .u8 0), (.int .u8 0), (.int .u8 0), (.int .u8 0), (.int .u8 0), (.int .u8 0), (.int .u8 0), (.int .u8 0), (.int .u8 0), (.int .u8 0), (.int .u8 0), (.int .u8 0), (.int .u8 0), (.int .u8 0), (.int .u8 0), (.int .u8 0), (.int .u8 0), (.int .u8 0), (.int .u8 0), (.int .u8 0), (.int .u8 0)]
def tbl : List (Option TFunc) := [none, none, none, none, some t4, some t5, none, some t7, some t8, some t9, some t10, none, some t12, some t13, some t14, some t15, some t16, some t17, some t18, some t19, some t20, some t21, some t22, some t23, some t24, some t25, some t26, some t27, some t28, some t29, some t30, none, some t32, some t33, some t34, some t35, some t36, some t37, some t38, none, some t40, none, some t42, some t43, some t44, some t45, some t46, some t47, none, some t49, some t50, some t51, some t52, some t53, some t54, some t55, some t56, some t57, some t58, some t59, some t60, some t61, some t62, some t63, some t64, some t65]
def gtbl : List (Option (List IV)) := [none, some g1, some g2]
def K : TM.Prog := ⟨fun k => tbl.getD k none, fun g => gtbl.getD g none, fun f => primAt prims f⟩
def Good (k : Nat) (tf : TFunc) : Prop := ∃ (A : Ann) (fn : Func), Tryd.prog.funcs[k]? = some fn ∧ fn.name ≠ "runtime.NumGoroutine" ∧ compFunc Tryd.prog opts A fn = some tf
theorem n4 : (Tryd.f4.name == "runtime.NumGoroutine") = false := by kernel_rfl
theorem q4 : Good 4 t4 := ⟨a4, Tryd.f4, Tryd.func4, fun e => by have h := n4; rw [e] at h; simp at h, c4⟩
theorem n5 : (Tryd.f5.name == "runtime.NumGoroutine") = false := by kernel_rfl
theorem q5 : Good 5 t5 := ⟨a5, Tryd.f5, Tryd.func5, fun e => by have h := n5; rw [e] at h; simp at h, c5⟩
theorem n7 : (Tryd.f7.name == "runtime.NumGoroutine") = false := by kernel_rfl
theorem q7 : Good 7 t7 := ⟨a7, Tryd.f7, Tryd.func7, fun e => by have h := n7; rw [e] at h; simp at h, c7⟩
theorem n8 : (Tryd.f8.name == "runtime.NumGoroutine") = false := by kernel_rfl
theorem q8 : Good 8 t8 := ⟨a8, Tryd.f8, Tryd.func8, fun e => by have h := n8; rw [e] at h; simp at h, c8⟩
theorem n9 : (Tryd.f9.name == "runtime.NumGoroutine") = false := by kernel_rfl
theorem q9 : Good 9 t9 := ⟨a9, Tryd.f9, Tryd.func9, fun e => by have h := n9; rw [e] at h; simp at h, c9⟩
theorem n10 : (Tryd.f10.name == "runtime.NumGoroutine") = false := by kernel_rfl
theorem q10 : Good 10 t10 := ⟨a10, Tryd.f10, Tryd.func10, fun e => by have h := n10; rw [e] at h; simp at h, c10⟩
theorem n12 : (Tryd.f12.name == "runtime.NumGoroutine") = false := by kernel_rfl
theorem q12 : Good 12 t12 := ⟨a12, Tryd.f12, Tryd.func12, fun e => by have h := n12; rw [e] at h; simp at h, c12⟩
theorem n13 : (Tryd.f13.name == "runtime.NumGoroutine") = false := by kernel_rfl
theorem q13 : Good 13 t13 := ⟨a13, Tryd.f13, Tryd.func13, fun e => by have h := n13; rw [e] at h; simp at h, c13⟩
theorem n14 : (Tryd.f14.name == "runtime.NumGoroutine") = false := by kernel_rfl
theorem q14 : Good 14 t14 := ⟨a14, Tryd.f14, Tryd.func14, fun e => by have h := n14; rw [e] at h; simp at h, c14⟩
theorem n15 : (Tryd.f15.name == "runtime.NumGoroutine") = false := by kernel_rfl
theorem q15 : Good 15 t15 := ⟨a15, Tryd.f15, Tryd.func15, fun e => by have h := n15; rw [e] at h; simp at h, c15⟩
theorem n16 : (Tryd.f16.name == "runtime.NumGoroutine") = false := by kernel_rfl
theorem q16 : Good 16 t16 := ⟨a16, Tryd.f16, Tryd.func16, fun e => by have h := n16; rw [e] at h; simp at h, c16⟩
theorem n17 : (Tryd.f17.name == "runtime.NumGoroutine") = false := by kernel_rfl
theorem q17 : Good 17 t17 := ⟨a17, Tryd.f17, Tryd.func17, fun e => by have h := n17; rw [e] at h; simp at h, c17⟩
theorem n18 : (Tryd.f18.name == "runtime.NumGoroutine") = false := by kernel_rfl
theorem q18 : Good 18 t18 := ⟨a18, Tryd.f18, Tryd.func18, fun e => by have h := n18; rw [e] at h; simp at h, c18⟩
theorem n19 : (Tryd.f19.name == "runtime.NumGoroutine") = false := by kernel_rfl
theorem q19 : Good 19 t19 := ⟨a19, Tryd.f19, Tryd.func19, fun e => by have h := n19; rw [e] at h; simp at h, c19⟩
theorem n20 : (Tryd.f20.name == "runtime.NumGoroutine") = false := by kernel_rfl
theorem q20 : Good 20 t20 := ⟨a20, Tryd.f20, Tryd.func20, fun e => by have h := n20; rw [e] at h; simp at h, c20⟩
theorem n21 : (Tryd.f21.name == "runtime.NumGoroutine") = false := by kernel_rfl
theorem q21 : Good 21 t21 := ⟨a21, Tryd.f21, Tryd.func21, fun e => by have h := n21; rw [e] at h; simp at h, c21⟩
theorem n22 : (Tryd.f22.name == "runtime.NumGoroutine") = false := by kernel_rfl
theorem q22 : Good 22 t22 := ⟨a22, Tryd.f22, Tryd.func22, fun e => by have h := n22; rw [e] at h; simp at h, c22⟩
theorem n23 : (Tryd.f23.name == "runtime.NumGoroutine") = false := by kernel_rfl
theorem q23 : Good 23 t23 := ⟨a23, Tryd.f23, Tryd.func23, fun e => by have h := n23; rw [e] at h; simp at h, c23⟩
theorem n24 : (Tryd.f24.name == "runtime.NumGoroutine") = false := by kernel_rfl
theorem q24 : Good 24 t24 := ⟨a24, Tryd.f24, Tryd.func24, fun e => by have h := n24; rw [e] at h; simp at h, c24⟩
theorem n25 : (Tryd.f25.name == "runtime.NumGoroutine") = false := by kernel_rfl
theorem q25 : Good 25 t25 := ⟨a25, Tryd.f25, Tryd.func25, fun e => by have h := n25; rw [e] at h; simp at h, c25⟩
theorem n26 : (Tryd.f26.name == "runtime.NumGoroutine") = false := by kernel_rfl
theorem q26 : Good 26 t26 := ⟨a26, Tryd.f26, Tryd.func26, fun e => by have h := n26; rw [e] at h; simp at h, c26⟩
theorem n27 : (Tryd.f27.name == "runtime.NumGoroutine") = false := by kernel_rfl
theorem q27 : Good 27 t27 := ⟨a27, Tryd.f27, Tryd.func27, fun e => by have h := n27; rw [e] at h; simp at h, c27⟩
theorem n28 : (Tryd.f28.name == "runtime.NumGoroutine") = false := by kernel_rfl
theorem q28 : Good 28 t28 := ⟨a28, Tryd.f28, Tryd.func28, fun e => by have h := n28; rw [e] at h; simp at h, c28⟩
theorem n29 : (Tryd.f29.name == "runtime.NumGoroutine") = false := by kernel_rfl
theorem q29 : Good 29 t29 := ⟨a29, Tryd.f29, Tryd.func29, fun e => by have h := n29; rw [e] at h; simp at h, c29⟩
theorem n30 : (Tryd.f30.name == "runtime.NumGoroutine") = false := by kernel_rfl
theorem q30 : Good 30 t30 := ⟨a30, Tryd.f30, Tryd.func30, fun e => by have h := n30; rw [e] at h; simp at h, c30⟩
theorem n32 : (Tryd.f32.name == "runtime.NumGoroutine") = false := by kernel_rfl
theorem q32 : Good 32 t32 := ⟨a32, Tryd.f32, Tryd.func32, fun e => by have h := n32; rw [e] at h; simp at h, c32⟩
theorem n33 : (Tryd.f33.name == "runtime.NumGoroutine") = false := by kernel_rfl
theorem q33 : Good 33 t33 := ⟨a33, Tryd.f33, Tryd.func33, fun e => by have h := n33; rw [e] at h; simp at h, c33⟩
theorem n34 : (Tryd.f34.name == "runtime.NumGoroutine") = false := by kernel_rfl
theorem q34 : Good 34 t34 := ⟨a34, Tryd.f34, Tryd.func34, fun e => by have h := n34; rw [e] at h; simp at h, c34⟩
theorem n35 : (Tryd.f35.name == "runtime.NumGoroutine") = false := by kernel_rfl
theorem q35 : Good 35 t35 := ⟨a35, Tryd.f35, Tryd.func35, fun e => by have h := n35; rw [e] at h; simp at h, c35⟩
theorem n36 : (Tryd.f36.name == "runtime.NumGoroutine") = false := by kernel_rfl
theorem q36 : Good 36 t36 := ⟨a36, Tryd.f36, Tryd.func36, fun e => by have h := n36; rw [e] at h; simp at h, c36⟩
theorem n37 : (Tryd.f37.name == "runtime.NumGoroutine") = false := by kernel_rfl
theorem q37 : Good 37 t37 := ⟨a37, Tryd.f37, Tryd.func37, fun e => by have h := n37; rw [e] at h; simp at h, c37⟩
theorem n38 : (Tryd.f38.name == "runtime.NumGoroutine") = false := by kernel_rfl
theorem q38 : Good 38 t38 := ⟨a38, Tryd.f38, Tryd.func38, fun e => by have h := n38; rw [e] at h; simp at h, c38⟩
theorem n40 : (Tryd.f40.name == "runtime.NumGoroutine") = false := by kernel_rfl
theorem q40 : Good 40 t40 := ⟨a40, Tryd.f40, Tryd.func40, fun e => by have h := n40; rw [e] at h; simp at h, c40⟩
theorem n42 : (Tryd.f42.name == "runtime.NumGoroutine") = false := by kernel_rfl
theorem q42 : Good 42 t42 := ⟨a42, Tryd.f42, Tryd.func42, fun e => by have h := n42; rw [e] at h; simp at h, c42⟩
theorem n43 : (Tryd.f43.name == "runtime.NumGoroutine") = false := by kernel_rfl
theorem q43 : Good 43 t43 := ⟨a43, Tryd.f43, Tryd.func43, fun e => by have h := n43; rw [e] at h; simp at h, c43⟩
theorem n44 : (Tryd.f44.name == "runtime.NumGoroutine") = false := by kernel_rfl
theorem q44 : Good 44 t44 := ⟨a44, Tryd.f44, Tryd.func44, fun e => by have h := n44; rw [e] at h; simp at h, c44⟩
theorem n45 : (Tryd.f45.name == "runtime.NumGoroutine") = false := by kernel_rfl
theorem q45 : Good 45 t45 := ⟨a45, Tryd.f45, Tryd.func45, fun e => by have h := n45; rw [e] at h; simp at h, c45⟩
theorem n46 : (Tryd.f46.name == "runtime.NumGoroutine") = false := by kernel_rfl
theorem q46 : Good 46 t46 := ⟨a46, Tryd.f46, Tryd.func46, fun e => by have h := n46; rw [e] at h; simp at h, c46⟩
theorem n47 : (Tryd.f47.name == "runtime.NumGoroutine") = false := by kernel_rfl
theorem q47 : Good 47 t47 := ⟨a47, Tryd.f47, Tryd.func47, fun e => by have h := n47; rw [e] at h; simp at h, c47⟩
theorem n49 : (Tryd.f49.name == "runtime.NumGoroutine") = false := by kernel_rfl
theorem q49 : Good 49 t49 := ⟨a49, Tryd.f49, Tryd.func49, fun e => by have h := n49; rw [e] at h; simp at h, c49⟩
theorem n50 : (Tryd.f50.name == "runtime.NumGoroutine") = false := by kernel_rfl
theorem q50 : Good 50 t50 := ⟨a50, Tryd.f50, Tryd.func50, fun e => by have h := n50; rw [e] at h; simp at h, c50⟩
theorem n51 : (Tryd.f51.name == "runtime.NumGoroutine") = false := by kernel_rfl
theorem q51 : Good 51 t51 := ⟨a51, Tryd.f51, Tryd.func51, fun e => by have h := n51; rw [e] at h; simp at h, c51⟩
theorem n52 : (Tryd.f52.name == "runtime.NumGoroutine") = false := by kernel_rfl
theorem q52 : Good 52 t52 := ⟨a52, Tryd.f52, Tryd.func52, fun e => by have h := n52; rw [e] at h; simp at h, c52⟩
theorem n53 : (Tryd.f53.name == "runtime.NumGoroutine") = false := by kernel_rfl
theorem q53 : Good 53 t53 := ⟨a53, Tryd.f53, Tryd.func53, fun e => by have h := n53; rw [e] at h; simp at h, c53⟩
theorem n54 : (Tryd.f54.name == "runtime.NumGoroutine") = false := by kernel_rfl
theorem q54 : Good 54 t54 := ⟨a54, Tryd.f54, Tryd.func54, fun e => by have h := n54; rw [e] at h; simp at h, c54⟩
theorem n55 : (Tryd.f55.name == "runtime.NumGoroutine") = false := by kernel_rfl
theorem q55 : Good 55 t55 := ⟨a55, Tryd.f55, Tryd.func55, fun e => by have h := n55; rw [e] at h; simp at h, c55⟩
theorem n56 : (Tryd.f56.name == "runtime.NumGoroutine") = false := by kernel_rfl
theorem q56 : Good 56 t56 := ⟨a56, Tryd.f56, Tryd.func56, fun e => by have h := n56; rw [e] at h; simp at h, c56⟩
theorem n57 : (Tryd.f57.name == "runtime.NumGoroutine") = false := by kernel_rfl
theorem q57 : Good 57 t57 := ⟨a57, Tryd.f57, Tryd.func57, fun e => by have h := n57; rw [e] at h; simp at h, c57⟩
theorem n58 : (Tryd.f58.name == "runtime.NumGoroutine") = false := by kernel_rfl
theorem q58 : Good 58 t58 := ⟨a58, Tryd.f58, Tryd.func58, fun e => by have h := n58; rw [e] at h; simp at h, c58⟩
theorem n59 : (Tryd.f59.name == "runtime.NumGoroutine") = false := by kernel_rfl
theorem q59 : Good 59 t59 := ⟨a59, Tryd.f59, Tryd.func59, fun e => by have h := n59; rw [e] at h; simp at h, c59⟩
theorem n60 : (Tryd.f60.name == "runtime.NumGoroutine") = false := by kernel_rfl
theorem q60 : Good 60 t60 := ⟨a60, Tryd.f60, Tryd.func60, fun e => by have h := n60; rw [e] at h; simp at h, c60⟩
theorem n61 : (Tryd.f61.name == "runtime.NumGoroutine") = false := by kernel_rfl
theorem q61 : Good 61 t61 := ⟨a61, Tryd.f61, Tryd.func61, fun e => by have h := n61; rw [e] at h; simp at h, c61⟩
theorem n62 : (Tryd.f62.name == "runtime.NumGoroutine") = false := by kernel_rfl
theorem q62 : Good 62 t62 := ⟨a62, Tryd.f62, Tryd.func62, fun e => by have h := n62; rw [e] at h; simp at h, c62⟩
theorem n63 : (Tryd.f63.name == "runtime.NumGoroutine") = false := by kernel_rfl
theorem q63 : Good 63 t63 := ⟨a63, Tryd.f63, Tryd.func63, fun e => by have h := n63; rw [e] at h; simp at h, c63⟩
theorem n64 : (Tryd.f64.name == "runtime.NumGoroutine") = false := by kernel_rfl
theorem q64 : Good 64 t64 := ⟨a64, Tryd.f64, Tryd.func64, fun e => by have h := n64; rw [e] at h; simp at h, c64⟩
theorem n65 : (Tryd.f65.name == "runtime.NumGoroutine") = false := by kernel_rfl
theorem q65 : Good 65 t65 := ⟨a65, Tryd.f65, Tryd.func65, fun e => by have h := n65; rw [e] at h; simp at h, c65⟩
theorem good : AllAt Good 0 tbl := ⟨q4, q5, q7, q8, q9, q10, q12, q13, q14, q15, q16, q17, q18, q19, q20, q21, q22, q23, q24, q25, q26, q27, q28, q29, q30, q32, q33, q34, q35, q36, q37, q38, q40, q42, q43, q44, q45, q46, q47, q49, q50, q51, q52, q53, q54, q55, q56, q57, q58, q59, q60, q61, q62, q63, q64, q65, trivial⟩
theorem kok : KOK Tryd.prog opts K := ⟨fun k tf h => allAt_get good k tf h, fun f p h => primAt_ok (prims_ok opts K) h, by kernel_rfl⟩
end Go.Proofs.YtpngkgkobapioaaDoor
