/- The functions of this seat, compiled for the evaluator TM; each held against the translation by the kernel. By program. Condition: none. -/
import Derived.Test.YtdbffhgfjmhaiaaDoorPrim
set_option maxRecDepth 100000
set_option linter.unusedVariables false
namespace Go.Proofs.YtdbffhgfjmhaiaaDoor
open Go Go.TM
def opts : Opts := ⟨fun f => ([48, 50, 52, 65, 71, 72, 73, 74, 75, 80, 87, 88, 95, 120, 121, 122, 123, 124, 125, 126, 127] : List Nat).contains f, fun f => ([74, 87, 98, 111] : List Nat).contains f⟩
def a3 : Ann := { slots := [0, 2, 3, 4, 5, 6, 9], lb := [5, 3], mu := [], trunc := [], draws := [] }
def t3 : TFunc := ⟨1, 7, [.loc 1],
 (.seq (.region [⟨.mov (.cst (.bool false)), (some 1), none⟩])
 (.seq (.seq (.region [⟨.mov (.loc 0), none, none⟩, ⟨.len .str (.reg 0), none, none⟩, ⟨.bin .gtr (.reg 1) (.cst (.int .i64 300)), (some 6), none⟩])
 (.cond (.loc 6)
  (.seq (.region [⟨.call true false 11 [], none, none⟩, ⟨.mov (.reg 0), (some 1), none⟩])
  .ret)
  .skip))
 (.seq (.region [⟨.mov (.loc 0), none, none⟩, ⟨.call true false 12 [(.reg 0)], none, none⟩, ⟨.mov (.reg 1), none, none⟩, ⟨.extract 0 (.reg 2), none, none⟩, ⟨.extract 1 (.reg 2), none, none⟩, ⟨.allocL 2 [(.bool false), (.sl .nil [])], none, none⟩, ⟨.store 2 (.reg 5) (.reg 3), none, none⟩, ⟨.mov (.reg 4), (some 3), none⟩])
 (.seq (.region [⟨.mov (.loc 0), none, none⟩, ⟨.call true false 13 [(.reg 0)], none, none⟩, ⟨.mov (.reg 1), none, none⟩, ⟨.extract 0 (.reg 2), none, none⟩, ⟨.extract 1 (.reg 2), none, none⟩, ⟨.allocL 4 [(.bool false), (.sl .nil [])], none, none⟩, ⟨.store 2 (.reg 5) (.reg 3), none, none⟩, ⟨.mov (.reg 4), (some 5), none⟩])
 (.seq (.region [⟨.mov (.loc 3), none, none⟩, ⟨.mov (.loc 5), none, none⟩, ⟨.bin .eql (.reg 0) (.reg 1), none, none⟩, ⟨.mov (.reg 2), none, none⟩, ⟨.loadN 2 (.loc 2), none, (some (3, true))⟩, ⟨.loadN 2 (.loc 4), none, (some (3, true))⟩, ⟨.call true false 14 [(.reg 4), (.reg 5)], none, (some (3, true))⟩, ⟨.pick (.reg 3) (.reg 6) (.cst (.bool false)), none, none⟩, ⟨.mov (.reg 7), none, none⟩, ⟨.call true false 11 [], none, (some (8, true))⟩, ⟨.pick (.reg 8) (.reg 9) (.cst (.bool false)), none, none⟩, ⟨.mov (.reg 10), (some 1), none⟩])
 .ret)))))⟩
theorem c3 : compFunc Tryd.prog opts a3 Tryd.f3 = some t3 := by kernel_rfl
def a4 : Ann := { slots := [0, 1, 2, 4, 5, 6, 7, 8, 9, 10, 18, 34, 41, 65, 76, 87], lb := [7, 5, 2], mu := [], trunc := [], draws := [(4, ⟨[0, 1, 3, 7, 7, 23, 63, 127, 255], [0, 1, 2, 3, 4], [(5, [3], []), (6, [], [7, 8])]⟩), (16, ⟨[0, 1, 0, 0, 0, 24, 60, 127, 255, 511, 1023, 2047], [0, 2, 3, 4, 5, 6], [(1, [5], [7, 8]), (9, [], [10, 11])]⟩)] }
def t4L0 : TCode := (.seq (.seq (.region [⟨.mov (.loc 8), none, none⟩, ⟨.mov (.loc 1), none, none⟩, ⟨.len .str (.reg 1), none, none⟩, ⟨.bin .sub (.reg 2) (.cst (.int .i64 1)), none, none⟩, ⟨.bin .lss (.reg 0) (.reg 3), none, none⟩, ⟨.mov (.reg 4), none, none⟩, ⟨.mov (.loc 1), none, (some (5, true))⟩, ⟨.mov (.loc 8), none, (some (5, true))⟩, ⟨.indexS (.reg 6) (.reg 7), none, (some (5, true))⟩, ⟨.bin .eql (.reg 8) (.cst (.int .u8 48)), none, (some (5, true))⟩, ⟨.pick (.reg 5) (.reg 9) (.cst (.bool false)), (some 14), none⟩])
   (.cond (.loc 14)
    .skip
    (.exit 0)))
   (.block 1
    (.region [⟨.mov (.loc 8), none, none⟩, ⟨.bin .add (.reg 0) (.cst (.int .i64 1)), none, none⟩, ⟨.mov (.reg 1), (some 8), none⟩])))
def t4 : TFunc := ⟨2, 16, [.loc 3],
 (.seq (.region [⟨.boxL 2 (.loc 0), none, none⟩, ⟨.mov (.cst (.bool false)), (some 3), none⟩])
 (.seq (.seq (.region [⟨.loadN 2 (.loc 2), none, none⟩, ⟨.lit false [(.bool false), (.sl .nil [])] 1 [(0, (.reg 0))], none, none⟩, ⟨.call true false 15 [(.reg 1)], none, none⟩, ⟨.mov (.reg 2), none, none⟩, ⟨.mov (.loc 1), none, (some (3, false))⟩, ⟨.len .str (.reg 4), none, (some (3, false))⟩, ⟨.bin .gtr (.reg 5) (.cst (.int .i64 300)), none, (some (3, false))⟩, ⟨.pick (.reg 3) (.cst (.bool true)) (.reg 6), (some 10), none⟩])
 (.cond (.loc 10)
  (.seq (.region [⟨.call true false 11 [], none, none⟩, ⟨.mov (.reg 0), (some 3), none⟩])
  .ret)
  .skip))
 (.seq (.region [⟨.loadN 2 (.loc 2), none, none⟩, ⟨.call true false 16 [(.reg 0)], none, none⟩, ⟨.call true false 12 [(.reg 1)], none, none⟩, ⟨.mov (.reg 2), none, none⟩, ⟨.extract 0 (.reg 3), none, none⟩, ⟨.extract 1 (.reg 3), none, none⟩, ⟨.allocL 4 [(.bool false), (.sl .nil [])], none, none⟩, ⟨.store 2 (.reg 6) (.reg 4), none, none⟩, ⟨.mov (.reg 5), (some 5), none⟩])
 (.seq (.seq (.draw [0, 1, 2, 3, 4] [(5, [3], []), (6, [], [7, 8])] [⟨.mov (.loc 5), none, none⟩, ⟨.bin .neq (.reg 0) (.cst (.int .i64 0)), none, none⟩, ⟨.mov (.reg 1), none, none⟩, ⟨.loadN 2 (.loc 4), none, (some (2, false))⟩, ⟨.loadN 2 (.loc 2), none, (some (2, false))⟩, ⟨.call true false 18 [(.reg 4)], none, (some (2, false))⟩, ⟨.call true false 17 [(.reg 3), (.reg 5)], none, (some (2, false))⟩, ⟨.un .not (.reg 6), none, (some (2, false))⟩, ⟨.pick (.reg 2) (.cst (.bool true)) (.reg 7), (some 11), none⟩])
 (.cond (.loc 11)
  (.seq (.region [⟨.mov (.cst (.bool false)), (some 3), none⟩])
  .ret)
  .skip))
 (.seq (.region [⟨.mov (.loc 1), none, none⟩, ⟨.call true false 12 [(.reg 0)], none, none⟩, ⟨.mov (.reg 1), none, none⟩, ⟨.extract 0 (.reg 2), none, none⟩, ⟨.extract 1 (.reg 2), none, none⟩, ⟨.allocL 6 [(.bool false), (.sl .nil [])], none, none⟩, ⟨.store 2 (.reg 5) (.reg 3), none, none⟩, ⟨.mov (.reg 4), (some 7), none⟩])
 (.seq (.seq (.region [⟨.mov (.loc 7), none, none⟩, ⟨.bin .neq (.reg 0) (.cst (.int .i64 0)), (some 12), none⟩])
 (.cond (.loc 12)
  (.seq (.region [⟨.mov (.loc 7), none, none⟩, ⟨.bin .eql (.reg 0) (.cst (.int .i64 4)), none, none⟩, ⟨.mov (.reg 1), none, none⟩, ⟨.fieldAddr 1 (.loc 6), none, (some (2, true))⟩, ⟨.load1 (.reg 3), none, (some (2, true))⟩, ⟨.len .sl (.reg 4), none, (some (2, true))⟩, ⟨.bin .eql (.reg 5) (.cst (.int .i64 0)), none, (some (2, true))⟩, ⟨.pick (.reg 2) (.reg 6) (.cst (.bool false)), none, none⟩, ⟨.mov (.reg 7), none, none⟩, ⟨.fieldAddr 0 (.loc 6), none, (some (8, true))⟩, ⟨.load1 (.reg 9), none, (some (8, true))⟩, ⟨.un .not (.reg 10), none, (some (8, true))⟩, ⟨.pick (.reg 8) (.reg 11) (.cst (.bool false)), none, none⟩, ⟨.mov (.reg 12), none, none⟩, ⟨.call true false 11 [], none, (some (13, true))⟩, ⟨.pick (.reg 13) (.reg 14) (.cst (.bool false)), none, none⟩, ⟨.mov (.reg 15), (some 3), none⟩])
  .ret)
  .skip))
 (.seq (.region [⟨.mov (.cst (.int .i64 0)), (some 8), none⟩, ⟨.mov (.cst (.str [])), (some 9), none⟩])
 (.seq (.seq (.region [⟨.mov (.loc 1), none, none⟩, ⟨.indexS (.reg 0) (.cst (.int .i64 0)), none, none⟩, ⟨.bin .eql (.reg 1) (.cst (.int .u8 45)), none, none⟩, ⟨.mov (.reg 2), none, none⟩, ⟨.mov (.loc 1), none, (some (3, false))⟩, ⟨.indexS (.reg 4) (.cst (.int .i64 0)), none, (some (3, false))⟩, ⟨.bin .eql (.reg 5) (.cst (.int .u8 43)), none, (some (3, false))⟩, ⟨.pick (.reg 3) (.cst (.bool true)) (.reg 6), (some 13), none⟩])
 (.cond (.loc 13)
  (.region [⟨.mov (.cst (.int .i64 1)), (some 8), none⟩])
  .skip))
 (.seq (.block 0
  (.loop t4L0))
 (.seq (.seq (.region [⟨.mov (.loc 1), none, none⟩, ⟨.indexS (.reg 0) (.cst (.int .i64 0)), none, none⟩, ⟨.bin .eql (.reg 1) (.cst (.int .u8 45)), none, none⟩, ⟨.mov (.reg 2), none, none⟩, ⟨.mov (.loc 1), none, (some (3, true))⟩, ⟨.mov (.loc 8), none, (some (3, true))⟩, ⟨.slice .str (.reg 4) (some (.reg 5)) none none, none, (some (3, true))⟩, ⟨.bin .neq (.reg 6) (.cst (.str [48])), none, (some (3, true))⟩, ⟨.pick (.reg 3) (.reg 7) (.cst (.bool false)), (some 15), none⟩])
 (.cond (.loc 15)
  (.region [⟨.mov (.cst (.str [45])), (some 9), none⟩])
  .skip))
 (.seq (.draw [0, 2, 3, 4, 5, 6] [(1, [5], [7, 8]), (9, [], [10, 11])] [⟨.loadN 2 (.loc 6), none, none⟩, ⟨.call true false 16 [(.reg 0)], none, none⟩, ⟨.mov (.loc 9), none, none⟩, ⟨.mov (.loc 1), none, none⟩, ⟨.mov (.loc 8), none, none⟩, ⟨.slice .str (.reg 3) (some (.reg 4)) none none, none, none⟩, ⟨.bin .add (.reg 2) (.reg 5), none, none⟩, ⟨.bin .eql (.reg 1) (.reg 6), none, none⟩, ⟨.mov (.reg 7), none, none⟩, ⟨.call true false 11 [], none, (some (8, true))⟩, ⟨.pick (.reg 8) (.reg 9) (.cst (.bool false)), none, none⟩, ⟨.mov (.reg 10), (some 3), none⟩])
 .ret)))))))))))⟩
theorem c4 : compFunc Tryd.prog opts a4 Tryd.f4 = some t4 := by kernel_rfl
def a5 : Ann := { slots := [0, 1, 2, 4, 5, 6, 7, 8, 9, 10, 11, 12, 13, 14, 18, 33, 95], lb := [12, 5, 2], mu := [], trunc := [], draws := [(4, ⟨[0, 1, 0, 7, 15, 31, 63, 127, 63, 511, 1023, 2047], [0, 2], [(1, [2], []), (3, [], [4, 5, 6, 8]), (7, [8], []), (9, [], [10, 11])]⟩), (14, ⟨[0, 1, 3, 3, 15, 31, 63, 127, 127, 383, 1023, 2047, 4095, 8191, 16383, 32767], [0, 1, 2, 3, 4, 5, 6, 7, 8], [(9, [7], []), (10, [], [11, 12]), (13, [], [14, 15])]⟩)] }
def t5 : TFunc := ⟨2, 17, [.loc 3],
 (.seq (.region [⟨.boxL 2 (.loc 0), none, none⟩, ⟨.mov (.cst (.bool false)), (some 3), none⟩])
 (.seq (.seq (.region [⟨.fieldAddr 1 (.loc 2), none, none⟩, ⟨.load1 (.reg 0), none, none⟩, ⟨.len .sl (.reg 1), none, none⟩, ⟨.bin .gtr (.reg 2) (.cst (.int .i64 60)), (some 14), none⟩])
 (.cond (.loc 14)
  (.seq (.region [⟨.call true false 11 [], none, none⟩, ⟨.mov (.reg 0), (some 3), none⟩])
  .ret)
  .skip))
 (.seq (.region [⟨.loadN 2 (.loc 2), none, none⟩, ⟨.call true false 19 [(.reg 0)], none, none⟩, ⟨.allocL 4 [(.bool false), (.sl .nil [])], none, none⟩, ⟨.store 2 (.reg 2) (.reg 1), none, none⟩])
 (.seq (.seq (.draw [0, 2] [(1, [2], []), (3, [], [4, 5, 6, 8]), (7, [8], []), (9, [], [10, 11])] [⟨.loadN 2 (.loc 2), none, none⟩, ⟨.call true false 18 [(.reg 0)], none, none⟩, ⟨.loadN 2 (.loc 4), none, none⟩, ⟨.call true false 14 [(.reg 1), (.reg 2)], none, none⟩, ⟨.un .not (.reg 3), none, none⟩, ⟨.mov (.reg 4), none, none⟩, ⟨.loadN 2 (.loc 2), none, (some (5, false))⟩, ⟨.call true false 16 [(.reg 6)], none, (some (5, false))⟩, ⟨.loadN 2 (.loc 4), none, (some (5, false))⟩, ⟨.call true false 20 [(.reg 8)], none, (some (5, false))⟩, ⟨.bin .neq (.reg 7) (.reg 9), none, (some (5, false))⟩, ⟨.pick (.reg 5) (.cst (.bool true)) (.reg 10), (some 15), none⟩])
 (.cond (.loc 15)
  (.seq (.region [⟨.mov (.cst (.bool false)), (some 3), none⟩])
  .ret)
  .skip))
 (.seq (.region [⟨.loadN 2 (.loc 2), none, none⟩, ⟨.call true false 21 [(.reg 0)], none, none⟩, ⟨.mov (.reg 1), none, none⟩, ⟨.extract 0 (.reg 2), none, none⟩, ⟨.extract 1 (.reg 2), none, none⟩, ⟨.mov (.reg 3), (some 5), none⟩, ⟨.mov (.reg 4), (some 6), none⟩])
 (.seq (.region [⟨.loadN 2 (.loc 4), none, none⟩, ⟨.call true false 22 [(.reg 0), (.cst (.str [45, 57, 50, 50, 51, 51, 55, 50, 48, 51, 54, 56, 53, 52, 55, 55, 53, 56, 48, 56])), (.cst (.str [57, 50, 50, 51, 51, 55, 50, 48, 51, 54, 56, 53, 52, 55, 55, 53, 56, 48, 55]))], none, none⟩, ⟨.mov (.reg 1), (some 7), none⟩])
 (.seq (.region [⟨.loadN 2 (.loc 2), none, none⟩, ⟨.call true false 23 [(.reg 0)], none, none⟩, ⟨.mov (.reg 1), none, none⟩, ⟨.extract 0 (.reg 2), none, none⟩, ⟨.extract 1 (.reg 2), none, none⟩, ⟨.mov (.reg 3), (some 8), none⟩, ⟨.mov (.reg 4), (some 9), none⟩])
 (.seq (.region [⟨.loadN 2 (.loc 4), none, none⟩, ⟨.call true false 22 [(.reg 0), (.cst (.str [45, 53, 51, 54, 56, 55, 48, 57, 49, 50])), (.cst (.str [53, 51, 54, 56, 55, 48, 57, 49, 49]))], none, none⟩, ⟨.mov (.reg 1), (some 10), none⟩])
 (.seq (.seq (.region [⟨.mov (.loc 6), none, none⟩, ⟨.mov (.loc 7), none, none⟩, ⟨.eqB true .bool (.reg 0) (.reg 1), none, none⟩, ⟨.mov (.reg 2), none, none⟩, ⟨.mov (.loc 9), none, (some (3, false))⟩, ⟨.mov (.loc 10), none, (some (3, false))⟩, ⟨.eqB true .bool (.reg 4) (.reg 5), none, (some (3, false))⟩, ⟨.pick (.reg 3) (.cst (.bool true)) (.reg 6), none, none⟩, ⟨.mov (.reg 7), none, none⟩, ⟨.mov (.loc 6), none, (some (8, false))⟩, ⟨.un .not (.reg 9), none, (some (8, false))⟩, ⟨.mov (.reg 10), none, (some (8, false))⟩, ⟨.mov (.loc 5), none, (some (11, true))⟩, ⟨.bin .neq (.reg 12) (.cst (.int .i64 0)), none, (some (11, true))⟩, ⟨.pick (.reg 11) (.reg 13) (.cst (.bool false)), none, (some (8, false))⟩, ⟨.pick (.reg 8) (.cst (.bool true)) (.reg 14), none, none⟩, ⟨.mov (.reg 15), none, none⟩, ⟨.mov (.loc 9), none, (some (16, false))⟩, ⟨.un .not (.reg 17), none, (some (16, false))⟩, ⟨.mov (.reg 18), none, (some (16, false))⟩, ⟨.mov (.loc 8), none, (some (19, true))⟩, ⟨.bin .neq (.reg 20) (.cst (.int .i64 0)), none, (some (19, true))⟩, ⟨.pick (.reg 19) (.reg 21) (.cst (.bool false)), none, (some (16, false))⟩, ⟨.pick (.reg 16) (.cst (.bool true)) (.reg 22), none, none⟩, ⟨.mov (.reg 23), none, none⟩, ⟨.mov (.loc 10), none, (some (24, false))⟩, ⟨.mov (.reg 25), none, (some (24, false))⟩, ⟨.mov (.loc 8), none, (some (26, true))⟩, ⟨.loadN 2 (.loc 4), none, (some (26, true))⟩, ⟨.call true false 24 [(.reg 28)], none, (some (26, true))⟩, ⟨.bin .neq (.reg 27) (.reg 29), none, (some (26, true))⟩, ⟨.pick (.reg 26) (.reg 30) (.cst (.bool false)), none, (some (24, false))⟩, ⟨.pick (.reg 24) (.cst (.bool true)) (.reg 31), none, none⟩, ⟨.mov (.reg 32), none, none⟩, ⟨.mov (.loc 6), none, (some (33, false))⟩, ⟨.mov (.reg 34), none, (some (33, false))⟩, ⟨.fieldAddr 1 (.loc 4), none, (some (35, true))⟩, ⟨.load1 (.reg 36), none, (some (35, true))⟩, ⟨.len .sl (.reg 37), none, (some (35, true))⟩, ⟨.bin .leq (.reg 38) (.cst (.int .i64 18)), none, (some (35, true))⟩, ⟨.pick (.reg 35) (.reg 39) (.cst (.bool false)), none, (some (33, false))⟩, ⟨.mov (.reg 40), none, (some (33, false))⟩, ⟨.mov (.loc 5), none, (some (41, true))⟩, ⟨.loadN 2 (.loc 4), none, (some (41, true))⟩, ⟨.call true false 24 [(.reg 43)], none, (some (41, true))⟩, ⟨.bin .neq (.reg 42) (.reg 44), none, (some (41, true))⟩, ⟨.pick (.reg 41) (.reg 45) (.cst (.bool false)), none, (some (33, false))⟩, ⟨.pick (.reg 33) (.cst (.bool true)) (.reg 46), (some 16), none⟩])
 (.cond (.loc 16)
  (.seq (.region [⟨.mov (.cst (.bool false)), (some 3), none⟩])
  .ret)
  .skip))
 (.seq (.region [⟨.mov (.loc 1), none, none⟩, ⟨.call true false 25 [(.reg 0)], none, none⟩, ⟨.allocL 11 [(.bool false), (.sl .nil [])], none, none⟩, ⟨.store 2 (.reg 2) (.reg 1), none, none⟩])
 (.seq (.region [⟨.loadN 2 (.loc 11), none, none⟩, ⟨.call true false 21 [(.reg 0)], none, none⟩, ⟨.mov (.reg 1), none, none⟩, ⟨.extract 0 (.reg 2), none, none⟩, ⟨.extract 1 (.reg 2), none, none⟩, ⟨.mov (.reg 3), (some 12), none⟩, ⟨.mov (.reg 4), (some 13), none⟩])
 (.seq (.draw [0, 1, 2, 3, 4, 5, 6, 7, 8] [(9, [7], []), (10, [], [11, 12]), (13, [], [14, 15])] [⟨.mov (.loc 13), none, none⟩, ⟨.mov (.reg 0), none, none⟩, ⟨.mov (.loc 12), none, (some (1, true))⟩, ⟨.mov (.loc 1), none, (some (1, true))⟩, ⟨.bin .eql (.reg 2) (.reg 3), none, (some (1, true))⟩, ⟨.pick (.reg 1) (.reg 4) (.cst (.bool false)), none, none⟩, ⟨.mov (.reg 5), none, none⟩, ⟨.loadN 2 (.loc 11), none, (some (6, true))⟩, ⟨.loadN 2 (.loc 11), none, (some (6, true))⟩, ⟨.call true false 19 [(.reg 8)], none, (some (6, true))⟩, ⟨.call true false 14 [(.reg 7), (.reg 9)], none, (some (6, true))⟩, ⟨.pick (.reg 6) (.reg 10) (.cst (.bool false)), none, none⟩, ⟨.mov (.reg 11), none, none⟩, ⟨.call true false 11 [], none, (some (12, true))⟩, ⟨.pick (.reg 12) (.reg 13) (.cst (.bool false)), none, none⟩, ⟨.mov (.reg 14), (some 3), none⟩])
 .ret))))))))))))⟩
theorem c5 : compFunc Tryd.prog opts a5 Tryd.f5 = some t5 := by kernel_rfl
def a11 : Ann := { slots := [0, 1, 2], lb := [1], mu := [], trunc := [], draws := [] }
def t11 : TFunc := ⟨0, 3, [.loc 0],
 (.seq (.region [⟨.mov (.cst (.bool false)), (some 0), none⟩])
 (.seq (.region [⟨.call true false 12 [(.cst (.str [45, 48, 48, 48, 54, 53, 53, 51, 55]))], none, none⟩, ⟨.mov (.reg 0), none, none⟩, ⟨.extract 0 (.reg 1), none, none⟩, ⟨.extract 1 (.reg 1), none, none⟩, ⟨.allocL 1 [(.bool false), (.sl .nil [])], none, none⟩, ⟨.store 2 (.reg 4) (.reg 2), none, none⟩, ⟨.mov (.reg 3), (some 2), none⟩])
 (.seq (.region [⟨.mov (.loc 2), none, none⟩, ⟨.bin .eql (.reg 0) (.cst (.int .i64 0)), none, none⟩, ⟨.mov (.reg 1), none, none⟩, ⟨.fieldAddr 0 (.loc 1), none, (some (2, true))⟩, ⟨.load1 (.reg 3), none, (some (2, true))⟩, ⟨.pick (.reg 2) (.reg 4) (.cst (.bool false)), none, none⟩, ⟨.mov (.reg 5), none, none⟩, ⟨.fieldAddr 1 (.loc 1), none, (some (6, true))⟩, ⟨.load1 (.reg 7), none, (some (6, true))⟩, ⟨.len .sl (.reg 8), none, (some (6, true))⟩, ⟨.bin .eql (.reg 9) (.cst (.int .i64 2)), none, (some (6, true))⟩, ⟨.pick (.reg 6) (.reg 10) (.cst (.bool false)), none, none⟩, ⟨.mov (.reg 11), none, none⟩, ⟨.fieldAddr 1 (.loc 1), none, (some (12, true))⟩, ⟨.load1 (.reg 13), none, (some (12, true))⟩, ⟨.indexAddrS 1 (.reg 14) (.cst (.int .i64 0)), none, (some (12, true))⟩, ⟨.load1 (.reg 15), none, (some (12, true))⟩, ⟨.bin .eql (.reg 16) (.cst (.int .u16 1)), none, (some (12, true))⟩, ⟨.pick (.reg 12) (.reg 17) (.cst (.bool false)), none, none⟩, ⟨.mov (.reg 18), none, none⟩, ⟨.fieldAddr 1 (.loc 1), none, (some (19, true))⟩, ⟨.load1 (.reg 20), none, (some (19, true))⟩, ⟨.indexAddrS 1 (.reg 21) (.cst (.int .i64 1)), none, (some (19, true))⟩, ⟨.load1 (.reg 22), none, (some (19, true))⟩, ⟨.bin .eql (.reg 23) (.cst (.int .u16 1)), none, (some (19, true))⟩, ⟨.pick (.reg 19) (.reg 24) (.cst (.bool false)), none, none⟩, ⟨.mov (.reg 25), none, none⟩, ⟨.loadN 2 (.loc 1), none, (some (26, true))⟩, ⟨.call true false 38 [(.reg 27), (.cst (.str [45, 54, 53, 53, 51, 55]))], none, (some (26, true))⟩, ⟨.pick (.reg 26) (.reg 28) (.cst (.bool false)), none, none⟩, ⟨.mov (.reg 29), none, none⟩, ⟨.call true false 37 [(.cst (.str [54, 53, 53, 51, 53]))], none, (some (30, true))⟩, ⟨.call true false 37 [(.cst (.str [54, 53, 53, 51, 55]))], none, (some (30, true))⟩, ⟨.call true false 28 [(.reg 31), (.reg 32)], none, (some (30, true))⟩, ⟨.call true false 38 [(.reg 33), (.cst (.str [52, 50, 57, 52, 57, 54, 55, 50, 57, 53]))], none, (some (30, true))⟩, ⟨.pick (.reg 30) (.reg 34) (.cst (.bool false)), none, none⟩, ⟨.mov (.reg 35), (some 0), none⟩])
 .ret)))⟩
theorem c11 : compFunc Tryd.prog opts a11 Tryd.f11 = some t11 := by kernel_rfl
def a12 : Ann := { slots := [0, 2, 3, 4, 5, 7, 19, 22, 23, 24, 25, 33], lb := [2], mu := [], trunc := [], draws := [] }
def t12L0 : TCode := (.seq (.region [⟨.bin .lss (.loc 9) (.loc 8), (some 10), none⟩])
   (.seq (.cond (.loc 10)
    .skip
    (.exit 0))
   (.seq (.block 1
    (.seq (.region [⟨.indexAddrS 1 (.loc 7) (.loc 9), none, none⟩, ⟨.load1 (.reg 0), none, none⟩, ⟨.mov (.reg 1), (some 5), none⟩])
    (.seq (.seq (.region [⟨.mov (.loc 5), none, none⟩, ⟨.bin .lss (.reg 0) (.cst (.int .u8 48)), none, none⟩, ⟨.mov (.reg 1), none, none⟩, ⟨.mov (.loc 5), none, (some (2, false))⟩, ⟨.bin .gtr (.reg 3) (.cst (.int .u8 57)), none, (some (2, false))⟩, ⟨.pick (.reg 2) (.cst (.bool true)) (.reg 4), (some 11), none⟩])
    (.cond (.loc 11)
     (.seq (.region [⟨.build [(.bool false), (.sl .nil [])] [], none, none⟩, ⟨.store 2 (.loc 1) (.reg 0), none, none⟩, ⟨.mov (.cst (.int .i64 4)), (some 2), none⟩])
     .ret)
     .skip))
    (.region [⟨.mov (.loc 4), none, none⟩, ⟨.mov (.loc 5), none, none⟩, ⟨.bin .sub (.reg 1) (.cst (.int .u8 48)), none, none⟩, ⟨.conv (.toInt .u32) (.reg 2), none, none⟩, ⟨.call true false 41 [(.reg 0), (.cst (.int .u32 10)), (.reg 3)], none, none⟩, ⟨.call true false 40 [(.reg 4)], none, none⟩, ⟨.mov (.reg 5), (some 4), none⟩]))))
   (.region [⟨.bin .add (.loc 9) (.cst (.int .i64 1)), none, none⟩, ⟨.mov (.reg 0), (some 9), none⟩]))))
def t12 : TFunc := ⟨1, 12, [.cell 1 2 true, .loc 2],
 (.seq (.region [⟨.allocL 1 [(.bool false), (.sl .nil [])], none, none⟩, ⟨.mov (.cst (.int .i64 0)), (some 2), none⟩])
 (.seq (.region [⟨.mov (.loc 0), none, none⟩, ⟨.call true false 39 [(.reg 0), (.cst (.str [43, 45]))], none, none⟩, ⟨.mov (.reg 1), (some 3), none⟩])
 (.seq (.seq (.region [⟨.mov (.loc 0), none, none⟩, ⟨.len .str (.reg 0), none, none⟩, ⟨.mov (.loc 3), none, none⟩, ⟨.len .str (.reg 2), none, none⟩, ⟨.bin .sub (.reg 1) (.reg 3), none, none⟩, ⟨.bin .gtr (.reg 4) (.cst (.int .i64 1)), none, none⟩, ⟨.mov (.reg 5), none, none⟩, ⟨.mov (.loc 3), none, (some (6, false))⟩, ⟨.bin .eql (.reg 7) (.cst (.str [])), none, (some (6, false))⟩, ⟨.pick (.reg 6) (.cst (.bool true)) (.reg 8), (some 6), none⟩])
 (.cond (.loc 6)
  (.seq (.region [⟨.build [(.bool false), (.sl .nil [])] [], none, none⟩, ⟨.store 2 (.loc 1) (.reg 0), none, none⟩, ⟨.mov (.cst (.int .i64 4)), (some 2), none⟩])
  .ret)
  .skip))
 (.seq (.region [⟨.mov (.cst (.sl .nil [])), (some 4), none⟩])
 (.seq (.seq (.region [⟨.mov (.loc 3), none, none⟩, ⟨.conv .strBytes (.reg 0), (some 7), none⟩, ⟨.len .sl (.reg 1), (some 8), none⟩, ⟨.mov (.cst (.int .i64 0)), (some 9), none⟩])
 (.block 0
  (.loop t12L0)))
 (.seq (.region [⟨.mov (.loc 0), none, none⟩, ⟨.indexS (.reg 0) (.cst (.int .i64 0)), none, none⟩, ⟨.bin .eql (.reg 1) (.cst (.int .u8 45)), none, none⟩, ⟨.mov (.loc 4), none, none⟩, ⟨.call true false 42 [(.reg 2), (.reg 3)], none, none⟩, ⟨.store 2 (.loc 1) (.reg 4), none, none⟩, ⟨.mov (.cst (.int .i64 0)), (some 2), none⟩])
 .ret))))))⟩
theorem c12 : compFunc Tryd.prog opts a12 Tryd.f12 = some t12 := by kernel_rfl
def a13 : Ann := { slots := [0, 2, 3, 4, 5, 6, 7, 26, 30, 37, 49], lb := [2], mu := [], trunc := [], draws := [] }
def t13L0 : TCode := (.seq (.seq (.region [⟨.mov (.loc 6), none, none⟩, ⟨.mov (.loc 4), none, none⟩, ⟨.bin .geq (.reg 0) (.reg 1), (some 9), none⟩])
   (.cond (.loc 9)
    .skip
    (.exit 0)))
   (.seq (.block 1
    (.seq (.seq (.region [⟨.mov (.loc 0), none, none⟩, ⟨.mov (.loc 6), none, none⟩, ⟨.indexS (.reg 0) (.reg 1), none, none⟩, ⟨.bin .lss (.reg 2) (.cst (.int .u8 48)), none, none⟩, ⟨.mov (.reg 3), none, none⟩, ⟨.mov (.loc 0), none, (some (4, false))⟩, ⟨.mov (.loc 6), none, (some (4, false))⟩, ⟨.indexS (.reg 5) (.reg 6), none, (some (4, false))⟩, ⟨.bin .gtr (.reg 7) (.cst (.int .u8 57)), none, (some (4, false))⟩, ⟨.pick (.reg 4) (.cst (.bool true)) (.reg 8), (some 10), none⟩])
    (.cond (.loc 10)
     (.seq (.region [⟨.build [(.bool false), (.sl .nil [])] [], none, none⟩, ⟨.store 2 (.loc 1) (.reg 0), none, none⟩, ⟨.mov (.cst (.int .i64 4)), (some 2), none⟩])
     .ret)
     .skip))
    (.region [⟨.mov (.loc 5), none, none⟩, ⟨.mov (.loc 0), none, none⟩, ⟨.mov (.loc 6), none, none⟩, ⟨.indexS (.reg 1) (.reg 2), none, none⟩, ⟨.bin .sub (.reg 3) (.cst (.int .u8 48)), none, none⟩, ⟨.conv (.toInt .i64) (.reg 4), none, none⟩, ⟨.lit false [(.int .i64 0)] 1 [(0, (.reg 5))], none, none⟩, ⟨.append false 1 8 3 (.reg 0) (.reg 6), none, none⟩, ⟨.mov (.reg 7), (some 5), none⟩])))
   (.region [⟨.mov (.loc 6), none, none⟩, ⟨.bin .sub (.reg 0) (.cst (.int .i64 1)), none, none⟩, ⟨.mov (.reg 1), (some 6), none⟩])))
def t13 : TFunc := ⟨1, 11, [.cell 1 2 true, .loc 2],
 (.seq (.region [⟨.allocL 1 [(.bool false), (.sl .nil [])], none, none⟩, ⟨.mov (.cst (.int .i64 0)), (some 2), none⟩])
 (.seq (.region [⟨.mov (.loc 0), none, none⟩, ⟨.len .str (.reg 0), none, none⟩, ⟨.bin .gtr (.reg 1) (.cst (.int .i64 0)), none, none⟩, ⟨.mov (.reg 2), none, none⟩, ⟨.mov (.loc 0), none, (some (3, true))⟩, ⟨.indexS (.reg 4) (.cst (.int .i64 0)), none, (some (3, true))⟩, ⟨.bin .eql (.reg 5) (.cst (.int .u8 45)), none, (some (3, true))⟩, ⟨.pick (.reg 3) (.reg 6) (.cst (.bool false)), none, none⟩, ⟨.mov (.reg 7), (some 3), none⟩])
 (.seq (.region [⟨.mov (.cst (.int .i64 0)), (some 4), none⟩])
 (.seq (.seq (.region [⟨.mov (.loc 3), none, none⟩, ⟨.mov (.reg 0), none, none⟩, ⟨.mov (.loc 0), none, (some (1, false))⟩, ⟨.len .str (.reg 2), none, (some (1, false))⟩, ⟨.bin .gtr (.reg 3) (.cst (.int .i64 0)), none, (some (1, false))⟩, ⟨.mov (.reg 4), none, (some (1, false))⟩, ⟨.mov (.loc 0), none, (some (5, true))⟩, ⟨.indexS (.reg 6) (.cst (.int .i64 0)), none, (some (5, true))⟩, ⟨.bin .eql (.reg 7) (.cst (.int .u8 43)), none, (some (5, true))⟩, ⟨.pick (.reg 5) (.reg 8) (.cst (.bool false)), none, (some (1, false))⟩, ⟨.pick (.reg 1) (.cst (.bool true)) (.reg 9), (some 7), none⟩])
 (.cond (.loc 7)
  (.region [⟨.mov (.cst (.int .i64 1)), (some 4), none⟩])
  .skip))
 (.seq (.seq (.region [⟨.mov (.loc 0), none, none⟩, ⟨.len .str (.reg 0), none, none⟩, ⟨.mov (.loc 4), none, none⟩, ⟨.bin .eql (.reg 1) (.reg 2), (some 8), none⟩])
 (.cond (.loc 8)
  (.seq (.region [⟨.build [(.bool false), (.sl .nil [])] [], none, none⟩, ⟨.store 2 (.loc 1) (.reg 0), none, none⟩, ⟨.mov (.cst (.int .i64 4)), (some 2), none⟩])
  .ret)
  .skip))
 (.seq (.region [⟨.mov (.cst (.sl .nil [])), (some 5), none⟩])
 (.seq (.seq (.region [⟨.mov (.loc 0), none, none⟩, ⟨.len .str (.reg 0), none, none⟩, ⟨.bin .sub (.reg 1) (.cst (.int .i64 1)), none, none⟩, ⟨.mov (.reg 2), (some 6), none⟩])
 (.block 0
  (.loop t13L0)))
 (.seq (.region [⟨.mov (.loc 3), none, none⟩, ⟨.mov (.loc 5), none, none⟩, ⟨.call true false 43 [(.reg 0), (.reg 1)], none, none⟩, ⟨.store 2 (.loc 1) (.reg 2), none, none⟩, ⟨.mov (.cst (.int .i64 0)), (some 2), none⟩])
 .ret))))))))⟩
theorem c13 : compFunc Tryd.prog opts a13 Tryd.f13 = some t13 := by kernel_rfl
def a14 : Ann := { slots := [0, 1, 2, 3, 4, 5, 6, 21, 25, 37], lb := [3, 2], mu := [], trunc := [], draws := [(7, ⟨[0, 1, 0, 7, 15, 0, 0, 96, 224, 511], [0, 1, 2, 3, 4, 5, 6, 7, 8, 9], []⟩)] }
def t14L0 : TCode := (.seq (.seq (.region [⟨.mov (.loc 6), none, none⟩, ⟨.mov (.loc 5), none, none⟩, ⟨.len .sl (.reg 1), none, none⟩, ⟨.bin .lss (.reg 0) (.reg 2), (some 8), none⟩])
   (.cond (.loc 8)
    .skip
    (.exit 0)))
   (.seq (.block 1
    (.seq (.draw [0, 1, 2, 3, 4, 5, 6, 7, 8, 9] [] [⟨.fieldAddr 1 (.loc 2), none, none⟩, ⟨.load1 (.reg 0), none, none⟩, ⟨.mov (.loc 6), none, none⟩, ⟨.indexAddrS 1 (.reg 1) (.reg 2), none, none⟩, ⟨.load1 (.reg 3), none, none⟩, ⟨.mov (.loc 5), none, none⟩, ⟨.mov (.loc 6), none, none⟩, ⟨.indexAddrS 1 (.reg 5) (.reg 6), none, none⟩, ⟨.load1 (.reg 7), none, none⟩, ⟨.bin .neq (.reg 4) (.reg 8), (some 9), none⟩])
    (.cond (.loc 9)
     (.seq (.region [⟨.mov (.cst (.bool false)), (some 4), none⟩])
     .ret)
     .skip)))
   (.region [⟨.mov (.loc 6), none, none⟩, ⟨.bin .add (.reg 0) (.cst (.int .i64 1)), none, none⟩, ⟨.mov (.reg 1), (some 6), none⟩])))
def t14 : TFunc := ⟨2, 10, [.loc 4],
 (.seq (.region [⟨.boxL 2 (.loc 0), none, none⟩, ⟨.boxL 3 (.loc 1), none, none⟩, ⟨.mov (.cst (.bool false)), (some 4), none⟩])
 (.seq (.region [⟨.loadN 2 (.loc 3), none, none⟩, ⟨.call true false 44 [(.reg 0)], none, none⟩, ⟨.mov (.reg 1), (some 5), none⟩])
 (.seq (.seq (.region [⟨.fieldAddr 0 (.loc 2), none, none⟩, ⟨.load1 (.reg 0), none, none⟩, ⟨.fieldAddr 0 (.loc 3), none, none⟩, ⟨.load1 (.reg 2), none, none⟩, ⟨.eqB true .bool (.reg 1) (.reg 3), none, none⟩, ⟨.mov (.reg 4), none, none⟩, ⟨.fieldAddr 1 (.loc 2), none, (some (5, false))⟩, ⟨.load1 (.reg 6), none, (some (5, false))⟩, ⟨.len .sl (.reg 7), none, (some (5, false))⟩, ⟨.mov (.loc 5), none, (some (5, false))⟩, ⟨.len .sl (.reg 9), none, (some (5, false))⟩, ⟨.bin .neq (.reg 8) (.reg 10), none, (some (5, false))⟩, ⟨.pick (.reg 5) (.cst (.bool true)) (.reg 11), (some 7), none⟩])
 (.cond (.loc 7)
  (.seq (.region [⟨.mov (.cst (.bool false)), (some 4), none⟩])
  .ret)
  .skip))
 (.seq (.seq (.region [⟨.mov (.cst (.int .i64 0)), (some 6), none⟩])
 (.block 0
  (.loop t14L0)))
 (.seq (.region [⟨.mov (.cst (.bool true)), (some 4), none⟩])
 .ret)))))⟩
theorem c14 : compFunc Tryd.prog opts a14 Tryd.f14 = some t14 := by kernel_rfl
def a15 : Ann := { slots := [0, 2, 3, 7, 16], lb := [], mu := [], trunc := [], draws := [] }
def t15L0 : TCode := (.seq (.seq (.region [⟨.mov (.loc 2), none, none⟩, ⟨.mov (.loc 0), none, none⟩, ⟨.len .sl (.reg 1), none, none⟩, ⟨.bin .lss (.reg 0) (.reg 2), (some 3), none⟩])
   (.cond (.loc 3)
    .skip
    (.exit 0)))
   (.seq (.block 1
    (.seq (.region [⟨.mov (.loc 0), none, none⟩, ⟨.mov (.loc 2), none, none⟩, ⟨.indexAddrS 2 (.reg 0) (.reg 1), none, none⟩, ⟨.fieldAddr 1 (.reg 2), none, none⟩, ⟨.load1 (.reg 3), none, none⟩, ⟨.len .sl (.reg 4), none, none⟩, ⟨.bin .gtr (.reg 5) (.cst (.int .i64 60)), (some 4), none⟩])
    (.cond (.loc 4)
     (.seq (.region [⟨.mov (.cst (.bool true)), (some 1), none⟩])
     .ret)
     .skip)))
   (.region [⟨.mov (.loc 2), none, none⟩, ⟨.bin .add (.reg 0) (.cst (.int .i64 1)), none, none⟩, ⟨.mov (.reg 1), (some 2), none⟩])))
def t15 : TFunc := ⟨1, 5, [.loc 1],
 (.seq (.region [⟨.mov (.cst (.bool false)), (some 1), none⟩])
 (.seq (.seq (.region [⟨.mov (.cst (.int .i64 0)), (some 2), none⟩])
 (.block 0
  (.loop t15L0)))
 (.seq (.region [⟨.mov (.cst (.bool false)), (some 1), none⟩])
 .ret)))⟩
theorem c15 : compFunc Tryd.prog opts a15 Tryd.f15 = some t15 := by kernel_rfl
def a16 : Ann := { slots := [0, 1, 2, 3, 4, 5, 6, 12, 15, 26, 38], lb := [1], mu := [(11, 3)], trunc := [], draws := [] }
def t16L0 : TCode := (.seq (.seq (.region [⟨.mov (.loc 3), none, none⟩, ⟨.len .sl (.reg 0), none, none⟩, ⟨.bin .gtr (.reg 1) (.cst (.int .i64 0)), (some 8), none⟩])
   (.cond (.loc 8)
    .skip
    (.exit 0)))
   (.block 1
    (.seq (.region [⟨.mov (.cst (.int .u32 0)), (some 5), none⟩])
    (.seq (.region [⟨.mov (.loc 3), none, none⟩, ⟨.call true false 45 [(.reg 0), (.cst (.int .u32 10000))], none, none⟩, ⟨.mov (.reg 1), none, none⟩, ⟨.extract 0 (.reg 2), none, none⟩, ⟨.extract 1 (.reg 2), none, none⟩, ⟨.mov (.reg 3), (some 3), none⟩, ⟨.mov (.reg 4), (some 5), none⟩])
    (.seq (.region [⟨.mov (.loc 5), none, none⟩, ⟨.conv (.toInt .i64) (.reg 0), none, none⟩, ⟨.call true false 46 [(.reg 1)], none, none⟩, ⟨.mov (.reg 2), (some 6), none⟩])
    (.seq (.seq (.region [⟨.mov (.loc 3), none, none⟩, ⟨.len .sl (.reg 0), none, none⟩, ⟨.bin .gtr (.reg 1) (.cst (.int .i64 0)), (some 9), none⟩])
    (.cond (.loc 9)
     (.region [⟨.mov (.loc 6), none, none⟩, ⟨.len .str (.reg 0), none, none⟩, ⟨.bin .sub (.cst (.int .i64 4)) (.reg 1), none, none⟩, ⟨.call true false 47 [(.cst (.str [48])), (.reg 2)], none, none⟩, ⟨.mov (.loc 6), none, none⟩, ⟨.bin .add (.reg 3) (.reg 4), none, none⟩, ⟨.mov (.reg 5), (some 6), none⟩])
     .skip))
    (.region [⟨.mov (.loc 4), none, none⟩, ⟨.mov (.loc 6), none, none⟩, ⟨.lit false [(.str [])] 1 [(0, (.reg 1))], none, none⟩, ⟨.append true 1 16 9 (.reg 0) (.reg 2), none, none⟩, ⟨.mov (.reg 3), (some 4), none⟩])))))))
def t16 : TFunc := ⟨1, 11, [.loc 2],
 (.seq (.region [⟨.boxL 1 (.loc 0), none, none⟩, ⟨.mov (.cst (.str [])), (some 2), none⟩])
 (.seq (.region [⟨.fieldAddr 1 (.loc 1), none, none⟩, ⟨.load1 (.reg 0), none, none⟩, ⟨.call true false 40 [(.reg 1)], none, none⟩, ⟨.mov (.reg 2), (some 3), none⟩])
 (.seq (.seq (.region [⟨.mov (.loc 3), none, none⟩, ⟨.len .sl (.reg 0), none, none⟩, ⟨.bin .eql (.reg 1) (.cst (.int .i64 0)), (some 7), none⟩])
 (.cond (.loc 7)
  (.seq (.region [⟨.mov (.cst (.str [48])), (some 2), none⟩])
  .ret)
  .skip))
 (.seq (.region [⟨.mov (.cst (.sl .nil [])), (some 4), none⟩])
 (.seq (.block 0
  (.loop t16L0))
 (.seq (.seq (.region [⟨.fieldAddr 0 (.loc 1), none, none⟩, ⟨.load1 (.reg 0), (some 10), none⟩])
 (.cond (.loc 10)
  (.region [⟨.mov (.loc 4), none, none⟩, ⟨.lit false [(.str [])] 1 [(0, (.cst (.str [45])))], none, none⟩, ⟨.append false 1 16 9 (.reg 0) (.reg 1), none, none⟩, ⟨.mov (.reg 2), (some 4), none⟩])
  .skip))
 (.seq (.region [⟨.mov (.loc 4), none, none⟩, ⟨.call false false 48 [(.reg 0)], none, none⟩])
 (.seq (.region [⟨.mov (.loc 4), none, none⟩, ⟨.call true false 49 [(.reg 0), (.cst (.str []))], none, none⟩, ⟨.mov (.reg 1), (some 2), none⟩])
 .ret))))))))⟩
theorem c16 : compFunc Tryd.prog opts a16 Tryd.f16 = some t16 := by kernel_rfl
def a17 : Ann := { slots := [0, 1, 2, 3, 4, 5, 19, 24, 37], lb := [3, 2], mu := [], trunc := [], draws := [(6, ⟨[0, 1, 0, 7, 15, 0, 32, 0, 224, 480, 1023], [0, 1, 2, 3, 4, 5, 6, 7, 8, 9, 10], []⟩)] }
def t17L0 : TCode := (.seq (.seq (.region [⟨.mov (.loc 5), none, none⟩, ⟨.fieldAddr 1 (.loc 2), none, none⟩, ⟨.load1 (.reg 1), none, none⟩, ⟨.len .sl (.reg 2), none, none⟩, ⟨.bin .lss (.reg 0) (.reg 3), (some 7), none⟩])
   (.cond (.loc 7)
    .skip
    (.exit 0)))
   (.seq (.block 1
    (.seq (.draw [0, 1, 2, 3, 4, 5, 6, 7, 8, 9, 10] [] [⟨.fieldAddr 1 (.loc 2), none, none⟩, ⟨.load1 (.reg 0), none, none⟩, ⟨.mov (.loc 5), none, none⟩, ⟨.indexAddrS 1 (.reg 1) (.reg 2), none, none⟩, ⟨.load1 (.reg 3), none, none⟩, ⟨.fieldAddr 1 (.loc 3), none, none⟩, ⟨.load1 (.reg 5), none, none⟩, ⟨.mov (.loc 5), none, none⟩, ⟨.indexAddrS 1 (.reg 6) (.reg 7), none, none⟩, ⟨.load1 (.reg 8), none, none⟩, ⟨.bin .neq (.reg 4) (.reg 9), (some 8), none⟩])
    (.cond (.loc 8)
     (.seq (.region [⟨.mov (.cst (.bool false)), (some 4), none⟩])
     .ret)
     .skip)))
   (.region [⟨.mov (.loc 5), none, none⟩, ⟨.bin .add (.reg 0) (.cst (.int .i64 1)), none, none⟩, ⟨.mov (.reg 1), (some 5), none⟩])))
def t17 : TFunc := ⟨2, 9, [.loc 4],
 (.seq (.region [⟨.boxL 2 (.loc 0), none, none⟩, ⟨.boxL 3 (.loc 1), none, none⟩, ⟨.mov (.cst (.bool false)), (some 4), none⟩])
 (.seq (.seq (.region [⟨.fieldAddr 0 (.loc 2), none, none⟩, ⟨.load1 (.reg 0), none, none⟩, ⟨.fieldAddr 0 (.loc 3), none, none⟩, ⟨.load1 (.reg 2), none, none⟩, ⟨.eqB true .bool (.reg 1) (.reg 3), none, none⟩, ⟨.mov (.reg 4), none, none⟩, ⟨.fieldAddr 1 (.loc 2), none, (some (5, false))⟩, ⟨.load1 (.reg 6), none, (some (5, false))⟩, ⟨.len .sl (.reg 7), none, (some (5, false))⟩, ⟨.fieldAddr 1 (.loc 3), none, (some (5, false))⟩, ⟨.load1 (.reg 9), none, (some (5, false))⟩, ⟨.len .sl (.reg 10), none, (some (5, false))⟩, ⟨.bin .neq (.reg 8) (.reg 11), none, (some (5, false))⟩, ⟨.pick (.reg 5) (.cst (.bool true)) (.reg 12), (some 6), none⟩])
 (.cond (.loc 6)
  (.seq (.region [⟨.mov (.cst (.bool false)), (some 4), none⟩])
  .ret)
  .skip))
 (.seq (.seq (.region [⟨.mov (.cst (.int .i64 0)), (some 5), none⟩])
 (.block 0
  (.loop t17L0)))
 (.seq (.region [⟨.mov (.cst (.bool true)), (some 4), none⟩])
 .ret))))⟩
theorem c17 : compFunc Tryd.prog opts a17 Tryd.f17 = some t17 := by kernel_rfl
def a18 : Ann := { slots := [0, 1, 2], lb := [2, 1], mu := [], trunc := [], draws := [(1, ⟨[0, 1, 0, 4, 12, 31, 63], [0, 1, 2, 3], [(4, [1], []), (5, [], []), (6, [], [])]⟩)] }
def t18 : TFunc := ⟨1, 3, [.cell 2 2 true],
 (.seq (.region [⟨.boxL 1 (.loc 0), none, none⟩, ⟨.allocL 2 [(.bool false), (.sl .nil [])], none, none⟩])
 (.seq (.draw [0, 1, 2, 3] [(4, [1], []), (5, [], []), (6, [], [])] [⟨.fieldAddr 0 (.loc 1), none, none⟩, ⟨.load1 (.reg 0), none, none⟩, ⟨.fieldAddr 1 (.loc 1), none, none⟩, ⟨.load1 (.reg 2), none, none⟩, ⟨.call false false 50 [(.reg 3)], none, none⟩, ⟨.call true false 42 [(.reg 1), (.reg 4)], none, none⟩, ⟨.store 2 (.loc 2) (.reg 5), none, none⟩])
 .ret))⟩
theorem c18 : compFunc Tryd.prog opts a18 Tryd.f18 = some t18 := by kernel_rfl
def a19 : Ann := { slots := [0, 1, 2], lb := [2, 1], mu := [], trunc := [], draws := [] }
def t19 : TFunc := ⟨1, 3, [.cell 2 2 true],
 (.seq (.region [⟨.boxL 1 (.loc 0), none, none⟩, ⟨.allocL 2 [(.bool false), (.sl .nil [])], none, none⟩])
 (.seq (.region [⟨.fieldAddr 0 (.loc 1), none, none⟩, ⟨.load1 (.reg 0), none, none⟩, ⟨.fieldAddr 1 (.loc 1), none, none⟩, ⟨.load1 (.reg 2), none, none⟩, ⟨.call true false 51 [(.reg 1), (.reg 3)], none, none⟩, ⟨.store 2 (.loc 2) (.reg 4), none, none⟩])
 .ret))⟩
theorem c19 : compFunc Tryd.prog opts a19 Tryd.f19 = some t19 := by kernel_rfl
def a20 : Ann := { slots := [0, 1, 2, 3, 4, 8, 10, 19], lb := [1], mu := [], trunc := [], draws := [] }
def t20L0 : TCode := (.seq (.seq (.region [⟨.mov (.loc 4), none, none⟩, ⟨.bin .geq (.reg 0) (.cst (.int .i64 0)), (some 7), none⟩])
   (.cond (.loc 7)
    .skip
    (.exit 0)))
   (.seq (.block 1
    (.region [⟨.mov (.loc 3), none, none⟩, ⟨.fieldAddr 1 (.loc 1), none, none⟩, ⟨.load1 (.reg 1), none, none⟩, ⟨.mov (.loc 4), none, none⟩, ⟨.indexAddrS 1 (.reg 2) (.reg 3), none, none⟩, ⟨.load1 (.reg 4), none, none⟩, ⟨.bin .add (.cst (.int .i64 48)) (.reg 5), none, none⟩, ⟨.conv (.toInt .u8) (.reg 6), none, none⟩, ⟨.lit false [(.int .u8 0)] 1 [(0, (.reg 7))], none, none⟩, ⟨.append false 1 1 5 (.reg 0) (.reg 8), none, none⟩, ⟨.mov (.reg 9), (some 3), none⟩]))
   (.region [⟨.mov (.loc 4), none, none⟩, ⟨.bin .sub (.reg 0) (.cst (.int .i64 1)), none, none⟩, ⟨.mov (.reg 1), (some 4), none⟩])))
def t20 : TFunc := ⟨1, 8, [.loc 2],
 (.seq (.region [⟨.boxL 1 (.loc 0), none, none⟩, ⟨.mov (.cst (.str [])), (some 2), none⟩])
 (.seq (.seq (.region [⟨.fieldAddr 1 (.loc 1), none, none⟩, ⟨.load1 (.reg 0), none, none⟩, ⟨.len .sl (.reg 1), none, none⟩, ⟨.bin .eql (.reg 2) (.cst (.int .i64 0)), (some 5), none⟩])
 (.cond (.loc 5)
  (.seq (.region [⟨.mov (.cst (.str [48])), (some 2), none⟩])
  .ret)
  .skip))
 (.seq (.region [⟨.mov (.cst (.sl .nil [])), (some 3), none⟩])
 (.seq (.seq (.region [⟨.fieldAddr 0 (.loc 1), none, none⟩, ⟨.load1 (.reg 0), (some 6), none⟩])
 (.cond (.loc 6)
  (.region [⟨.mov (.loc 3), none, none⟩, ⟨.lit false [(.int .u8 0)] 1 [(0, (.cst (.int .u8 45)))], none, none⟩, ⟨.append false 1 1 5 (.reg 0) (.reg 1), none, none⟩, ⟨.mov (.reg 2), (some 3), none⟩])
  .skip))
 (.seq (.seq (.region [⟨.fieldAddr 1 (.loc 1), none, none⟩, ⟨.load1 (.reg 0), none, none⟩, ⟨.len .sl (.reg 1), none, none⟩, ⟨.bin .sub (.reg 2) (.cst (.int .i64 1)), none, none⟩, ⟨.mov (.reg 3), (some 4), none⟩])
 (.block 0
  (.loop t20L0)))
 (.seq (.region [⟨.mov (.loc 3), none, none⟩, ⟨.conv .bytesStr (.reg 0), none, none⟩, ⟨.mov (.reg 1), (some 2), none⟩])
 .ret))))))⟩
theorem c20 : compFunc Tryd.prog opts a20 Tryd.f20 = some t20 := by kernel_rfl
def a21 : Ann := { slots := [0, 1, 2, 3, 4, 5, 7, 13, 15, 16, 17, 23, 33], lb := [1], mu := [], trunc := [], draws := [] }
def t21 : TFunc := ⟨1, 13, [.loc 2, .loc 3],
 (.seq (.region [⟨.boxL 1 (.loc 0), none, none⟩, ⟨.mov (.cst (.int .i64 0)), (some 2), none⟩, ⟨.mov (.cst (.bool false)), (some 3), none⟩])
 (.seq (.region [⟨.fieldAddr 1 (.loc 1), none, none⟩, ⟨.load1 (.reg 0), none, none⟩, ⟨.call true false 40 [(.reg 1)], none, none⟩, ⟨.mov (.reg 2), (some 4), none⟩])
 (.seq (.seq (.region [⟨.mov (.loc 4), none, none⟩, ⟨.len .sl (.reg 0), none, none⟩, ⟨.bin .gtr (.reg 1) (.cst (.int .i64 4)), (some 7), none⟩])
 (.cond (.loc 7)
  (.seq (.region [⟨.mov (.cst (.int .i64 0)), (some 2), none⟩, ⟨.mov (.cst (.bool false)), (some 3), none⟩])
  .ret)
  .skip))
 (.seq (.region [⟨.allocH 80 [(.int .u64 0)], (some 5), none⟩, ⟨.store 1 (.reg 0) (.cst (.int .u64 0)), none, none⟩])
 (.seq (.seq (.region [⟨.mov (.loc 4), none, none⟩, ⟨.call false false 52 [(.reg 0)], (some 8), none⟩])
 (.block 0
  (.rangeFunc (.loc 8) [9, 10]
   (.region [⟨.mov (.loc 10), (some 6), none⟩])
   (.block 1
    (.region [⟨.load1 (.loc 5), none, none⟩, ⟨.bin .shl (.reg 0) (.cst (.int .u64 16)), none, none⟩, ⟨.mov (.loc 6), none, none⟩, ⟨.conv (.toInt .u64) (.reg 2), none, none⟩, ⟨.bin .or (.reg 1) (.reg 3), none, none⟩, ⟨.store 1 (.loc 5) (.reg 4), none, none⟩])))))
 (.seq (.block 2
  (.seq (.region [⟨.fieldAddr 0 (.loc 1), none, none⟩, ⟨.load1 (.reg 0), none, none⟩, ⟨.mov (.reg 1), none, none⟩, ⟨.load1 (.loc 5), none, (some (2, true))⟩, ⟨.bin .leq (.reg 3) (.cst (.int .u64 9223372036854775808)), none, (some (2, true))⟩, ⟨.pick (.reg 2) (.reg 4) (.cst (.bool false)), none, none⟩, ⟨.mov (.reg 5), (some 11), none⟩])
  (.cond (.loc 11)
   (.seq (.region [⟨.load1 (.loc 5), none, none⟩, ⟨.un .neg (.reg 0), none, none⟩, ⟨.conv (.toInt .i64) (.reg 1), none, none⟩, ⟨.mov (.reg 2), (some 2), none⟩, ⟨.mov (.cst (.bool true)), (some 3), none⟩])
   .ret)
   (.seq (.region [⟨.fieldAddr 0 (.loc 1), none, none⟩, ⟨.load1 (.reg 0), none, none⟩, ⟨.un .not (.reg 1), none, none⟩, ⟨.mov (.reg 2), none, none⟩, ⟨.load1 (.loc 5), none, (some (3, true))⟩, ⟨.bin .leq (.reg 4) (.cst (.int .u64 9223372036854775807)), none, (some (3, true))⟩, ⟨.pick (.reg 3) (.reg 5) (.cst (.bool false)), none, none⟩, ⟨.mov (.reg 6), (some 12), none⟩])
   (.cond (.loc 12)
    (.seq (.region [⟨.load1 (.loc 5), none, none⟩, ⟨.conv (.toInt .i64) (.reg 0), none, none⟩, ⟨.mov (.reg 1), (some 2), none⟩, ⟨.mov (.cst (.bool true)), (some 3), none⟩])
    .ret)
    .skip)))))
 (.seq (.region [⟨.mov (.cst (.int .i64 0)), (some 2), none⟩, ⟨.mov (.cst (.bool false)), (some 3), none⟩])
 .ret)))))))⟩
theorem c21 : compFunc Tryd.prog opts a21 Tryd.f21 = some t21 := by kernel_rfl
def a22 : Ann := { slots := [0, 1, 2, 3, 6, 7, 9], lb := [9, 7, 3], mu := [], trunc := [], draws := [] }
def t22 : TFunc := ⟨3, 7, [.loc 4],
 (.seq (.region [⟨.boxL 3 (.loc 0), none, none⟩, ⟨.mov (.cst (.bool false)), (some 4), none⟩])
 (.seq (.region [⟨.mov (.loc 1), none, none⟩, ⟨.call true false 13 [(.reg 0)], none, none⟩, ⟨.mov (.reg 1), none, none⟩, ⟨.extract 0 (.reg 2), none, none⟩, ⟨.extract 1 (.reg 2), none, none⟩, ⟨.allocL 5 [(.bool false), (.sl .nil [])], none, none⟩, ⟨.store 2 (.reg 5) (.reg 3), none, none⟩, ⟨.mov (.reg 4), none, none⟩])
 (.seq (.region [⟨.mov (.loc 2), none, none⟩, ⟨.call true false 13 [(.reg 0)], none, none⟩, ⟨.mov (.reg 1), none, none⟩, ⟨.extract 0 (.reg 2), none, none⟩, ⟨.extract 1 (.reg 2), none, none⟩, ⟨.allocL 6 [(.bool false), (.sl .nil [])], none, none⟩, ⟨.store 2 (.reg 5) (.reg 3), none, none⟩, ⟨.mov (.reg 4), none, none⟩])
 (.seq (.region [⟨.loadN 2 (.loc 3), none, none⟩, ⟨.loadN 2 (.loc 5), none, none⟩, ⟨.call true false 30 [(.reg 0), (.reg 1)], none, none⟩, ⟨.bin .geq (.reg 2) (.cst (.int .i64 0)), none, none⟩, ⟨.mov (.reg 3), none, none⟩, ⟨.loadN 2 (.loc 3), none, (some (4, true))⟩, ⟨.loadN 2 (.loc 6), none, (some (4, true))⟩, ⟨.call true false 30 [(.reg 5), (.reg 6)], none, (some (4, true))⟩, ⟨.bin .leq (.reg 7) (.cst (.int .i64 0)), none, (some (4, true))⟩, ⟨.pick (.reg 4) (.reg 8) (.cst (.bool false)), none, none⟩, ⟨.mov (.reg 9), (some 4), none⟩])
 .ret))))⟩
theorem c22 : compFunc Tryd.prog opts a22 Tryd.f22 = some t22 := by kernel_rfl
def a23 : Ann := { slots := [0, 1, 2, 3, 4, 5, 20], lb := [1], mu := [], trunc := [], draws := [] }
def t23 : TFunc := ⟨1, 7, [.loc 2, .loc 3],
 (.seq (.region [⟨.boxL 1 (.loc 0), none, none⟩, ⟨.mov (.cst (.int .i64 0)), (some 2), none⟩, ⟨.mov (.cst (.bool false)), (some 3), none⟩])
 (.seq (.region [⟨.loadN 2 (.loc 1), none, none⟩, ⟨.call true false 21 [(.reg 0)], none, none⟩, ⟨.mov (.reg 1), none, none⟩, ⟨.extract 0 (.reg 2), none, none⟩, ⟨.extract 1 (.reg 2), none, none⟩, ⟨.mov (.reg 3), (some 4), none⟩, ⟨.mov (.reg 4), (some 5), none⟩])
 (.seq (.seq (.region [⟨.mov (.loc 5), none, none⟩, ⟨.un .not (.reg 0), none, none⟩, ⟨.mov (.reg 1), none, none⟩, ⟨.mov (.loc 4), none, (some (2, false))⟩, ⟨.bin .lss (.reg 3) (.cst (.int .i64 (-536870912))), none, (some (2, false))⟩, ⟨.pick (.reg 2) (.cst (.bool true)) (.reg 4), none, none⟩, ⟨.mov (.reg 5), none, none⟩, ⟨.mov (.loc 4), none, (some (6, false))⟩, ⟨.bin .gtr (.reg 7) (.cst (.int .i64 536870911)), none, (some (6, false))⟩, ⟨.pick (.reg 6) (.cst (.bool true)) (.reg 8), (some 6), none⟩])
 (.cond (.loc 6)
  (.seq (.region [⟨.mov (.cst (.int .i64 0)), (some 2), none⟩, ⟨.mov (.cst (.bool false)), (some 3), none⟩])
  .ret)
  .skip))
 (.seq (.region [⟨.mov (.loc 4), none, none⟩, ⟨.mov (.reg 0), (some 2), none⟩, ⟨.mov (.cst (.bool true)), (some 3), none⟩])
 .ret))))⟩
theorem c23 : compFunc Tryd.prog opts a23 Tryd.f23 = some t23 := by kernel_rfl
def a24 : Ann := { slots := [0, 1, 2, 3, 4, 10, 22], lb := [1], mu := [], trunc := [], draws := [] }
def t24L0 : TCode := (.seq (.seq (.region [⟨.mov (.loc 4), none, none⟩, ⟨.bin .geq (.reg 0) (.cst (.int .i64 0)), (some 5), none⟩])
   (.cond (.loc 5)
    .skip
    (.exit 0)))
   (.seq (.block 1
    (.region [⟨.mov (.loc 3), none, none⟩, ⟨.bin .mul (.cst (.int .i64 10)) (.reg 0), none, none⟩, ⟨.fieldAddr 1 (.loc 1), none, none⟩, ⟨.load1 (.reg 2), none, none⟩, ⟨.mov (.loc 4), none, none⟩, ⟨.indexAddrS 1 (.reg 3) (.reg 4), none, none⟩, ⟨.load1 (.reg 5), none, none⟩, ⟨.bin .add (.reg 1) (.reg 6), none, none⟩, ⟨.mov (.reg 7), (some 3), none⟩]))
   (.region [⟨.mov (.loc 4), none, none⟩, ⟨.bin .sub (.reg 0) (.cst (.int .i64 1)), none, none⟩, ⟨.mov (.reg 1), (some 4), none⟩])))
def t24 : TFunc := ⟨1, 7, [.loc 2],
 (.seq (.region [⟨.boxL 1 (.loc 0), none, none⟩, ⟨.mov (.cst (.int .i64 0)), (some 2), none⟩])
 (.seq (.region [⟨.mov (.cst (.int .i64 0)), (some 3), none⟩])
 (.seq (.seq (.region [⟨.fieldAddr 1 (.loc 1), none, none⟩, ⟨.load1 (.reg 0), none, none⟩, ⟨.len .sl (.reg 1), none, none⟩, ⟨.bin .sub (.reg 2) (.cst (.int .i64 1)), none, none⟩, ⟨.mov (.reg 3), (some 4), none⟩])
 (.block 0
  (.loop t24L0)))
 (.seq (.seq (.region [⟨.fieldAddr 0 (.loc 1), none, none⟩, ⟨.load1 (.reg 0), (some 6), none⟩])
 (.cond (.loc 6)
  (.seq (.region [⟨.mov (.loc 3), none, none⟩, ⟨.un .neg (.reg 0), none, none⟩, ⟨.mov (.reg 1), (some 2), none⟩])
  .ret)
  .skip))
 (.seq (.region [⟨.mov (.loc 3), none, none⟩, ⟨.mov (.reg 0), (some 2), none⟩])
 .ret)))))⟩
theorem c24 : compFunc Tryd.prog opts a24 Tryd.f24 = some t24 := by kernel_rfl
def a25 : Ann := { slots := [0, 2, 3, 4, 8, 12], lb := [2], mu := [], trunc := [], draws := [] }
def t25L0 : TCode := (.seq (.seq (.region [⟨.mov (.loc 2), none, none⟩, ⟨.bin .neq (.reg 0) (.cst (.int .u64 0)), (some 5), none⟩])
   (.cond (.loc 5)
    .skip
    (.exit 0)))
   (.seq (.block 1
    (.region [⟨.mov (.loc 3), none, none⟩, ⟨.mov (.loc 2), none, none⟩, ⟨.conv (.toInt .u16) (.reg 1), none, none⟩, ⟨.lit false [(.int .u16 0)] 1 [(0, (.reg 2))], none, none⟩, ⟨.append false 1 2 55 (.reg 0) (.reg 3), none, none⟩, ⟨.mov (.reg 4), (some 3), none⟩]))
   (.region [⟨.mov (.loc 2), none, none⟩, ⟨.bin .shr (.reg 0) (.cst (.int .u64 16)), none, none⟩, ⟨.mov (.reg 1), (some 2), none⟩])))
def t25 : TFunc := ⟨1, 6, [.cell 1 2 true],
 (.seq (.region [⟨.allocL 1 [(.bool false), (.sl .nil [])], none, none⟩])
 (.seq (.region [⟨.mov (.loc 0), none, none⟩, ⟨.conv (.toInt .u64) (.reg 0), none, none⟩, ⟨.mov (.reg 1), (some 2), none⟩])
 (.seq (.seq (.region [⟨.mov (.loc 0), none, none⟩, ⟨.bin .lss (.reg 0) (.cst (.int .i64 0)), (some 4), none⟩])
 (.cond (.loc 4)
  (.region [⟨.mov (.loc 2), none, none⟩, ⟨.un .neg (.reg 0), none, none⟩, ⟨.mov (.reg 1), (some 2), none⟩])
  .skip))
 (.seq (.region [⟨.mov (.cst (.sl .nil [])), (some 3), none⟩])
 (.seq (.block 0
  (.loop t25L0))
 (.seq (.region [⟨.mov (.loc 0), none, none⟩, ⟨.bin .lss (.reg 0) (.cst (.int .i64 0)), none, none⟩, ⟨.mov (.loc 3), none, none⟩, ⟨.call true false 42 [(.reg 1), (.reg 2)], none, none⟩, ⟨.store 2 (.loc 1) (.reg 3), none, none⟩])
 .ret))))))⟩
theorem c25 : compFunc Tryd.prog opts a25 Tryd.f25 = some t25 := by kernel_rfl
def a26 : Ann := { slots := [0, 1, 2, 3, 4, 5, 19], lb := [4, 3, 2], mu := [], trunc := [], draws := [(2, ⟨[0, 1, 0, 4, 0, 16, 60, 127, 255], [0, 1, 2, 3, 4, 5], [(6, [1], []), (7, [], []), (8, [], [])]⟩), (4, ⟨[0, 1, 0, 4, 12, 0, 32, 124, 252, 511, 1023], [0, 1, 2, 3, 5, 6], [(4, [1, 6], []), (7, [1], []), (8, [1], []), (9, [], []), (10, [], [])]⟩), (5, ⟨[0, 1, 0, 4, 12, 0, 32, 124, 252, 511, 1023], [0, 1, 2, 3, 5, 6], [(4, [1, 6], []), (7, [1], []), (8, [1], []), (9, [], []), (10, [], [])]⟩)] }
def t26 : TFunc := ⟨2, 7, [.cell 4 2 true],
 (.seq (.region [⟨.boxL 2 (.loc 0), none, none⟩, ⟨.boxL 3 (.loc 1), none, none⟩, ⟨.allocL 4 [(.bool false), (.sl .nil [])], none, none⟩])
 (.seq (.block 0
  (.seq (.region [⟨.fieldAddr 0 (.loc 2), none, none⟩, ⟨.load1 (.reg 0), none, none⟩, ⟨.fieldAddr 0 (.loc 3), none, none⟩, ⟨.load1 (.reg 2), none, none⟩, ⟨.eqB false .bool (.reg 1) (.reg 3), none, none⟩, ⟨.mov (.reg 4), (some 5), none⟩])
  (.cond (.loc 5)
   (.seq (.draw [0, 1, 2, 3, 4, 5] [(6, [1], []), (7, [], []), (8, [], [])] [⟨.fieldAddr 0 (.loc 2), none, none⟩, ⟨.load1 (.reg 0), none, none⟩, ⟨.fieldAddr 1 (.loc 2), none, none⟩, ⟨.load1 (.reg 2), none, none⟩, ⟨.fieldAddr 1 (.loc 3), none, none⟩, ⟨.load1 (.reg 4), none, none⟩, ⟨.call true false 53 [(.reg 3), (.reg 5)], none, none⟩, ⟨.call true false 42 [(.reg 1), (.reg 6)], none, none⟩, ⟨.store 2 (.loc 4) (.reg 7), none, none⟩])
   .ret)
   (.seq (.region [⟨.fieldAddr 1 (.loc 2), none, none⟩, ⟨.load1 (.reg 0), none, none⟩, ⟨.fieldAddr 1 (.loc 3), none, none⟩, ⟨.load1 (.reg 2), none, none⟩, ⟨.call true false 54 [(.reg 1), (.reg 3)], none, none⟩, ⟨.bin .geq (.reg 4) (.cst (.int .i64 0)), none, none⟩, ⟨.mov (.reg 5), (some 6), none⟩])
   (.cond (.loc 6)
    (.seq (.draw [0, 1, 2, 3, 5, 6] [(4, [1, 6], []), (7, [1], []), (8, [1], []), (9, [], []), (10, [], [])] [⟨.fieldAddr 0 (.loc 2), none, none⟩, ⟨.load1 (.reg 0), none, none⟩, ⟨.fieldAddr 1 (.loc 2), none, none⟩, ⟨.load1 (.reg 2), none, none⟩, ⟨.call true false 40 [(.reg 3)], none, none⟩, ⟨.fieldAddr 1 (.loc 3), none, none⟩, ⟨.load1 (.reg 5), none, none⟩, ⟨.call true false 40 [(.reg 6)], none, none⟩, ⟨.call true false 55 [(.reg 4), (.reg 7)], none, none⟩, ⟨.call true false 42 [(.reg 1), (.reg 8)], none, none⟩, ⟨.store 2 (.loc 4) (.reg 9), none, none⟩])
    .ret)
    .skip)))))
 (.seq (.draw [0, 1, 2, 3, 5, 6] [(4, [1, 6], []), (7, [1], []), (8, [1], []), (9, [], []), (10, [], [])] [⟨.fieldAddr 0 (.loc 3), none, none⟩, ⟨.load1 (.reg 0), none, none⟩, ⟨.fieldAddr 1 (.loc 3), none, none⟩, ⟨.load1 (.reg 2), none, none⟩, ⟨.call true false 40 [(.reg 3)], none, none⟩, ⟨.fieldAddr 1 (.loc 2), none, none⟩, ⟨.load1 (.reg 5), none, none⟩, ⟨.call true false 40 [(.reg 6)], none, none⟩, ⟨.call true false 55 [(.reg 4), (.reg 7)], none, none⟩, ⟨.call true false 42 [(.reg 1), (.reg 8)], none, none⟩, ⟨.store 2 (.loc 4) (.reg 9), none, none⟩])
 .ret)))⟩
theorem c26 : compFunc Tryd.prog opts a26 Tryd.f26 = some t26 := by kernel_rfl
def a27 : Ann := { slots := [0, 1, 2, 3, 4], lb := [4, 3, 2], mu := [], trunc := [], draws := [] }
def t27 : TFunc := ⟨2, 5, [.cell 4 2 true],
 (.seq (.region [⟨.boxL 2 (.loc 0), none, none⟩, ⟨.boxL 3 (.loc 1), none, none⟩, ⟨.allocL 4 [(.bool false), (.sl .nil [])], none, none⟩])
 (.seq (.region [⟨.loadN 2 (.loc 2), none, none⟩, ⟨.fieldAddr 0 (.loc 3), none, none⟩, ⟨.load1 (.reg 1), none, none⟩, ⟨.un .not (.reg 2), none, none⟩, ⟨.fieldAddr 1 (.loc 3), none, none⟩, ⟨.load1 (.reg 4), none, none⟩, ⟨.build [(.bool false), (.sl .nil [])] [(0, 1, (.reg 3)), (1, 1, (.reg 5))], none, none⟩, ⟨.call true false 26 [(.reg 0), (.reg 6)], none, none⟩, ⟨.store 2 (.loc 4) (.reg 7), none, none⟩])
 .ret))⟩
theorem c27 : compFunc Tryd.prog opts a27 Tryd.f27 = some t27 := by kernel_rfl
def a28 : Ann := { slots := [0, 1, 2, 3, 4, 5, 6, 7, 8, 9, 10, 20, 21, 22, 23, 28, 29, 30, 31], lb := [4, 3, 2], mu := [], trunc := [], draws := [] }
def t28L0 : TCode := (.seq (.region [⟨.bin .lss (.loc 17) (.loc 16), (some 18), none⟩])
      (.seq (.cond (.loc 18)
       .skip
       (.exit 2))
      (.seq (.block 3
       (.seq (.region [⟨.mov (.loc 17), none, none⟩, ⟨.indexAddrS 1 (.loc 15) (.loc 17), none, none⟩, ⟨.load1 (.reg 1), none, none⟩, ⟨.mov (.reg 0), (some 9), none⟩, ⟨.mov (.reg 2), (some 10), none⟩])
       (.seq (.region [⟨.mov (.loc 8), none, none⟩, ⟨.mov (.loc 7), none, none⟩, ⟨.conv (.toInt .u32) (.reg 1), none, none⟩, ⟨.mov (.loc 10), none, none⟩, ⟨.conv (.toInt .u32) (.reg 3), none, none⟩, ⟨.bin .mul (.reg 2) (.reg 4), none, none⟩, ⟨.mov (.loc 5), none, none⟩, ⟨.mov (.loc 6), none, none⟩, ⟨.mov (.loc 9), none, none⟩, ⟨.bin .add (.reg 7) (.reg 8), none, none⟩, ⟨.indexAddrS 1 (.reg 6) (.reg 9), none, none⟩, ⟨.load1 (.reg 10), none, none⟩, ⟨.conv (.toInt .u32) (.reg 11), none, none⟩, ⟨.bin .add (.reg 5) (.reg 12), none, none⟩, ⟨.bin .add (.reg 0) (.reg 13), none, none⟩, ⟨.mov (.reg 14), (some 8), none⟩])
       (.seq (.region [⟨.mov (.loc 5), none, none⟩, ⟨.mov (.loc 6), none, none⟩, ⟨.mov (.loc 9), none, none⟩, ⟨.bin .add (.reg 1) (.reg 2), none, none⟩, ⟨.mov (.loc 8), none, none⟩, ⟨.conv (.toInt .u16) (.reg 4), none, none⟩, ⟨.indexAddrS 1 (.reg 0) (.reg 3), none, none⟩, ⟨.store 1 (.reg 6) (.reg 5), none, none⟩])
       (.region [⟨.mov (.loc 8), none, none⟩, ⟨.bin .shr (.reg 0) (.cst (.int .u64 16)), none, none⟩, ⟨.mov (.reg 1), (some 8), none⟩])))))
      (.region [⟨.bin .add (.loc 17) (.cst (.int .i64 1)), none, none⟩, ⟨.mov (.reg 0), (some 17), none⟩]))))
def t28L1 : TCode := (.seq (.region [⟨.bin .lss (.loc 13) (.loc 12), (some 14), none⟩])
   (.seq (.cond (.loc 14)
    .skip
    (.exit 0))
   (.seq (.block 1
    (.seq (.region [⟨.mov (.loc 13), none, none⟩, ⟨.indexAddrS 1 (.loc 11) (.loc 13), none, none⟩, ⟨.load1 (.reg 1), none, none⟩, ⟨.mov (.reg 0), (some 6), none⟩, ⟨.mov (.reg 2), (some 7), none⟩])
    (.seq (.region [⟨.mov (.cst (.int .u32 0)), (some 8), none⟩])
    (.seq (.seq (.region [⟨.fieldAddr 1 (.loc 3), none, none⟩, ⟨.load1 (.reg 0), (some 15), none⟩, ⟨.len .sl (.reg 1), (some 16), none⟩, ⟨.mov (.cst (.int .i64 0)), (some 17), none⟩])
    (.block 2
     (.loop t28L0)))
    (.region [⟨.mov (.loc 5), none, none⟩, ⟨.mov (.loc 6), none, none⟩, ⟨.fieldAddr 1 (.loc 3), none, none⟩, ⟨.load1 (.reg 2), none, none⟩, ⟨.len .sl (.reg 3), none, none⟩, ⟨.bin .add (.reg 1) (.reg 4), none, none⟩, ⟨.mov (.loc 8), none, none⟩, ⟨.conv (.toInt .u16) (.reg 6), none, none⟩, ⟨.indexAddrS 1 (.reg 0) (.reg 5), none, none⟩, ⟨.store 1 (.reg 8) (.reg 7), none, none⟩])))))
   (.region [⟨.bin .add (.loc 13) (.cst (.int .i64 1)), none, none⟩, ⟨.mov (.reg 0), (some 13), none⟩]))))
def t28 : TFunc := ⟨2, 19, [.cell 4 2 true],
 (.seq (.region [⟨.boxL 2 (.loc 0), none, none⟩, ⟨.boxL 3 (.loc 1), none, none⟩, ⟨.allocL 4 [(.bool false), (.sl .nil [])], none, none⟩])
 (.seq (.region [⟨.fieldAddr 1 (.loc 2), none, none⟩, ⟨.load1 (.reg 0), none, none⟩, ⟨.len .sl (.reg 1), none, none⟩, ⟨.fieldAddr 1 (.loc 3), none, none⟩, ⟨.load1 (.reg 3), none, none⟩, ⟨.len .sl (.reg 4), none, none⟩, ⟨.bin .add (.reg 2) (.reg 5), none, none⟩, ⟨.mkSlice [(.int .u16 0)] 2 (.reg 6) (.reg 6), none, none⟩, ⟨.mov (.reg 7), (some 5), none⟩])
 (.seq (.seq (.region [⟨.fieldAddr 1 (.loc 2), none, none⟩, ⟨.load1 (.reg 0), (some 11), none⟩, ⟨.len .sl (.reg 1), (some 12), none⟩, ⟨.mov (.cst (.int .i64 0)), (some 13), none⟩])
 (.block 0
  (.loop t28L1)))
 (.seq (.region [⟨.fieldAddr 0 (.loc 2), none, none⟩, ⟨.load1 (.reg 0), none, none⟩, ⟨.fieldAddr 0 (.loc 3), none, none⟩, ⟨.load1 (.reg 2), none, none⟩, ⟨.eqB true .bool (.reg 1) (.reg 3), none, none⟩, ⟨.mov (.loc 5), none, none⟩, ⟨.call true false 42 [(.reg 4), (.reg 5)], none, none⟩, ⟨.store 2 (.loc 4) (.reg 6), none, none⟩])
 .ret))))⟩
theorem c28 : compFunc Tryd.prog opts a28 Tryd.f28 = some t28 := by kernel_rfl
def a29 : Ann := { slots := [0, 1, 2, 3, 4, 5, 6, 11, 23, 26], lb := [6, 5, 3, 2], mu := [], trunc := [], draws := [(1, ⟨[0, 1, 0, 7, 0, 0, 63, 127], [0, 2, 4, 5], [(1, [2], []), (3, [], []), (6, [], []), (7, [], [])]⟩)] }
def t29 : TFunc := ⟨2, 10, [.loc 4],
 (.seq (.region [⟨.boxL 2 (.loc 0), none, none⟩, ⟨.boxL 3 (.loc 1), none, none⟩, ⟨.mov (.cst (.int .i64 0)), (some 4), none⟩])
 (.seq (.draw [0, 2, 4, 5] [(1, [2], []), (3, [], []), (6, [], []), (7, [], [])] [⟨.loadN 2 (.loc 2), none, none⟩, ⟨.call true false 18 [(.reg 0)], none, none⟩, ⟨.loadN 2 (.loc 3), none, none⟩, ⟨.call true false 18 [(.reg 2)], none, none⟩, ⟨.allocH 26 [(.bool false), (.sl .nil [])], (some 5), none⟩, ⟨.allocH 26 [(.bool false), (.sl .nil [])], (some 6), none⟩, ⟨.store 2 (.reg 4) (.reg 1), none, none⟩, ⟨.store 2 (.reg 5) (.reg 3), none, none⟩])
 (.seq (.block 0
  (.seq (.region [⟨.fieldAddr 0 (.loc 5), none, none⟩, ⟨.load1 (.reg 0), none, none⟩, ⟨.mov (.reg 1), none, none⟩, ⟨.fieldAddr 0 (.loc 6), none, (some (2, true))⟩, ⟨.load1 (.reg 3), none, (some (2, true))⟩, ⟨.pick (.reg 2) (.reg 4) (.cst (.bool false)), none, none⟩, ⟨.mov (.reg 5), (some 7), none⟩])
  (.cond (.loc 7)
   (.seq (.region [⟨.fieldAddr 1 (.loc 6), none, none⟩, ⟨.load1 (.reg 0), none, none⟩, ⟨.fieldAddr 1 (.loc 5), none, none⟩, ⟨.load1 (.reg 2), none, none⟩, ⟨.call true false 54 [(.reg 1), (.reg 3)], none, none⟩, ⟨.mov (.reg 4), (some 4), none⟩])
   .ret)
   (.seq (.region [⟨.fieldAddr 0 (.loc 5), none, none⟩, ⟨.load1 (.reg 0), none, none⟩, ⟨.mov (.reg 1), (some 8), none⟩])
   (.cond (.loc 8)
    (.seq (.region [⟨.mov (.cst (.int .i64 (-1))), (some 4), none⟩])
    .ret)
    (.seq (.region [⟨.fieldAddr 0 (.loc 6), none, none⟩, ⟨.load1 (.reg 0), none, none⟩, ⟨.mov (.reg 1), (some 9), none⟩])
    (.cond (.loc 9)
     (.seq (.region [⟨.mov (.cst (.int .i64 1)), (some 4), none⟩])
     .ret)
     .skip)))))))
 (.seq (.region [⟨.fieldAddr 1 (.loc 5), none, none⟩, ⟨.load1 (.reg 0), none, none⟩, ⟨.fieldAddr 1 (.loc 6), none, none⟩, ⟨.load1 (.reg 2), none, none⟩, ⟨.call true false 54 [(.reg 1), (.reg 3)], none, none⟩, ⟨.mov (.reg 4), (some 4), none⟩])
 .ret))))⟩
theorem c29 : compFunc Tryd.prog opts a29 Tryd.f29 = some t29 := by kernel_rfl
def a30 : Ann := { slots := [0, 1, 2, 3, 4, 11, 18, 20], lb := [3, 2], mu := [], trunc := [], draws := [] }
def t30 : TFunc := ⟨2, 8, [.loc 4],
 (.seq (.region [⟨.boxL 2 (.loc 0), none, none⟩, ⟨.boxL 3 (.loc 1), none, none⟩, ⟨.mov (.cst (.int .i64 0)), (some 4), none⟩])
 (.seq (.seq (.region [⟨.fieldAddr 0 (.loc 2), none, none⟩, ⟨.load1 (.reg 0), none, none⟩, ⟨.mov (.reg 1), none, none⟩, ⟨.fieldAddr 0 (.loc 3), none, (some (2, true))⟩, ⟨.load1 (.reg 3), none, (some (2, true))⟩, ⟨.un .not (.reg 4), none, (some (2, true))⟩, ⟨.pick (.reg 2) (.reg 5) (.cst (.bool false)), (some 5), none⟩])
 (.cond (.loc 5)
  (.seq (.region [⟨.mov (.cst (.int .i64 (-1))), (some 4), none⟩])
  .ret)
  .skip))
 (.seq (.seq (.region [⟨.fieldAddr 0 (.loc 2), none, none⟩, ⟨.load1 (.reg 0), none, none⟩, ⟨.un .not (.reg 1), none, none⟩, ⟨.mov (.reg 2), none, none⟩, ⟨.fieldAddr 0 (.loc 3), none, (some (3, true))⟩, ⟨.load1 (.reg 4), none, (some (3, true))⟩, ⟨.pick (.reg 3) (.reg 5) (.cst (.bool false)), (some 6), none⟩])
 (.cond (.loc 6)
  (.seq (.region [⟨.mov (.cst (.int .i64 1)), (some 4), none⟩])
  .ret)
  .skip))
 (.seq (.seq (.region [⟨.fieldAddr 0 (.loc 2), none, none⟩, ⟨.load1 (.reg 0), (some 7), none⟩])
 (.cond (.loc 7)
  (.seq (.region [⟨.fieldAddr 1 (.loc 3), none, none⟩, ⟨.load1 (.reg 0), none, none⟩, ⟨.fieldAddr 1 (.loc 2), none, none⟩, ⟨.load1 (.reg 2), none, none⟩, ⟨.call true false 56 [(.reg 1), (.reg 3)], none, none⟩, ⟨.mov (.reg 4), (some 4), none⟩])
  .ret)
  .skip))
 (.seq (.region [⟨.fieldAddr 1 (.loc 2), none, none⟩, ⟨.load1 (.reg 0), none, none⟩, ⟨.fieldAddr 1 (.loc 3), none, none⟩, ⟨.load1 (.reg 2), none, none⟩, ⟨.call true false 56 [(.reg 1), (.reg 3)], none, none⟩, ⟨.mov (.reg 4), (some 4), none⟩])
 .ret)))))⟩
theorem c30 : compFunc Tryd.prog opts a30 Tryd.f30 = some t30 := by kernel_rfl
def a36 : Ann := { slots := [0, 1, 2], lb := [2, 1], mu := [], trunc := [], draws := [] }
def t36 : TFunc := ⟨1, 3, [.cell 2 2 true],
 (.seq (.region [⟨.boxL 1 (.loc 0), none, none⟩, ⟨.allocL 2 [(.bool false), (.sl .nil [])], none, none⟩])
 (.seq (.region [⟨.fieldAddr 1 (.loc 1), none, none⟩, ⟨.load1 (.reg 0), none, none⟩, ⟨.build [(.bool false), (.sl .nil [])] [(1, 1, (.reg 1))], none, none⟩, ⟨.call true false 18 [(.reg 2)], none, none⟩, ⟨.store 2 (.loc 2) (.reg 3), none, none⟩])
 .ret))⟩
theorem c36 : compFunc Tryd.prog opts a36 Tryd.f36 = some t36 := by kernel_rfl
def a37 : Ann := { slots := [0, 2, 3], lb := [3, 2], mu := [], trunc := [], draws := [] }
def t37 : TFunc := ⟨1, 3, [.cell 1 2 true],
 (.seq (.region [⟨.allocL 1 [(.bool false), (.sl .nil [])], none, none⟩])
 (.seq (.region [⟨.mov (.loc 0), none, none⟩, ⟨.call true false 12 [(.reg 0)], none, none⟩, ⟨.mov (.reg 1), none, none⟩, ⟨.extract 0 (.reg 2), none, none⟩, ⟨.extract 1 (.reg 2), none, none⟩, ⟨.allocL 2 [(.bool false), (.sl .nil [])], none, none⟩, ⟨.store 2 (.reg 5) (.reg 3), none, none⟩, ⟨.mov (.reg 4), none, none⟩])
 (.seq (.region [⟨.loadN 2 (.loc 2), none, none⟩, ⟨.store 2 (.loc 1) (.reg 0), none, none⟩])
 .ret)))⟩
theorem c37 : compFunc Tryd.prog opts a37 Tryd.f37 = some t37 := by kernel_rfl
def a38 : Ann := { slots := [0, 1, 2, 4], lb := [2], mu := [], trunc := [], draws := [] }
def t38 : TFunc := ⟨2, 4, [.loc 3],
 (.seq (.region [⟨.boxL 2 (.loc 0), none, none⟩, ⟨.mov (.cst (.bool false)), (some 3), none⟩])
 (.seq (.region [⟨.loadN 2 (.loc 2), none, none⟩, ⟨.call true false 16 [(.reg 0)], none, none⟩, ⟨.mov (.loc 1), none, none⟩, ⟨.bin .eql (.reg 1) (.reg 2), none, none⟩, ⟨.mov (.reg 3), (some 3), none⟩])
 .ret))⟩
theorem c38 : compFunc Tryd.prog opts a38 Tryd.f38 = some t38 := by kernel_rfl
def a39 : Ann := { slots := [0, 1, 4, 5, 6, 12, 21, 31], lb := [], mu := [], trunc := [], draws := [] }
def t39 : TFunc := ⟨2, 8, [.loc 2],
 (.seq (.region [⟨.mov (.cst (.str [])), (some 2), none⟩])
 (.seq (.seq (.region [⟨.mov (.loc 0), none, none⟩, ⟨.bin .eql (.reg 0) (.cst (.str [])), none, none⟩, ⟨.mov (.reg 1), none, none⟩, ⟨.mov (.loc 1), none, (some (2, false))⟩, ⟨.bin .eql (.reg 3) (.cst (.str [])), none, (some (2, false))⟩, ⟨.pick (.reg 2) (.cst (.bool true)) (.reg 4), (some 5), none⟩])
 (.cond (.loc 5)
  (.seq (.region [⟨.mov (.loc 0), none, none⟩, ⟨.mov (.reg 0), (some 2), none⟩])
  .ret)
  .skip))
 (.seq (.seq (.region [⟨.mov (.loc 1), none, none⟩, ⟨.len .str (.reg 0), none, none⟩, ⟨.bin .eql (.reg 1) (.cst (.int .i64 1)), none, none⟩, ⟨.mov (.reg 2), none, none⟩, ⟨.mov (.loc 1), none, (some (3, true))⟩, ⟨.indexS (.reg 4) (.cst (.int .i64 0)), none, (some (3, true))⟩, ⟨.bin .lss (.reg 5) (.cst (.int .u8 128)), none, (some (3, true))⟩, ⟨.pick (.reg 3) (.reg 6) (.cst (.bool false)), (some 6), none⟩])
 (.cond (.loc 6)
  (.seq (.region [⟨.mov (.loc 0), none, none⟩, ⟨.mov (.loc 1), none, none⟩, ⟨.indexS (.reg 1) (.cst (.int .i64 0)), none, none⟩, ⟨.call true false 63 [(.reg 0), (.reg 2)], none, none⟩, ⟨.mov (.reg 3), (some 2), none⟩])
  .ret)
  .skip))
 (.seq (.seq (.region [⟨.mov (.loc 1), none, none⟩, ⟨.call true false 64 [(.reg 0)], none, none⟩, ⟨.mov (.reg 1), none, none⟩, ⟨.extract 0 (.reg 2), none, none⟩, ⟨.extract 1 (.reg 2), none, none⟩, ⟨.allocH 96 [(.bool false), (.bool false), (.bool false), (.bool false), (.bool false), (.bool false), (.bool false), (.bool false), (.bool false), (.bool false), (.bool false), (.bool false), (.bool false), (.bool false), (.bool false), (.bool false), (.bool false), (.bool false), (.bool false), (.bool false), (.bool false), (.bool false), (.bool false), (.bool false), (.bool false), (.bool false), (.bool false), (.bool false), (.bool false), (.bool false), (.bool false), (.bool false), (.bool false), (.bool false), (.bool false), (.bool false), (.bool false), (.bool false), (.bool false), (.bool false), (.bool false), (.bool false), (.bool false), (.bool false), (.bool false), (.bool false), (.bool false), (.bool false), (.bool false), (.bool false), (.bool false), (.bool false), (.bool false), (.bool false), (.bool false), (.bool false), (.bool false), (.bool false), (.bool false), (.bool false), (.bool false), (.bool false), (.bool false), (.bool false), (.bool false), (.bool false), (.bool false), (.bool false), (.bool false), (.bool false), (.bool false), (.bool false), (.bool false), (.bool false), (.bool false), (.bool false), (.bool false), (.bool false), (.bool false), (.bool false), (.bool false), (.bool false), (.bool false), (.bool false), (.bool false), (.bool false), (.bool false), (.bool false), (.bool false), (.bool false), (.bool false), (.bool false), (.bool false), (.bool false), (.bool false), (.bool false), (.bool false), (.bool false), (.bool false), (.bool false), (.bool false), (.bool false), (.bool false), (.bool false), (.bool false), (.bool false), (.bool false), (.bool false), (.bool false), (.bool false), (.bool false), (.bool false), (.bool false), (.bool false), (.bool false), (.bool false), (.bool false), (.bool false), (.bool false), (.bool false), (.bool false), (.bool false), (.bool false), (.bool false), (.bool false), (.bool false), (.bool false), (.bool false), (.bool false), (.bool false), (.bool false), (.bool false), (.bool false), (.bool false), (.bool false), (.bool false), (.bool false), (.bool false), (.bool false), (.bool false), (.bool false), (.bool false), (.bool false), (.bool false), (.bool false), (.bool false), (.bool false), (.bool false), (.bool false), (.bool false), (.bool false), (.bool false), (.bool false), (.bool false), (.bool false), (.bool false), (.bool false), (.bool false), (.bool false), (.bool false), (.bool false), (.bool false), (.bool false), (.bool false), (.bool false), (.bool false), (.bool false), (.bool false), (.bool false), (.bool false), (.bool false), (.bool false), (.bool false), (.bool false), (.bool false), (.bool false), (.bool false), (.bool false), (.bool false), (.bool false), (.bool false), (.bool false), (.bool false), (.bool false), (.bool false), (.bool false), (.bool false), (.bool false), (.bool false), (.bool false), (.bool false), (.bool false), (.bool false), (.bool false), (.bool false), (.bool false), (.bool false), (.bool false), (.bool false), (.bool false), (.bool false), (.bool false), (.bool false), (.bool false), (.bool false), (.bool false), (.bool false), (.bool false), (.bool false), (.bool false), (.bool false), (.bool false), (.bool false), (.bool false), (.bool false), (.bool false), (.bool false), (.bool false), (.bool false), (.bool false), (.bool false), (.bool false), (.bool false), (.bool false), (.bool false), (.bool false), (.bool false), (.bool false), (.bool false), (.bool false), (.bool false), (.bool false), (.bool false), (.bool false), (.bool false), (.bool false), (.bool false), (.bool false), (.bool false), (.bool false), (.bool false), (.bool false), (.bool false), (.bool false), (.bool false), (.bool false), (.bool false), (.bool false), (.bool false), (.bool false), (.bool false), (.bool false), (.bool false), (.bool false), (.bool false), (.bool false)], (some 3), none⟩, ⟨.store 256 (.reg 5) (.reg 3), none, none⟩, ⟨.mov (.reg 4), (some 4), none⟩])
 (.seq (.region [⟨.mov (.loc 4), (some 7), none⟩])
 (.cond (.loc 7)
  (.seq (.region [⟨.mov (.loc 0), none, none⟩, ⟨.call false false 65 [(.reg 0), (.loc 3)], none, none⟩, ⟨.mov (.reg 1), (some 2), none⟩])
  .ret)
  .skip)))
 (.seq (.region [⟨.mov (.loc 0), none, none⟩, ⟨.mov (.loc 1), none, none⟩, ⟨.call true false 66 [(.reg 0), (.reg 1)], none, none⟩, ⟨.mov (.reg 2), (some 2), none⟩])
 .ret)))))⟩
theorem c39 : compFunc Tryd.prog opts a39 Tryd.f39 = some t39 := by kernel_rfl
def a40 : Ann := { slots := [0, 2, 14], lb := [], mu := [], trunc := [], draws := [] }
def t40L0 : TCode := (.seq (.seq (.region [⟨.mov (.loc 0), none, none⟩, ⟨.len .sl (.reg 0), none, none⟩, ⟨.bin .gtr (.reg 1) (.cst (.int .i64 0)), none, none⟩, ⟨.mov (.reg 2), none, none⟩, ⟨.mov (.loc 0), none, (some (3, true))⟩, ⟨.mov (.loc 0), none, (some (3, true))⟩, ⟨.len .sl (.reg 5), none, (some (3, true))⟩, ⟨.bin .sub (.reg 6) (.cst (.int .i64 1)), none, (some (3, true))⟩, ⟨.indexAddrS 1 (.reg 4) (.reg 7), none, (some (3, true))⟩, ⟨.load1 (.reg 8), none, (some (3, true))⟩, ⟨.bin .eql (.reg 9) (.cst (.int .u16 0)), none, (some (3, true))⟩, ⟨.pick (.reg 3) (.reg 10) (.cst (.bool false)), (some 2), none⟩])
   (.cond (.loc 2)
    .skip
    (.exit 0)))
   (.block 1
    (.region [⟨.mov (.loc 0), none, none⟩, ⟨.mov (.loc 0), none, none⟩, ⟨.len .sl (.reg 1), none, none⟩, ⟨.bin .sub (.reg 2) (.cst (.int .i64 1)), none, none⟩, ⟨.slice (.sl 1) (.reg 0) none (some (.reg 3)) none, none, none⟩, ⟨.mov (.reg 4), (some 0), none⟩])))
def t40 : TFunc := ⟨1, 3, [.loc 1],
 (.seq (.region [⟨.mov (.cst (.sl .nil [])), (some 1), none⟩])
 (.seq (.block 0
  (.loop t40L0))
 (.seq (.region [⟨.mov (.loc 0), none, none⟩, ⟨.mov (.reg 0), (some 1), none⟩])
 .ret)))⟩
theorem c40 : compFunc Tryd.prog opts a40 Tryd.f40 = some t40 := by kernel_rfl
def a41 : Ann := { slots := [0, 1, 2, 6, 7, 9, 10, 11, 12, 13], lb := [], mu := [], trunc := [], draws := [] }
def t41L0 : TCode := (.seq (.region [⟨.bin .lss (.loc 8) (.loc 7), (some 9), none⟩])
   (.seq (.cond (.loc 9)
    .skip
    (.exit 0))
   (.seq (.block 1
    (.seq (.region [⟨.indexAddrS 1 (.loc 6) (.loc 8), none, none⟩, ⟨.load1 (.reg 0), none, none⟩, ⟨.mov (.reg 1), (some 5), none⟩])
    (.seq (.region [⟨.mov (.loc 2), none, none⟩, ⟨.mov (.loc 5), none, none⟩, ⟨.conv (.toInt .u32) (.reg 1), none, none⟩, ⟨.mov (.loc 1), none, none⟩, ⟨.bin .mul (.reg 2) (.reg 3), none, none⟩, ⟨.bin .add (.reg 0) (.reg 4), none, none⟩, ⟨.mov (.reg 5), (some 2), none⟩])
    (.seq (.region [⟨.mov (.loc 4), none, none⟩, ⟨.mov (.loc 2), none, none⟩, ⟨.conv (.toInt .u16) (.reg 1), none, none⟩, ⟨.lit false [(.int .u16 0)] 1 [(0, (.reg 2))], none, none⟩, ⟨.append false 1 2 55 (.reg 0) (.reg 3), none, none⟩, ⟨.mov (.reg 4), (some 4), none⟩])
    (.region [⟨.mov (.loc 2), none, none⟩, ⟨.bin .shr (.reg 0) (.cst (.int .u64 16)), none, none⟩, ⟨.mov (.reg 1), (some 2), none⟩])))))
   (.region [⟨.bin .add (.loc 8) (.cst (.int .i64 1)), none, none⟩, ⟨.mov (.reg 0), (some 8), none⟩]))))
def t41 : TFunc := ⟨3, 10, [.loc 3],
 (.seq (.region [⟨.mov (.cst (.sl .nil [])), (some 3), none⟩])
 (.seq (.region [⟨.mov (.cst (.sl .nil [])), (some 4), none⟩])
 (.seq (.seq (.region [⟨.mov (.loc 0), (some 6), none⟩, ⟨.len .sl (.reg 0), (some 7), none⟩, ⟨.mov (.cst (.int .i64 0)), (some 8), none⟩])
 (.block 0
  (.loop t41L0)))
 (.seq (.region [⟨.mov (.loc 4), none, none⟩, ⟨.mov (.loc 2), none, none⟩, ⟨.conv (.toInt .u16) (.reg 1), none, none⟩, ⟨.lit false [(.int .u16 0)] 1 [(0, (.reg 2))], none, none⟩, ⟨.append false 1 2 55 (.reg 0) (.reg 3), none, none⟩, ⟨.mov (.reg 4), (some 3), none⟩])
 .ret))))⟩
theorem c41 : compFunc Tryd.prog opts a41 Tryd.f41 = some t41 := by kernel_rfl
def a42 : Ann := { slots := [0, 1, 4], lb := [4], mu := [], trunc := [], draws := [] }
def t42 : TFunc := ⟨2, 3, [.cell 2 2 true],
 (.seq (.region [⟨.allocL 2 [(.bool false), (.sl .nil [])], none, none⟩])
 (.seq (.region [⟨.mov (.loc 1), none, none⟩, ⟨.call true false 40 [(.reg 0)], none, none⟩, ⟨.mov (.reg 1), (some 1), none⟩])
 (.seq (.region [⟨.mov (.loc 0), none, none⟩, ⟨.mov (.reg 0), none, none⟩, ⟨.mov (.loc 1), none, (some (1, true))⟩, ⟨.len .sl (.reg 2), none, (some (1, true))⟩, ⟨.bin .gtr (.reg 3) (.cst (.int .i64 0)), none, (some (1, true))⟩, ⟨.pick (.reg 1) (.reg 4) (.cst (.bool false)), none, none⟩, ⟨.mov (.loc 1), none, none⟩, ⟨.build [(.bool false), (.sl .nil [])] [(0, 1, (.reg 5)), (1, 1, (.reg 6))], none, none⟩, ⟨.store 2 (.loc 2) (.reg 7), none, none⟩])
 .ret)))⟩
theorem c42 : compFunc Tryd.prog opts a42 Tryd.f42 = some t42 := by kernel_rfl
def a43 : Ann := { slots := [0, 1, 4], lb := [4], mu := [], trunc := [], draws := [] }
def t43 : TFunc := ⟨2, 3, [.cell 2 2 true],
 (.seq (.region [⟨.allocL 2 [(.bool false), (.sl .nil [])], none, none⟩])
 (.seq (.region [⟨.mov (.loc 1), none, none⟩, ⟨.call true false 62 [(.reg 0)], none, none⟩, ⟨.mov (.reg 1), (some 1), none⟩])
 (.seq (.region [⟨.mov (.loc 0), none, none⟩, ⟨.mov (.reg 0), none, none⟩, ⟨.mov (.loc 1), none, (some (1, true))⟩, ⟨.len .sl (.reg 2), none, (some (1, true))⟩, ⟨.bin .gtr (.reg 3) (.cst (.int .i64 0)), none, (some (1, true))⟩, ⟨.pick (.reg 1) (.reg 4) (.cst (.bool false)), none, none⟩, ⟨.mov (.loc 1), none, none⟩, ⟨.build [(.bool false), (.sl .nil [])] [(0, 1, (.reg 5)), (1, 1, (.reg 6))], none, none⟩, ⟨.store 2 (.loc 2) (.reg 7), none, none⟩])
 .ret)))⟩
theorem c43 : compFunc Tryd.prog opts a43 Tryd.f43 = some t43 := by kernel_rfl
def a44 : Ann := { slots := [0, 1, 2, 3, 4, 5, 6, 11], lb := [1], mu := [], trunc := [], draws := [] }
def t44L0 : TCode := (.seq (.seq (.region [⟨.mov (.loc 4), none, none⟩, ⟨.len .sl (.reg 0), none, none⟩, ⟨.bin .gtr (.reg 1) (.cst (.int .i64 0)), (some 7), none⟩])
   (.cond (.loc 7)
    .skip
    (.exit 0)))
   (.block 1
    (.seq (.region [⟨.mov (.loc 4), none, none⟩, ⟨.call true false 67 [(.reg 0)], none, none⟩, ⟨.mov (.reg 1), none, none⟩, ⟨.extract 0 (.reg 2), none, none⟩, ⟨.extract 1 (.reg 2), none, none⟩, ⟨.mov (.reg 3), (some 5), none⟩, ⟨.mov (.reg 4), (some 6), none⟩])
    (.seq (.region [⟨.mov (.loc 3), none, none⟩, ⟨.mov (.loc 6), none, none⟩, ⟨.conv (.toInt .u16) (.reg 1), none, none⟩, ⟨.lit false [(.int .u16 0)] 1 [(0, (.reg 2))], none, none⟩, ⟨.append false 1 2 55 (.reg 0) (.reg 3), none, none⟩, ⟨.mov (.reg 4), (some 3), none⟩])
    (.region [⟨.mov (.loc 5), none, none⟩, ⟨.mov (.reg 0), (some 4), none⟩])))))
def t44 : TFunc := ⟨1, 8, [.loc 2],
 (.seq (.region [⟨.boxL 1 (.loc 0), none, none⟩, ⟨.mov (.cst (.sl .nil [])), (some 2), none⟩])
 (.seq (.region [⟨.mov (.cst (.sl .nil [])), (some 3), none⟩])
 (.seq (.region [⟨.fieldAddr 1 (.loc 1), none, none⟩, ⟨.load1 (.reg 0), none, none⟩, ⟨.mov (.reg 1), (some 4), none⟩])
 (.seq (.block 0
  (.loop t44L0))
 (.seq (.region [⟨.mov (.loc 3), none, none⟩, ⟨.mov (.reg 0), (some 2), none⟩])
 .ret)))))⟩
theorem c44 : compFunc Tryd.prog opts a44 Tryd.f44 = some t44 := by kernel_rfl
def a45 : Ann := { slots := [0, 1, 4, 5, 6, 7, 8, 16], lb := [], mu := [], trunc := [], draws := [] }
def t45L0 : TCode := (.seq (.seq (.region [⟨.mov (.loc 6), none, none⟩, ⟨.bin .geq (.reg 0) (.cst (.int .i64 0)), (some 7), none⟩])
   (.cond (.loc 7)
    .skip
    (.exit 0)))
   (.seq (.block 1
    (.seq (.region [⟨.mov (.loc 5), none, none⟩, ⟨.bin .shl (.reg 0) (.cst (.int .u64 16)), none, none⟩, ⟨.mov (.loc 0), none, none⟩, ⟨.mov (.loc 6), none, none⟩, ⟨.indexAddrS 1 (.reg 2) (.reg 3), none, none⟩, ⟨.load1 (.reg 4), none, none⟩, ⟨.conv (.toInt .u32) (.reg 5), none, none⟩, ⟨.bin .or (.reg 1) (.reg 6), none, none⟩, ⟨.mov (.reg 7), (some 5), none⟩])
    (.seq (.region [⟨.mov (.loc 4), none, none⟩, ⟨.mov (.loc 6), none, none⟩, ⟨.mov (.loc 5), none, none⟩, ⟨.mov (.loc 1), none, none⟩, ⟨.bin .quo (.reg 2) (.reg 3), none, none⟩, ⟨.conv (.toInt .u16) (.reg 4), none, none⟩, ⟨.indexAddrS 1 (.reg 0) (.reg 1), none, none⟩, ⟨.store 1 (.reg 6) (.reg 5), none, none⟩])
    (.region [⟨.mov (.loc 5), none, none⟩, ⟨.mov (.loc 1), none, none⟩, ⟨.bin .rem (.reg 0) (.reg 1), none, none⟩, ⟨.mov (.reg 2), (some 5), none⟩]))))
   (.region [⟨.mov (.loc 6), none, none⟩, ⟨.bin .sub (.reg 0) (.cst (.int .i64 1)), none, none⟩, ⟨.mov (.reg 1), (some 6), none⟩])))
def t45 : TFunc := ⟨2, 8, [.loc 2, .loc 3],
 (.seq (.region [⟨.mov (.cst (.sl .nil [])), (some 2), none⟩, ⟨.mov (.cst (.int .u32 0)), (some 3), none⟩])
 (.seq (.region [⟨.mov (.loc 0), none, none⟩, ⟨.len .sl (.reg 0), none, none⟩, ⟨.mkSlice [(.int .u16 0)] 2 (.reg 1) (.reg 1), none, none⟩, ⟨.mov (.reg 2), (some 4), none⟩, ⟨.mov (.cst (.int .u32 0)), (some 5), none⟩])
 (.seq (.seq (.region [⟨.mov (.loc 0), none, none⟩, ⟨.len .sl (.reg 0), none, none⟩, ⟨.bin .sub (.reg 1) (.cst (.int .i64 1)), none, none⟩, ⟨.mov (.reg 2), (some 6), none⟩])
 (.block 0
  (.loop t45L0)))
 (.seq (.region [⟨.mov (.loc 4), none, none⟩, ⟨.call true false 40 [(.reg 0)], none, none⟩, ⟨.mov (.loc 5), none, none⟩, ⟨.mov (.reg 1), (some 2), none⟩, ⟨.mov (.reg 2), (some 3), none⟩])
 .ret))))⟩
theorem c45 : compFunc Tryd.prog opts a45 Tryd.f45 = some t45 := by kernel_rfl
def a46 : Ann := { slots := [0, 2], lb := [], mu := [], trunc := [], draws := [] }
def t46 : TFunc := ⟨1, 2, [.loc 1],
 (.seq (.region [⟨.mov (.cst (.str [])), (some 1), none⟩])
 (.seq (.region [⟨.mov (.loc 0), none, none⟩, ⟨.call true false 68 [(.reg 0)], none, none⟩, ⟨.mov (.reg 1), (some 1), none⟩])
 .ret))⟩
theorem c46 : compFunc Tryd.prog opts a46 Tryd.f46 = some t46 := by kernel_rfl
def a47 : Ann := { slots := [0, 1, 4, 5, 6, 7, 8, 9, 10, 11, 12, 14, 18, 34, 40, 42, 43, 49, 58, 67, 76, 85, 96, 104, 113], lb := [], mu := [], trunc := [], draws := [] }
def t47L0 : TCode := (.seq (.seq (.region [⟨.call false false 73 [(.loc 7)], none, none⟩, ⟨.mov (.loc 5), none, none⟩, ⟨.bin .lss (.reg 0) (.reg 1), (some 24), none⟩])
   (.cond (.loc 24)
    .skip
    (.exit 3)))
   (.block 4
    (.seq (.region [⟨.mov (.loc 5), none, none⟩, ⟨.call false false 73 [(.loc 7)], none, none⟩, ⟨.bin .sub (.reg 0) (.reg 1), none, none⟩, ⟨.call false false 73 [(.loc 7)], none, none⟩, ⟨.mov (.loc 6), none, none⟩, ⟨.minmax false [(.reg 2), (.reg 3), (.reg 4)], none, none⟩, ⟨.mov (.reg 5), (some 8), none⟩])
    (.region [⟨.prim 74 [(.loc 7)], none, none⟩, ⟨.mov (.loc 8), none, none⟩, ⟨.slice .str (.reg 0) none (some (.reg 1)) none, none, none⟩, ⟨.call false false 72 [(.loc 7), (.reg 2)], none, none⟩]))))
def t47 : TFunc := ⟨2, 25, [.loc 2],
 (.seq (.region [⟨.mov (.cst (.str [])), (some 2), none⟩])
 (.seq (.seq (.region [⟨.mov (.loc 1), (some 9), none⟩])
 (.block 0
  (.seq (.region [⟨.bin .eql (.loc 9) (.cst (.int .i64 0)), none, none⟩, ⟨.mov (.reg 0), (some 10), none⟩])
  (.cond (.loc 10)
   (.seq (.region [⟨.mov (.cst (.str [])), (some 2), none⟩])
   .ret)
   (.seq (.region [⟨.bin .eql (.loc 9) (.cst (.int .i64 1)), none, none⟩, ⟨.mov (.reg 0), (some 11), none⟩])
   (.cond (.loc 11)
    (.seq (.region [⟨.mov (.loc 0), none, none⟩, ⟨.mov (.reg 0), (some 2), none⟩])
    .ret)
    .skip))))))
 (.seq (.seq (.region [⟨.mov (.loc 1), none, none⟩, ⟨.bin .lss (.reg 0) (.cst (.int .i64 0)), (some 12), none⟩])
 (.cond (.loc 12)
  (.region [⟨.bad, none, none⟩, ⟨.bad, none, none⟩])
  .skip))
 (.seq (.region [⟨.mov (.loc 0), none, none⟩, ⟨.len .str (.reg 0), none, none⟩, ⟨.conv (.toInt .u64) (.reg 1), none, none⟩, ⟨.mov (.loc 1), none, none⟩, ⟨.conv (.toInt .u64) (.reg 3), none, none⟩, ⟨.call true false 69 [(.reg 2), (.reg 4)], none, none⟩, ⟨.mov (.reg 5), none, none⟩, ⟨.extract 0 (.reg 6), none, none⟩, ⟨.extract 1 (.reg 6), none, none⟩, ⟨.mov (.reg 7), (some 3), none⟩, ⟨.mov (.reg 8), (some 4), none⟩])
 (.seq (.seq (.region [⟨.mov (.loc 3), none, none⟩, ⟨.bin .gtr (.reg 0) (.cst (.int .u64 0)), none, none⟩, ⟨.mov (.reg 1), none, none⟩, ⟨.mov (.loc 4), none, (some (2, false))⟩, ⟨.bin .gtr (.reg 3) (.cst (.int .u64 9223372036854775807)), none, (some (2, false))⟩, ⟨.pick (.reg 2) (.cst (.bool true)) (.reg 4), (some 13), none⟩])
 (.cond (.loc 13)
  (.region [⟨.bad, none, none⟩, ⟨.bad, none, none⟩])
  .skip))
 (.seq (.region [⟨.mov (.loc 4), none, none⟩, ⟨.conv (.toInt .i64) (.reg 0), none, none⟩, ⟨.mov (.reg 1), (some 5), none⟩])
 (.seq (.seq (.region [⟨.mov (.loc 0), none, none⟩, ⟨.len .str (.reg 0), none, none⟩, ⟨.bin .eql (.reg 1) (.cst (.int .i64 0)), (some 14), none⟩])
 (.cond (.loc 14)
  (.seq (.region [⟨.mov (.cst (.str [])), (some 2), none⟩])
  .ret)
  .skip))
 (.seq (.seq (.region [⟨.mov (.loc 0), none, none⟩, ⟨.indexS (.reg 0) (.cst (.int .i64 0)), (some 15), none⟩])
 (.block 1
  (.seq (.seq (.region [⟨.bin .eql (.loc 15) (.cst (.int .u8 32)), none, none⟩, ⟨.mov (.reg 0), (some 16), none⟩])
  (.cond (.loc 16)
   .skip
   (.seq (.region [⟨.bin .eql (.loc 15) (.cst (.int .u8 45)), none, none⟩, ⟨.mov (.reg 0), (some 16), none⟩])
   (.cond (.loc 16)
    .skip
    (.seq (.region [⟨.bin .eql (.loc 15) (.cst (.int .u8 48)), none, none⟩, ⟨.mov (.reg 0), (some 16), none⟩])
    (.cond (.loc 16)
     .skip
     (.seq (.region [⟨.bin .eql (.loc 15) (.cst (.int .u8 61)), none, none⟩, ⟨.mov (.reg 0), (some 16), none⟩])
     (.cond (.loc 16)
      .skip
      (.region [⟨.bin .eql (.loc 15) (.cst (.int .u8 9)), none, none⟩, ⟨.mov (.reg 0), (some 16), none⟩])))))))))
  (.cond (.loc 16)
   (.block 2
    (.seq (.region [⟨.mov (.loc 5), none, none⟩, ⟨.bin .leq (.reg 0) (.cst (.int .i64 128)), none, none⟩, ⟨.mov (.reg 1), none, none⟩, ⟨.mov (.loc 0), none, (some (2, true))⟩, ⟨.call true false 70 [(.cst (.str [32, 32, 32, 32, 32, 32, 32, 32, 32, 32, 32, 32, 32, 32, 32, 32, 32, 32, 32, 32, 32, 32, 32, 32, 32, 32, 32, 32, 32, 32, 32, 32, 32, 32, 32, 32, 32, 32, 32, 32, 32, 32, 32, 32, 32, 32, 32, 32, 32, 32, 32, 32, 32, 32, 32, 32, 32, 32, 32, 32, 32, 32, 32, 32, 32, 32, 32, 32, 32, 32, 32, 32, 32, 32, 32, 32, 32, 32, 32, 32, 32, 32, 32, 32, 32, 32, 32, 32, 32, 32, 32, 32, 32, 32, 32, 32, 32, 32, 32, 32, 32, 32, 32, 32, 32, 32, 32, 32, 32, 32, 32, 32, 32, 32, 32, 32, 32, 32, 32, 32, 32, 32, 32, 32, 32, 32, 32, 32])), (.reg 3)], none, (some (2, true))⟩, ⟨.pick (.reg 2) (.reg 4) (.cst (.bool false)), none, none⟩, ⟨.mov (.reg 5), (some 17), none⟩])
    (.cond (.loc 17)
     (.seq (.region [⟨.mov (.loc 5), none, none⟩, ⟨.slice .str (.cst (.str [32, 32, 32, 32, 32, 32, 32, 32, 32, 32, 32, 32, 32, 32, 32, 32, 32, 32, 32, 32, 32, 32, 32, 32, 32, 32, 32, 32, 32, 32, 32, 32, 32, 32, 32, 32, 32, 32, 32, 32, 32, 32, 32, 32, 32, 32, 32, 32, 32, 32, 32, 32, 32, 32, 32, 32, 32, 32, 32, 32, 32, 32, 32, 32, 32, 32, 32, 32, 32, 32, 32, 32, 32, 32, 32, 32, 32, 32, 32, 32, 32, 32, 32, 32, 32, 32, 32, 32, 32, 32, 32, 32, 32, 32, 32, 32, 32, 32, 32, 32, 32, 32, 32, 32, 32, 32, 32, 32, 32, 32, 32, 32, 32, 32, 32, 32, 32, 32, 32, 32, 32, 32, 32, 32, 32, 32, 32, 32])) none (some (.reg 0)) none, none, none⟩, ⟨.mov (.reg 1), (some 2), none⟩])
     .ret)
     (.seq (.region [⟨.mov (.loc 5), none, none⟩, ⟨.bin .leq (.reg 0) (.cst (.int .i64 128)), none, none⟩, ⟨.mov (.reg 1), none, none⟩, ⟨.mov (.loc 0), none, (some (2, true))⟩, ⟨.call true false 70 [(.cst (.str [45, 45, 45, 45, 45, 45, 45, 45, 45, 45, 45, 45, 45, 45, 45, 45, 45, 45, 45, 45, 45, 45, 45, 45, 45, 45, 45, 45, 45, 45, 45, 45, 45, 45, 45, 45, 45, 45, 45, 45, 45, 45, 45, 45, 45, 45, 45, 45, 45, 45, 45, 45, 45, 45, 45, 45, 45, 45, 45, 45, 45, 45, 45, 45, 45, 45, 45, 45, 45, 45, 45, 45, 45, 45, 45, 45, 45, 45, 45, 45, 45, 45, 45, 45, 45, 45, 45, 45, 45, 45, 45, 45, 45, 45, 45, 45, 45, 45, 45, 45, 45, 45, 45, 45, 45, 45, 45, 45, 45, 45, 45, 45, 45, 45, 45, 45, 45, 45, 45, 45, 45, 45, 45, 45, 45, 45, 45, 45])), (.reg 3)], none, (some (2, true))⟩, ⟨.pick (.reg 2) (.reg 4) (.cst (.bool false)), none, none⟩, ⟨.mov (.reg 5), (some 18), none⟩])
     (.cond (.loc 18)
      (.seq (.region [⟨.mov (.loc 5), none, none⟩, ⟨.slice .str (.cst (.str [45, 45, 45, 45, 45, 45, 45, 45, 45, 45, 45, 45, 45, 45, 45, 45, 45, 45, 45, 45, 45, 45, 45, 45, 45, 45, 45, 45, 45, 45, 45, 45, 45, 45, 45, 45, 45, 45, 45, 45, 45, 45, 45, 45, 45, 45, 45, 45, 45, 45, 45, 45, 45, 45, 45, 45, 45, 45, 45, 45, 45, 45, 45, 45, 45, 45, 45, 45, 45, 45, 45, 45, 45, 45, 45, 45, 45, 45, 45, 45, 45, 45, 45, 45, 45, 45, 45, 45, 45, 45, 45, 45, 45, 45, 45, 45, 45, 45, 45, 45, 45, 45, 45, 45, 45, 45, 45, 45, 45, 45, 45, 45, 45, 45, 45, 45, 45, 45, 45, 45, 45, 45, 45, 45, 45, 45, 45, 45])) none (some (.reg 0)) none, none, none⟩, ⟨.mov (.reg 1), (some 2), none⟩])
      .ret)
      (.seq (.region [⟨.mov (.loc 5), none, none⟩, ⟨.bin .leq (.reg 0) (.cst (.int .i64 64)), none, none⟩, ⟨.mov (.reg 1), none, none⟩, ⟨.mov (.loc 0), none, (some (2, true))⟩, ⟨.call true false 70 [(.cst (.str [48, 48, 48, 48, 48, 48, 48, 48, 48, 48, 48, 48, 48, 48, 48, 48, 48, 48, 48, 48, 48, 48, 48, 48, 48, 48, 48, 48, 48, 48, 48, 48, 48, 48, 48, 48, 48, 48, 48, 48, 48, 48, 48, 48, 48, 48, 48, 48, 48, 48, 48, 48, 48, 48, 48, 48, 48, 48, 48, 48, 48, 48, 48, 48])), (.reg 3)], none, (some (2, true))⟩, ⟨.pick (.reg 2) (.reg 4) (.cst (.bool false)), none, none⟩, ⟨.mov (.reg 5), (some 19), none⟩])
      (.cond (.loc 19)
       (.seq (.region [⟨.mov (.loc 5), none, none⟩, ⟨.slice .str (.cst (.str [48, 48, 48, 48, 48, 48, 48, 48, 48, 48, 48, 48, 48, 48, 48, 48, 48, 48, 48, 48, 48, 48, 48, 48, 48, 48, 48, 48, 48, 48, 48, 48, 48, 48, 48, 48, 48, 48, 48, 48, 48, 48, 48, 48, 48, 48, 48, 48, 48, 48, 48, 48, 48, 48, 48, 48, 48, 48, 48, 48, 48, 48, 48, 48])) none (some (.reg 0)) none, none, none⟩, ⟨.mov (.reg 1), (some 2), none⟩])
       .ret)
       (.seq (.region [⟨.mov (.loc 5), none, none⟩, ⟨.bin .leq (.reg 0) (.cst (.int .i64 128)), none, none⟩, ⟨.mov (.reg 1), none, none⟩, ⟨.mov (.loc 0), none, (some (2, true))⟩, ⟨.call true false 70 [(.cst (.str [61, 61, 61, 61, 61, 61, 61, 61, 61, 61, 61, 61, 61, 61, 61, 61, 61, 61, 61, 61, 61, 61, 61, 61, 61, 61, 61, 61, 61, 61, 61, 61, 61, 61, 61, 61, 61, 61, 61, 61, 61, 61, 61, 61, 61, 61, 61, 61, 61, 61, 61, 61, 61, 61, 61, 61, 61, 61, 61, 61, 61, 61, 61, 61, 61, 61, 61, 61, 61, 61, 61, 61, 61, 61, 61, 61, 61, 61, 61, 61, 61, 61, 61, 61, 61, 61, 61, 61, 61, 61, 61, 61, 61, 61, 61, 61, 61, 61, 61, 61, 61, 61, 61, 61, 61, 61, 61, 61, 61, 61, 61, 61, 61, 61, 61, 61, 61, 61, 61, 61, 61, 61, 61, 61, 61, 61, 61, 61])), (.reg 3)], none, (some (2, true))⟩, ⟨.pick (.reg 2) (.reg 4) (.cst (.bool false)), none, none⟩, ⟨.mov (.reg 5), (some 20), none⟩])
       (.cond (.loc 20)
        (.seq (.region [⟨.mov (.loc 5), none, none⟩, ⟨.slice .str (.cst (.str [61, 61, 61, 61, 61, 61, 61, 61, 61, 61, 61, 61, 61, 61, 61, 61, 61, 61, 61, 61, 61, 61, 61, 61, 61, 61, 61, 61, 61, 61, 61, 61, 61, 61, 61, 61, 61, 61, 61, 61, 61, 61, 61, 61, 61, 61, 61, 61, 61, 61, 61, 61, 61, 61, 61, 61, 61, 61, 61, 61, 61, 61, 61, 61, 61, 61, 61, 61, 61, 61, 61, 61, 61, 61, 61, 61, 61, 61, 61, 61, 61, 61, 61, 61, 61, 61, 61, 61, 61, 61, 61, 61, 61, 61, 61, 61, 61, 61, 61, 61, 61, 61, 61, 61, 61, 61, 61, 61, 61, 61, 61, 61, 61, 61, 61, 61, 61, 61, 61, 61, 61, 61, 61, 61, 61, 61, 61, 61])) none (some (.reg 0)) none, none, none⟩, ⟨.mov (.reg 1), (some 2), none⟩])
        .ret)
        (.seq (.region [⟨.mov (.loc 5), none, none⟩, ⟨.bin .leq (.reg 0) (.cst (.int .i64 64)), none, none⟩, ⟨.mov (.reg 1), none, none⟩, ⟨.mov (.loc 0), none, (some (2, true))⟩, ⟨.call true false 70 [(.cst (.str [9, 9, 9, 9, 9, 9, 9, 9, 9, 9, 9, 9, 9, 9, 9, 9, 9, 9, 9, 9, 9, 9, 9, 9, 9, 9, 9, 9, 9, 9, 9, 9, 9, 9, 9, 9, 9, 9, 9, 9, 9, 9, 9, 9, 9, 9, 9, 9, 9, 9, 9, 9, 9, 9, 9, 9, 9, 9, 9, 9, 9, 9, 9, 9])), (.reg 3)], none, (some (2, true))⟩, ⟨.pick (.reg 2) (.reg 4) (.cst (.bool false)), none, none⟩, ⟨.mov (.reg 5), (some 21), none⟩])
        (.cond (.loc 21)
         (.seq (.region [⟨.mov (.loc 5), none, none⟩, ⟨.slice .str (.cst (.str [9, 9, 9, 9, 9, 9, 9, 9, 9, 9, 9, 9, 9, 9, 9, 9, 9, 9, 9, 9, 9, 9, 9, 9, 9, 9, 9, 9, 9, 9, 9, 9, 9, 9, 9, 9, 9, 9, 9, 9, 9, 9, 9, 9, 9, 9, 9, 9, 9, 9, 9, 9, 9, 9, 9, 9, 9, 9, 9, 9, 9, 9, 9, 9])) none (some (.reg 0)) none, none, none⟩, ⟨.mov (.reg 1), (some 2), none⟩])
         .ret)
         .skip)))))))))))
   .skip))))
 (.seq (.region [⟨.mov (.loc 5), none, none⟩, ⟨.mov (.reg 0), (some 6), none⟩])
 (.seq (.seq (.region [⟨.mov (.loc 5), none, none⟩, ⟨.bin .gtr (.reg 0) (.cst (.int .i64 8192)), (some 22), none⟩])
 (.cond (.loc 22)
  (.seq (.region [⟨.mov (.loc 0), none, none⟩, ⟨.len .str (.reg 0), none, none⟩, ⟨.bin .quo (.cst (.int .i64 8192)) (.reg 1), none, none⟩, ⟨.mov (.loc 0), none, none⟩, ⟨.len .str (.reg 3), none, none⟩, ⟨.bin .mul (.reg 2) (.reg 4), none, none⟩, ⟨.mov (.reg 5), (some 6), none⟩])
  (.seq (.region [⟨.mov (.loc 6), none, none⟩, ⟨.bin .eql (.reg 0) (.cst (.int .i64 0)), (some 23), none⟩])
  (.cond (.loc 23)
   (.region [⟨.mov (.loc 0), none, none⟩, ⟨.len .str (.reg 0), none, none⟩, ⟨.mov (.reg 1), (some 6), none⟩])
   .skip)))
  .skip))
 (.seq (.region [⟨.allocH 108 [.nilp, (.sl .nil [])], (some 7), none⟩])
 (.seq (.region [⟨.mov (.loc 5), none, none⟩, ⟨.call false false 71 [(.loc 7), (.reg 0)], none, none⟩])
 (.seq (.region [⟨.mov (.loc 0), none, none⟩, ⟨.call false false 72 [(.loc 7), (.reg 0)], none, none⟩])
 (.seq (.block 3
  (.loop t47L0))
 (.seq (.region [⟨.prim 74 [(.loc 7)], none, none⟩, ⟨.mov (.reg 0), (some 2), none⟩])
 .ret)))))))))))))))⟩
theorem c47 : compFunc Tryd.prog opts a47 Tryd.f47 = some t47 := by kernel_rfl
def a48 : Ann := { slots := [0, 2, 3, 9], lb := [], mu := [], trunc := [], draws := [(3, ⟨[0, 0, 0, 0, 0, 0, 48, 112, 0, 0, 768, 1792, 4083, 8179, 16383, 32767], [0, 1, 2, 3, 4, 5, 6, 7, 8, 9, 10, 11, 12], [(13, [], [14]), (15, [], [])]⟩)] }
def t48L0 : TCode := (.seq (.seq (.region [⟨.mov (.loc 1), none, none⟩, ⟨.mov (.loc 2), none, none⟩, ⟨.bin .lss (.reg 0) (.reg 1), (some 3), none⟩])
   (.cond (.loc 3)
    .skip
    (.exit 0)))
   (.seq (.block 1
    (.draw [0, 1, 2, 3, 4, 5, 6, 7, 8, 9, 10, 11, 12] [(13, [], [14]), (15, [], [])] [⟨.mov (.loc 0), none, none⟩, ⟨.mov (.loc 1), none, none⟩, ⟨.mov (.loc 0), none, none⟩, ⟨.mov (.loc 2), none, none⟩, ⟨.mov (.loc 0), none, none⟩, ⟨.mov (.loc 2), none, none⟩, ⟨.indexAddrS 1 (.reg 4) (.reg 5), none, none⟩, ⟨.load1 (.reg 6), none, none⟩, ⟨.mov (.loc 0), none, none⟩, ⟨.mov (.loc 1), none, none⟩, ⟨.indexAddrS 1 (.reg 8) (.reg 9), none, none⟩, ⟨.load1 (.reg 10), none, none⟩, ⟨.indexAddrS 1 (.reg 0) (.reg 1), none, none⟩, ⟨.store 1 (.reg 12) (.reg 7), none, none⟩, ⟨.indexAddrS 1 (.reg 2) (.reg 3), none, none⟩, ⟨.store 1 (.reg 14) (.reg 11), none, none⟩]))
   (.region [⟨.mov (.loc 1), none, none⟩, ⟨.bin .add (.reg 0) (.cst (.int .i64 1)), none, none⟩, ⟨.mov (.loc 2), none, none⟩, ⟨.bin .sub (.reg 2) (.cst (.int .i64 1)), none, none⟩, ⟨.mov (.reg 1), (some 1), none⟩, ⟨.mov (.reg 3), (some 2), none⟩])))
def t48 : TFunc := ⟨1, 4, [],
 (.seq (.region [⟨.mov (.loc 0), none, none⟩, ⟨.len .sl (.reg 0), none, none⟩, ⟨.bin .sub (.reg 1) (.cst (.int .i64 1)), none, none⟩, ⟨.mov (.cst (.int .i64 0)), (some 1), none⟩, ⟨.mov (.reg 2), (some 2), none⟩])
 (.block 0
  (.loop t48L0)))⟩
theorem c48 : compFunc Tryd.prog opts a48 Tryd.f48 = some t48 := by kernel_rfl
def a49 : Ann := { slots := [0, 1, 4, 5, 7, 8, 10, 12, 13, 15, 22, 29, 39, 40, 41, 42, 49, 63, 64, 65, 66], lb := [], mu := [], trunc := [], draws := [] }
def t49L0 : TCode := (.seq (.region [⟨.bin .lss (.loc 19) (.loc 18), (some 20), none⟩])
   (.seq (.cond (.loc 20)
    .skip
    (.exit 3))
   (.seq (.block 4
    (.seq (.region [⟨.indexAddrS 1 (.loc 17) (.loc 19), none, none⟩, ⟨.load1 (.reg 0), none, none⟩, ⟨.mov (.reg 1), (some 6), none⟩])
    (.seq (.region [⟨.mov (.loc 1), none, none⟩, ⟨.call false false 72 [(.loc 5), (.reg 0)], none, none⟩])
    (.region [⟨.mov (.loc 6), none, none⟩, ⟨.call false false 72 [(.loc 5), (.reg 0)], none, none⟩]))))
   (.region [⟨.bin .add (.loc 19) (.cst (.int .i64 1)), none, none⟩, ⟨.mov (.reg 0), (some 19), none⟩]))))
def t49L1 : TCode := (.seq (.region [⟨.bin .lss (.loc 14) (.loc 13), (some 15), none⟩])
   (.seq (.cond (.loc 15)
    .skip
    (.exit 1))
   (.seq (.block 2
    (.seq (.region [⟨.indexAddrS 1 (.loc 12) (.loc 14), none, none⟩, ⟨.load1 (.reg 0), none, none⟩, ⟨.mov (.reg 1), (some 4), none⟩])
    (.seq (.seq (.region [⟨.mov (.loc 4), none, none⟩, ⟨.len .str (.reg 0), none, none⟩, ⟨.mov (.loc 3), none, none⟩, ⟨.bin .sub (.cst (.int .i64 9223372036854775807)) (.reg 2), none, none⟩, ⟨.bin .gtr (.reg 1) (.reg 3), (some 16), none⟩])
    (.cond (.loc 16)
     (.region [⟨.bad, none, none⟩, ⟨.bad, none, none⟩])
     .skip))
    (.region [⟨.mov (.loc 3), none, none⟩, ⟨.mov (.loc 4), none, none⟩, ⟨.len .str (.reg 1), none, none⟩, ⟨.bin .add (.reg 0) (.reg 2), none, none⟩, ⟨.mov (.reg 3), (some 3), none⟩]))))
   (.region [⟨.bin .add (.loc 14) (.cst (.int .i64 1)), none, none⟩, ⟨.mov (.reg 0), (some 14), none⟩]))))
def t49 : TFunc := ⟨2, 21, [.loc 2],
 (.seq (.region [⟨.mov (.cst (.str [])), (some 2), none⟩])
 (.seq (.seq (.region [⟨.mov (.loc 0), none, none⟩, ⟨.len .sl (.reg 0), (some 7), none⟩])
 (.block 0
  (.seq (.region [⟨.bin .eql (.loc 7) (.cst (.int .i64 0)), none, none⟩, ⟨.mov (.reg 0), (some 8), none⟩])
  (.cond (.loc 8)
   (.seq (.region [⟨.mov (.cst (.str [])), (some 2), none⟩])
   .ret)
   (.seq (.region [⟨.bin .eql (.loc 7) (.cst (.int .i64 1)), none, none⟩, ⟨.mov (.reg 0), (some 9), none⟩])
   (.cond (.loc 9)
    (.seq (.region [⟨.mov (.loc 0), none, none⟩, ⟨.indexAddrS 1 (.reg 0) (.cst (.int .i64 0)), none, none⟩, ⟨.load1 (.reg 1), none, none⟩, ⟨.mov (.reg 2), (some 2), none⟩])
    .ret)
    .skip))))))
 (.seq (.region [⟨.mov (.cst (.int .i64 0)), (some 3), none⟩])
 (.seq (.seq (.region [⟨.mov (.loc 1), none, none⟩, ⟨.len .str (.reg 0), none, none⟩, ⟨.bin .gtr (.reg 1) (.cst (.int .i64 0)), (some 10), none⟩])
 (.cond (.loc 10)
  (.seq (.seq (.region [⟨.mov (.loc 1), none, none⟩, ⟨.len .str (.reg 0), none, none⟩, ⟨.mov (.loc 0), none, none⟩, ⟨.len .sl (.reg 2), none, none⟩, ⟨.bin .sub (.reg 3) (.cst (.int .i64 1)), none, none⟩, ⟨.bin .quo (.cst (.int .i64 9223372036854775807)) (.reg 4), none, none⟩, ⟨.bin .geq (.reg 1) (.reg 5), (some 11), none⟩])
  (.cond (.loc 11)
   (.region [⟨.bad, none, none⟩, ⟨.bad, none, none⟩])
   .skip))
  (.region [⟨.mov (.loc 3), none, none⟩, ⟨.mov (.loc 1), none, none⟩, ⟨.len .str (.reg 1), none, none⟩, ⟨.mov (.loc 0), none, none⟩, ⟨.len .sl (.reg 3), none, none⟩, ⟨.bin .sub (.reg 4) (.cst (.int .i64 1)), none, none⟩, ⟨.bin .mul (.reg 2) (.reg 5), none, none⟩, ⟨.bin .add (.reg 0) (.reg 6), none, none⟩, ⟨.mov (.reg 7), (some 3), none⟩]))
  .skip))
 (.seq (.seq (.region [⟨.mov (.loc 0), (some 12), none⟩, ⟨.len .sl (.reg 0), (some 13), none⟩, ⟨.mov (.cst (.int .i64 0)), (some 14), none⟩])
 (.block 1
  (.loop t49L1)))
 (.seq (.region [⟨.allocH 108 [.nilp, (.sl .nil [])], (some 5), none⟩])
 (.seq (.region [⟨.mov (.loc 3), none, none⟩, ⟨.call false false 71 [(.loc 5), (.reg 0)], none, none⟩])
 (.seq (.region [⟨.mov (.loc 0), none, none⟩, ⟨.indexAddrS 1 (.reg 0) (.cst (.int .i64 0)), none, none⟩, ⟨.load1 (.reg 1), none, none⟩, ⟨.call false false 72 [(.loc 5), (.reg 2)], none, none⟩])
 (.seq (.seq (.region [⟨.mov (.loc 0), none, none⟩, ⟨.slice (.sl 1) (.reg 0) (some (.cst (.int .i64 1))) none none, (some 17), none⟩, ⟨.len .sl (.reg 1), (some 18), none⟩, ⟨.mov (.cst (.int .i64 0)), (some 19), none⟩])
 (.block 3
  (.loop t49L0)))
 (.seq (.region [⟨.prim 74 [(.loc 5)], none, none⟩, ⟨.mov (.reg 0), (some 2), none⟩])
 .ret))))))))))⟩
theorem c49 : compFunc Tryd.prog opts a49 Tryd.f49 = some t49 := by kernel_rfl
def a50 : Ann := { slots := [0, 2, 4], lb := [], mu := [(3, 2)], trunc := [], draws := [] }
def t50 : TFunc := ⟨1, 3, [.loc 1],
 (.seq (.region [⟨.mov (.cst (.sl .nil [])), (some 1), none⟩])
 (.seq (.seq (.region [⟨.mov (.loc 0), none, none⟩, ⟨.eqB false .sl (.reg 0) (.cst (.sl .nil [])), (some 2), none⟩])
 (.cond (.loc 2)
  (.seq (.region [⟨.mov (.cst (.sl .nil [])), (some 1), none⟩])
  .ret)
  .skip))
 (.seq (.region [⟨.lit false [(.int .u16 0)] 0 [], none, none⟩, ⟨.mov (.loc 0), none, none⟩, ⟨.append true 1 2 55 (.reg 0) (.reg 1), none, none⟩, ⟨.mov (.reg 2), (some 1), none⟩])
 .ret)))⟩
theorem c50 : compFunc Tryd.prog opts a50 Tryd.f50 = some t50 := by kernel_rfl
def a51 : Ann := { slots := [0, 1, 4, 5, 6, 11], lb := [4], mu := [], trunc := [], draws := [] }
def t51L0 : TCode := (.seq (.seq (.region [⟨.mov (.loc 4), none, none⟩, ⟨.bin .geq (.reg 0) (.cst (.int .i64 0)), (some 5), none⟩])
   (.cond (.loc 5)
    .skip
    (.exit 0)))
   (.seq (.block 1
    (.region [⟨.mov (.loc 3), none, none⟩, ⟨.mov (.loc 1), none, none⟩, ⟨.mov (.loc 4), none, none⟩, ⟨.indexAddrS 1 (.reg 1) (.reg 2), none, none⟩, ⟨.load1 (.reg 3), none, none⟩, ⟨.conv (.toInt .i64) (.reg 4), none, none⟩, ⟨.call true false 60 [(.reg 0), (.cst (.int .i64 65536)), (.reg 5)], none, none⟩, ⟨.mov (.reg 6), (some 3), none⟩]))
   (.region [⟨.mov (.loc 4), none, none⟩, ⟨.bin .sub (.reg 0) (.cst (.int .i64 1)), none, none⟩, ⟨.mov (.reg 1), (some 4), none⟩])))
def t51 : TFunc := ⟨2, 6, [.cell 2 2 true],
 (.seq (.region [⟨.allocL 2 [(.bool false), (.sl .nil [])], none, none⟩])
 (.seq (.region [⟨.mov (.cst (.sl .nil [])), (some 3), none⟩])
 (.seq (.seq (.region [⟨.mov (.loc 1), none, none⟩, ⟨.len .sl (.reg 0), none, none⟩, ⟨.bin .sub (.reg 1) (.cst (.int .i64 1)), none, none⟩, ⟨.mov (.reg 2), (some 4), none⟩])
 (.block 0
  (.loop t51L0)))
 (.seq (.region [⟨.mov (.loc 0), none, none⟩, ⟨.mov (.loc 3), none, none⟩, ⟨.call true false 43 [(.reg 0), (.reg 1)], none, none⟩, ⟨.store 2 (.loc 2) (.reg 2), none, none⟩])
 .ret))))⟩
theorem c51 : compFunc Tryd.prog opts a51 Tryd.f51 = some t51 := by kernel_rfl
def a52 : Ann := { slots := [0, 1, 2], lb := [], mu := [], trunc := [], draws := [] }
def t52 : TFunc := ⟨1, 3, [.loc 2],
 (.seq (.region [⟨.boxH 24 (.loc 0), (some 1), none⟩, ⟨.mov (.cst .nilf), (some 2), none⟩])
 (.seq (.region [⟨.mkFn 75 [] [(.loc 1)], none, none⟩, ⟨.mov (.reg 0), (some 2), none⟩])
 .ret))⟩
theorem c52 : compFunc Tryd.prog opts a52 Tryd.f52 = some t52 := by kernel_rfl
def a53 : Ann := { slots := [0, 1, 4, 5, 6, 12, 13, 14], lb := [], mu := [], trunc := [], draws := [] }
def t53L0 : TCode := (.seq (.region [⟨.bin .lss (.loc 6) (.loc 5), (some 7), none⟩])
   (.seq (.cond (.loc 7)
    .skip
    (.exit 0))
   (.seq (.block 1
    (.seq (.region [⟨.mov (.loc 6), none, none⟩, ⟨.mov (.reg 0), (some 4), none⟩])
    (.seq (.region [⟨.mov (.loc 3), none, none⟩, ⟨.mov (.loc 0), none, none⟩, ⟨.mov (.loc 4), none, none⟩, ⟨.call true false 76 [(.reg 1), (.reg 2)], none, none⟩, ⟨.mov (.loc 1), none, none⟩, ⟨.mov (.loc 4), none, none⟩, ⟨.call true false 76 [(.reg 4), (.reg 5)], none, none⟩, ⟨.bin .add (.reg 3) (.reg 6), none, none⟩, ⟨.bin .add (.reg 0) (.reg 7), none, none⟩, ⟨.mov (.reg 8), (some 3), none⟩])
    (.seq (.region [⟨.mov (.loc 2), none, none⟩, ⟨.mov (.loc 3), none, none⟩, ⟨.conv (.toInt .u16) (.reg 1), none, none⟩, ⟨.lit false [(.int .u16 0)] 1 [(0, (.reg 2))], none, none⟩, ⟨.append false 1 2 55 (.reg 0) (.reg 3), none, none⟩, ⟨.mov (.reg 4), (some 2), none⟩])
    (.region [⟨.mov (.loc 3), none, none⟩, ⟨.bin .shr (.reg 0) (.cst (.int .u64 16)), none, none⟩, ⟨.mov (.reg 1), (some 3), none⟩])))))
   (.region [⟨.bin .add (.loc 6) (.cst (.int .i64 1)), none, none⟩, ⟨.mov (.reg 0), (some 6), none⟩]))))
def t53 : TFunc := ⟨2, 8, [.loc 2],
 (.seq (.region [⟨.mov (.cst (.sl .nil [])), (some 2), none⟩])
 (.seq (.region [⟨.mov (.cst (.int .u32 0)), (some 3), none⟩])
 (.seq (.seq (.region [⟨.mov (.loc 0), none, none⟩, ⟨.len .sl (.reg 0), none, none⟩, ⟨.mov (.loc 1), none, none⟩, ⟨.len .sl (.reg 2), none, none⟩, ⟨.minmax true [(.reg 1), (.reg 3)], none, none⟩, ⟨.bin .add (.reg 4) (.cst (.int .i64 1)), (some 5), none⟩, ⟨.mov (.cst (.int .i64 0)), (some 6), none⟩])
 (.block 0
  (.loop t53L0)))
 (.seq (.region [⟨.mov (.loc 2), none, none⟩, ⟨.mov (.reg 0), (some 2), none⟩])
 .ret))))⟩
theorem c53 : compFunc Tryd.prog opts a53 Tryd.f53 = some t53 := by kernel_rfl
def a54 : Ann := { slots := [0, 1, 4, 5, 6, 17, 23, 34], lb := [], mu := [], trunc := [], draws := [(8, ⟨[0, 0, 3, 7, 0, 0, 48, 112, 255], [0, 1, 2, 3, 4, 5, 6, 7, 8], []⟩), (9, ⟨[0, 0, 3, 7, 0, 0, 48, 112, 255, 511], [0, 1, 2, 3, 4, 5, 6, 7], [(8, [], [9])]⟩)] }
def t54L0 : TCode := (.seq (.seq (.region [⟨.mov (.loc 4), none, none⟩, ⟨.bin .geq (.reg 0) (.cst (.int .i64 0)), (some 6), none⟩])
   (.cond (.loc 6)
    .skip
    (.exit 0)))
   (.seq (.block 1
    (.seq (.draw [0, 1, 2, 3, 4, 5, 6, 7, 8] [] [⟨.mov (.loc 0), none, none⟩, ⟨.mov (.loc 4), none, none⟩, ⟨.indexAddrS 1 (.reg 0) (.reg 1), none, none⟩, ⟨.load1 (.reg 2), none, none⟩, ⟨.mov (.loc 1), none, none⟩, ⟨.mov (.loc 4), none, none⟩, ⟨.indexAddrS 1 (.reg 4) (.reg 5), none, none⟩, ⟨.load1 (.reg 6), none, none⟩, ⟨.bin .neq (.reg 3) (.reg 7), (some 7), none⟩])
    (.cond (.loc 7)
     (.seq (.draw [0, 1, 2, 3, 4, 5, 6, 7] [(8, [], [9])] [⟨.mov (.loc 0), none, none⟩, ⟨.mov (.loc 4), none, none⟩, ⟨.indexAddrS 1 (.reg 0) (.reg 1), none, none⟩, ⟨.load1 (.reg 2), none, none⟩, ⟨.mov (.loc 1), none, none⟩, ⟨.mov (.loc 4), none, none⟩, ⟨.indexAddrS 1 (.reg 4) (.reg 5), none, none⟩, ⟨.load1 (.reg 6), none, none⟩, ⟨.call true false 78 [(.reg 3), (.reg 7)], none, none⟩, ⟨.mov (.reg 8), (some 2), none⟩])
     .ret)
     .skip)))
   (.region [⟨.mov (.loc 4), none, none⟩, ⟨.bin .sub (.reg 0) (.cst (.int .i64 1)), none, none⟩, ⟨.mov (.reg 1), (some 4), none⟩])))
def t54 : TFunc := ⟨2, 8, [.loc 2],
 (.seq (.region [⟨.mov (.cst (.int .i64 0)), (some 2), none⟩])
 (.seq (.region [⟨.mov (.loc 0), none, none⟩, ⟨.call true false 40 [(.reg 0)], none, none⟩, ⟨.mov (.loc 1), none, none⟩, ⟨.call true false 40 [(.reg 2)], none, none⟩, ⟨.mov (.reg 1), (some 0), none⟩, ⟨.mov (.reg 3), (some 1), none⟩])
 (.seq (.seq (.region [⟨.mov (.loc 0), none, none⟩, ⟨.len .sl (.reg 0), none, none⟩, ⟨.mov (.loc 1), none, none⟩, ⟨.len .sl (.reg 2), none, none⟩, ⟨.call true false 77 [(.reg 1), (.reg 3)], none, none⟩, ⟨.mov (.reg 4), (some 3), none⟩])
 (.seq (.region [⟨.mov (.loc 3), none, none⟩, ⟨.bin .neq (.reg 0) (.cst (.int .i64 0)), (some 5), none⟩])
 (.cond (.loc 5)
  (.seq (.region [⟨.mov (.loc 3), none, none⟩, ⟨.mov (.reg 0), (some 2), none⟩])
  .ret)
  .skip)))
 (.seq (.seq (.region [⟨.mov (.loc 0), none, none⟩, ⟨.len .sl (.reg 0), none, none⟩, ⟨.bin .sub (.reg 1) (.cst (.int .i64 1)), none, none⟩, ⟨.mov (.reg 2), (some 4), none⟩])
 (.block 0
  (.loop t54L0)))
 (.seq (.region [⟨.mov (.cst (.int .i64 0)), (some 2), none⟩])
 .ret)))))⟩
theorem c54 : compFunc Tryd.prog opts a54 Tryd.f54 = some t54 := by kernel_rfl
def a55 : Ann := { slots := [0, 1, 4, 5, 6, 7, 9, 10, 11], lb := [], mu := [], trunc := [], draws := [] }
def t55L0 : TCode := (.seq (.region [⟨.bin .lss (.loc 7) (.loc 6), (some 8), none⟩])
   (.seq (.cond (.loc 8)
    .skip
    (.exit 0))
   (.seq (.block 1
    (.seq (.region [⟨.mov (.loc 7), none, none⟩, ⟨.mov (.reg 0), (some 4), none⟩])
    (.seq (.region [⟨.mov (.loc 0), none, none⟩, ⟨.mov (.loc 4), none, none⟩, ⟨.call true false 76 [(.reg 0), (.reg 1)], none, none⟩, ⟨.bin .add (.cst (.int .u32 65536)) (.reg 2), none, none⟩, ⟨.mov (.loc 1), none, none⟩, ⟨.mov (.loc 4), none, none⟩, ⟨.call true false 76 [(.reg 4), (.reg 5)], none, none⟩, ⟨.bin .sub (.reg 3) (.reg 6), none, none⟩, ⟨.mov (.loc 3), none, none⟩, ⟨.bin .sub (.reg 7) (.reg 8), none, none⟩, ⟨.mov (.reg 9), (some 5), none⟩])
    (.seq (.region [⟨.mov (.loc 2), none, none⟩, ⟨.mov (.loc 5), none, none⟩, ⟨.conv (.toInt .u16) (.reg 1), none, none⟩, ⟨.lit false [(.int .u16 0)] 1 [(0, (.reg 2))], none, none⟩, ⟨.append false 1 2 55 (.reg 0) (.reg 3), none, none⟩, ⟨.mov (.reg 4), (some 2), none⟩])
    (.region [⟨.mov (.loc 5), none, none⟩, ⟨.bin .shr (.reg 0) (.cst (.int .u64 16)), none, none⟩, ⟨.bin .sub (.cst (.int .u32 1)) (.reg 1), none, none⟩, ⟨.mov (.reg 2), (some 3), none⟩])))))
   (.region [⟨.bin .add (.loc 7) (.cst (.int .i64 1)), none, none⟩, ⟨.mov (.reg 0), (some 7), none⟩]))))
def t55 : TFunc := ⟨2, 9, [.loc 2],
 (.seq (.region [⟨.mov (.cst (.sl .nil [])), (some 2), none⟩])
 (.seq (.region [⟨.mov (.cst (.int .u32 0)), (some 3), none⟩])
 (.seq (.seq (.region [⟨.mov (.loc 0), none, none⟩, ⟨.len .sl (.reg 0), (some 6), none⟩, ⟨.mov (.cst (.int .i64 0)), (some 7), none⟩])
 (.block 0
  (.loop t55L0)))
 (.seq (.region [⟨.mov (.loc 2), none, none⟩, ⟨.mov (.reg 0), (some 2), none⟩])
 .ret))))⟩
theorem c55 : compFunc Tryd.prog opts a55 Tryd.f55 = some t55 := by kernel_rfl
def a56 : Ann := { slots := [0, 1, 4, 5, 10, 15, 20, 31, 40], lb := [], mu := [], trunc := [], draws := [(8, ⟨[0, 0, 3, 7, 0, 0, 48, 112, 255], [0, 1, 2, 3, 4, 5, 6, 7, 8], []⟩), (9, ⟨[0, 0, 3, 7, 0, 0, 48, 112, 255], [0, 1, 2, 3, 4, 5, 6, 7, 8], []⟩)] }
def t56L0 : TCode := (.seq (.seq (.region [⟨.mov (.loc 3), none, none⟩, ⟨.bin .geq (.reg 0) (.cst (.int .i64 0)), (some 6), none⟩])
   (.cond (.loc 6)
    .skip
    (.exit 0)))
   (.seq (.block 1
    (.seq (.draw [0, 1, 2, 3, 4, 5, 6, 7, 8] [] [⟨.mov (.loc 0), none, none⟩, ⟨.mov (.loc 3), none, none⟩, ⟨.indexAddrS 1 (.reg 0) (.reg 1), none, none⟩, ⟨.load1 (.reg 2), none, none⟩, ⟨.mov (.loc 1), none, none⟩, ⟨.mov (.loc 3), none, none⟩, ⟨.indexAddrS 1 (.reg 4) (.reg 5), none, none⟩, ⟨.load1 (.reg 6), none, none⟩, ⟨.bin .neq (.reg 3) (.reg 7), (some 7), none⟩])
    (.cond (.loc 7)
     (.seq (.seq (.draw [0, 1, 2, 3, 4, 5, 6, 7, 8] [] [⟨.mov (.loc 0), none, none⟩, ⟨.mov (.loc 3), none, none⟩, ⟨.indexAddrS 1 (.reg 0) (.reg 1), none, none⟩, ⟨.load1 (.reg 2), none, none⟩, ⟨.mov (.loc 1), none, none⟩, ⟨.mov (.loc 3), none, none⟩, ⟨.indexAddrS 1 (.reg 4) (.reg 5), none, none⟩, ⟨.load1 (.reg 6), none, none⟩, ⟨.bin .lss (.reg 3) (.reg 7), (some 8), none⟩])
     (.cond (.loc 8)
      (.seq (.region [⟨.mov (.cst (.int .i64 (-1))), (some 2), none⟩])
      .ret)
      .skip))
     (.seq (.region [⟨.mov (.cst (.int .i64 1)), (some 2), none⟩])
     .ret))
     .skip)))
   (.region [⟨.mov (.loc 3), none, none⟩, ⟨.bin .sub (.reg 0) (.cst (.int .i64 1)), none, none⟩, ⟨.mov (.reg 1), (some 3), none⟩])))
def t56 : TFunc := ⟨2, 9, [.loc 2],
 (.seq (.region [⟨.mov (.cst (.int .i64 0)), (some 2), none⟩])
 (.seq (.seq (.region [⟨.mov (.loc 0), none, none⟩, ⟨.len .sl (.reg 0), none, none⟩, ⟨.mov (.loc 1), none, none⟩, ⟨.len .sl (.reg 2), none, none⟩, ⟨.bin .neq (.reg 1) (.reg 3), (some 4), none⟩])
 (.cond (.loc 4)
  (.seq (.seq (.region [⟨.mov (.loc 0), none, none⟩, ⟨.len .sl (.reg 0), none, none⟩, ⟨.mov (.loc 1), none, none⟩, ⟨.len .sl (.reg 2), none, none⟩, ⟨.bin .lss (.reg 1) (.reg 3), (some 5), none⟩])
  (.cond (.loc 5)
   (.seq (.region [⟨.mov (.cst (.int .i64 (-1))), (some 2), none⟩])
   .ret)
   .skip))
  (.seq (.region [⟨.mov (.cst (.int .i64 1)), (some 2), none⟩])
  .ret))
  .skip))
 (.seq (.seq (.region [⟨.mov (.loc 0), none, none⟩, ⟨.len .sl (.reg 0), none, none⟩, ⟨.bin .sub (.reg 1) (.cst (.int .i64 1)), none, none⟩, ⟨.mov (.reg 2), (some 3), none⟩])
 (.block 0
  (.loop t56L0)))
 (.seq (.region [⟨.mov (.cst (.int .i64 0)), (some 2), none⟩])
 .ret))))⟩
theorem c56 : compFunc Tryd.prog opts a56 Tryd.f56 = some t56 := by kernel_rfl
def a60 : Ann := { slots := [0, 1, 2, 6, 7, 8, 12, 31], lb := [], mu := [], trunc := [], draws := [] }
def t60L0 : TCode := (.seq (.seq (.region [⟨.mov (.loc 2), none, none⟩, ⟨.bin .gtr (.reg 0) (.cst (.int .i64 0)), (some 7), none⟩])
   (.cond (.loc 7)
    .skip
    (.exit 2)))
   (.block 3
    (.seq (.region [⟨.mov (.loc 4), none, none⟩, ⟨.mov (.loc 2), none, none⟩, ⟨.bin .rem (.reg 1) (.cst (.int .i64 10)), none, none⟩, ⟨.lit false [(.int .i64 0)] 1 [(0, (.reg 2))], none, none⟩, ⟨.append false 1 8 3 (.reg 0) (.reg 3), none, none⟩, ⟨.mov (.reg 4), (some 4), none⟩])
    (.region [⟨.mov (.loc 2), none, none⟩, ⟨.bin .quo (.reg 0) (.cst (.int .i64 10)), none, none⟩, ⟨.mov (.reg 1), (some 2), none⟩]))))
def t60L1 : TCode := (.seq (.seq (.region [⟨.mov (.loc 5), none, none⟩, ⟨.mov (.loc 0), none, none⟩, ⟨.len .sl (.reg 1), none, none⟩, ⟨.bin .lss (.reg 0) (.reg 2), (some 6), none⟩])
   (.cond (.loc 6)
    .skip
    (.exit 0)))
   (.seq (.block 1
    (.seq (.region [⟨.mov (.loc 2), none, none⟩, ⟨.mov (.loc 0), none, none⟩, ⟨.mov (.loc 5), none, none⟩, ⟨.indexAddrS 1 (.reg 1) (.reg 2), none, none⟩, ⟨.load1 (.reg 3), none, none⟩, ⟨.mov (.loc 1), none, none⟩, ⟨.bin .mul (.reg 4) (.reg 5), none, none⟩, ⟨.bin .add (.reg 0) (.reg 6), none, none⟩, ⟨.mov (.reg 7), (some 2), none⟩])
    (.seq (.region [⟨.mov (.loc 4), none, none⟩, ⟨.mov (.loc 2), none, none⟩, ⟨.bin .rem (.reg 1) (.cst (.int .i64 10)), none, none⟩, ⟨.lit false [(.int .i64 0)] 1 [(0, (.reg 2))], none, none⟩, ⟨.append false 1 8 3 (.reg 0) (.reg 3), none, none⟩, ⟨.mov (.reg 4), (some 4), none⟩])
    (.region [⟨.mov (.loc 2), none, none⟩, ⟨.bin .quo (.reg 0) (.cst (.int .i64 10)), none, none⟩, ⟨.mov (.reg 1), (some 2), none⟩]))))
   (.region [⟨.mov (.loc 5), none, none⟩, ⟨.bin .add (.reg 0) (.cst (.int .i64 1)), none, none⟩, ⟨.mov (.reg 1), (some 5), none⟩])))
def t60 : TFunc := ⟨3, 8, [.loc 3],
 (.seq (.region [⟨.mov (.cst (.sl .nil [])), (some 3), none⟩])
 (.seq (.region [⟨.mov (.cst (.sl .nil [])), (some 4), none⟩])
 (.seq (.seq (.region [⟨.mov (.cst (.int .i64 0)), (some 5), none⟩])
 (.block 0
  (.loop t60L1)))
 (.seq (.block 2
  (.loop t60L0))
 (.seq (.region [⟨.mov (.loc 4), none, none⟩, ⟨.mov (.reg 0), (some 3), none⟩])
 .ret)))))⟩
theorem c60 : compFunc Tryd.prog opts a60 Tryd.f60 = some t60 := by kernel_rfl
def a62 : Ann := { slots := [0, 2, 3, 15], lb := [], mu := [], trunc := [], draws := [] }
def t62L0 : TCode := (.seq (.seq (.region [⟨.mov (.loc 2), none, none⟩, ⟨.bin .gtr (.reg 0) (.cst (.int .i64 0)), none, none⟩, ⟨.mov (.reg 1), none, none⟩, ⟨.mov (.loc 0), none, (some (2, true))⟩, ⟨.mov (.loc 2), none, (some (2, true))⟩, ⟨.bin .sub (.reg 4) (.cst (.int .i64 1)), none, (some (2, true))⟩, ⟨.indexAddrS 1 (.reg 3) (.reg 5), none, (some (2, true))⟩, ⟨.load1 (.reg 6), none, (some (2, true))⟩, ⟨.bin .eql (.reg 7) (.cst (.int .i64 0)), none, (some (2, true))⟩, ⟨.pick (.reg 2) (.reg 8) (.cst (.bool false)), (some 3), none⟩])
   (.cond (.loc 3)
    .skip
    (.exit 0)))
   (.block 1
    (.region [⟨.mov (.loc 2), none, none⟩, ⟨.bin .sub (.reg 0) (.cst (.int .i64 1)), none, none⟩, ⟨.mov (.reg 1), (some 2), none⟩])))
def t62 : TFunc := ⟨1, 4, [.loc 1],
 (.seq (.region [⟨.mov (.cst (.sl .nil [])), (some 1), none⟩])
 (.seq (.region [⟨.mov (.loc 0), none, none⟩, ⟨.len .sl (.reg 0), none, none⟩, ⟨.mov (.reg 1), (some 2), none⟩])
 (.seq (.block 0
  (.loop t62L0))
 (.seq (.region [⟨.mov (.loc 0), none, none⟩, ⟨.mov (.loc 2), none, none⟩, ⟨.slice (.sl 1) (.reg 0) none (some (.reg 1)) none, none, none⟩, ⟨.mov (.reg 2), (some 1), none⟩])
 .ret))))⟩
theorem c62 : compFunc Tryd.prog opts a62 Tryd.f62 = some t62 := by kernel_rfl
def a63 : Ann := { slots := [0, 1, 4, 13], lb := [], mu := [], trunc := [], draws := [] }
def t63L0 : TCode := (.seq (.seq (.region [⟨.mov (.loc 0), none, none⟩, ⟨.len .str (.reg 0), none, none⟩, ⟨.bin .gtr (.reg 1) (.cst (.int .i64 0)), none, none⟩, ⟨.mov (.reg 2), none, none⟩, ⟨.mov (.loc 0), none, (some (3, true))⟩, ⟨.indexS (.reg 4) (.cst (.int .i64 0)), none, (some (3, true))⟩, ⟨.mov (.loc 1), none, (some (3, true))⟩, ⟨.bin .eql (.reg 5) (.reg 6), none, (some (3, true))⟩, ⟨.pick (.reg 3) (.reg 7) (.cst (.bool false)), (some 3), none⟩])
   (.cond (.loc 3)
    .skip
    (.exit 0)))
   (.block 1
    (.region [⟨.mov (.loc 0), none, none⟩, ⟨.slice .str (.reg 0) (some (.cst (.int .i64 1))) none none, none, none⟩, ⟨.mov (.reg 1), (some 0), none⟩])))
def t63 : TFunc := ⟨2, 4, [.loc 2],
 (.seq (.region [⟨.mov (.cst (.str [])), (some 2), none⟩])
 (.seq (.block 0
  (.loop t63L0))
 (.seq (.region [⟨.mov (.loc 0), none, none⟩, ⟨.mov (.reg 0), (some 2), none⟩])
 .ret)))⟩
theorem c63 : compFunc Tryd.prog opts a63 Tryd.f63 = some t63 := by kernel_rfl
def a64 : Ann := { slots := [0, 2, 3, 4, 5, 9, 16], lb := [2], mu := [], trunc := [], draws := [] }
def t64L0 : TCode := (.seq (.seq (.region [⟨.mov (.loc 3), none, none⟩, ⟨.mov (.loc 0), none, none⟩, ⟨.len .str (.reg 1), none, none⟩, ⟨.bin .lss (.reg 0) (.reg 2), (some 5), none⟩])
   (.cond (.loc 5)
    .skip
    (.exit 0)))
   (.seq (.block 1
    (.seq (.region [⟨.mov (.loc 0), none, none⟩, ⟨.mov (.loc 3), none, none⟩, ⟨.indexS (.reg 0) (.reg 1), none, none⟩, ⟨.mov (.reg 2), (some 4), none⟩])
    (.seq (.seq (.region [⟨.mov (.loc 4), none, none⟩, ⟨.bin .geq (.reg 0) (.cst (.int .u8 128)), (some 6), none⟩])
    (.cond (.loc 6)
     (.seq (.region [⟨.loadN 256 (.loc 1), none, none⟩, ⟨.store 256 (.loc 1) (.reg 0), none, none⟩, ⟨.mov (.cst (.bool false)), (some 2), none⟩])
     .ret)
     .skip))
    (.region [⟨.mov (.loc 4), none, none⟩, ⟨.indexAddrA 256 1 (.loc 1) (.reg 0), none, none⟩, ⟨.store 1 (.reg 1) (.cst (.bool true)), none, none⟩]))))
   (.region [⟨.mov (.loc 3), none, none⟩, ⟨.bin .add (.reg 0) (.cst (.int .i64 1)), none, none⟩, ⟨.mov (.reg 1), (some 3), none⟩])))
def t64 : TFunc := ⟨1, 7, [.cell 1 256 true, .loc 2],
 (.seq (.region [⟨.allocL 1 [(.bool false), (.bool false), (.bool false), (.bool false), (.bool false), (.bool false), (.bool false), (.bool false), (.bool false), (.bool false), (.bool false), (.bool false), (.bool false), (.bool false), (.bool false), (.bool false), (.bool false), (.bool false), (.bool false), (.bool false), (.bool false), (.bool false), (.bool false), (.bool false), (.bool false), (.bool false), (.bool false), (.bool false), (.bool false), (.bool false), (.bool false), (.bool false), (.bool false), (.bool false), (.bool false), (.bool false), (.bool false), (.bool false), (.bool false), (.bool false), (.bool false), (.bool false), (.bool false), (.bool false), (.bool false), (.bool false), (.bool false), (.bool false), (.bool false), (.bool false), (.bool false), (.bool false), (.bool false), (.bool false), (.bool false), (.bool false), (.bool false), (.bool false), (.bool false), (.bool false), (.bool false), (.bool false), (.bool false), (.bool false), (.bool false), (.bool false), (.bool false), (.bool false), (.bool false), (.bool false), (.bool false), (.bool false), (.bool false), (.bool false), (.bool false), (.bool false), (.bool false), (.bool false), (.bool false), (.bool false), (.bool false), (.bool false), (.bool false), (.bool false), (.bool false), (.bool false), (.bool false), (.bool false), (.bool false), (.bool false), (.bool false), (.bool false), (.bool false), (.bool false), (.bool false), (.bool false), (.bool false), (.bool false), (.bool false), (.bool false), (.bool false), (.bool false), (.bool false), (.bool false), (.bool false), (.bool false), (.bool false), (.bool false), (.bool false), (.bool false), (.bool false), (.bool false), (.bool false), (.bool false), (.bool false), (.bool false), (.bool false), (.bool false), (.bool false), (.bool false), (.bool false), (.bool false), (.bool false), (.bool false), (.bool false), (.bool false), (.bool false), (.bool false), (.bool false), (.bool false), (.bool false), (.bool false), (.bool false), (.bool false), (.bool false), (.bool false), (.bool false), (.bool false), (.bool false), (.bool false), (.bool false), (.bool false), (.bool false), (.bool false), (.bool false), (.bool false), (.bool false), (.bool false), (.bool false), (.bool false), (.bool false), (.bool false), (.bool false), (.bool false), (.bool false), (.bool false), (.bool false), (.bool false), (.bool false), (.bool false), (.bool false), (.bool false), (.bool false), (.bool false), (.bool false), (.bool false), (.bool false), (.bool false), (.bool false), (.bool false), (.bool false), (.bool false), (.bool false), (.bool false), (.bool false), (.bool false), (.bool false), (.bool false), (.bool false), (.bool false), (.bool false), (.bool false), (.bool false), (.bool false), (.bool false), (.bool false), (.bool false), (.bool false), (.bool false), (.bool false), (.bool false), (.bool false), (.bool false), (.bool false), (.bool false), (.bool false), (.bool false), (.bool false), (.bool false), (.bool false), (.bool false), (.bool false), (.bool false), (.bool false), (.bool false), (.bool false), (.bool false), (.bool false), (.bool false), (.bool false), (.bool false), (.bool false), (.bool false), (.bool false), (.bool false), (.bool false), (.bool false), (.bool false), (.bool false), (.bool false), (.bool false), (.bool false), (.bool false), (.bool false), (.bool false), (.bool false), (.bool false), (.bool false), (.bool false), (.bool false), (.bool false), (.bool false), (.bool false), (.bool false), (.bool false), (.bool false), (.bool false), (.bool false), (.bool false), (.bool false), (.bool false), (.bool false), (.bool false), (.bool false), (.bool false), (.bool false), (.bool false), (.bool false), (.bool false), (.bool false), (.bool false), (.bool false), (.bool false), (.bool false), (.bool false), (.bool false)], none, none⟩, ⟨.mov (.cst (.bool false)), (some 2), none⟩])
 (.seq (.seq (.region [⟨.mov (.cst (.int .i64 0)), (some 3), none⟩])
 (.block 0
  (.loop t64L0)))
 (.seq (.region [⟨.loadN 256 (.loc 1), none, none⟩, ⟨.store 256 (.loc 1) (.reg 0), none, none⟩, ⟨.mov (.cst (.bool true)), (some 2), none⟩])
 .ret)))⟩
theorem c64 : compFunc Tryd.prog opts a64 Tryd.f64 = some t64 := by kernel_rfl
def a65 : Ann := { slots := [0, 1, 4, 7, 12], lb := [], mu := [], trunc := [], draws := [] }
def t65L0 : TCode := (.seq (.seq (.region [⟨.mov (.loc 0), none, none⟩, ⟨.len .str (.reg 0), none, none⟩, ⟨.bin .gtr (.reg 1) (.cst (.int .i64 0)), (some 3), none⟩])
   (.cond (.loc 3)
    .skip
    (.exit 0)))
   (.block 1
    (.seq (.seq (.region [⟨.mov (.loc 1), none, none⟩, ⟨.mov (.loc 0), none, none⟩, ⟨.indexS (.reg 1) (.cst (.int .i64 0)), none, none⟩, ⟨.call false false 80 [(.reg 0), (.reg 2)], none, none⟩, ⟨.un .not (.reg 3), (some 4), none⟩])
    (.cond (.loc 4)
     (.exit 0)
     .skip))
    (.region [⟨.mov (.loc 0), none, none⟩, ⟨.slice .str (.reg 0) (some (.cst (.int .i64 1))) none none, none, none⟩, ⟨.mov (.reg 1), (some 0), none⟩]))))
def t65 : TFunc := ⟨2, 5, [.loc 2],
 (.seq (.region [⟨.mov (.cst (.str [])), (some 2), none⟩])
 (.seq (.block 0
  (.loop t65L0))
 (.seq (.region [⟨.mov (.loc 0), none, none⟩, ⟨.mov (.reg 0), (some 2), none⟩])
 .ret)))⟩
theorem c65 : compFunc Tryd.prog opts a65 Tryd.f65 = some t65 := by kernel_rfl
def a66 : Ann := { slots := [0, 1, 4, 5, 6, 9, 18], lb := [], mu := [], trunc := [], draws := [] }
def t66L0 : TCode := (.seq (.seq (.region [⟨.mov (.loc 0), none, none⟩, ⟨.len .str (.reg 0), none, none⟩, ⟨.bin .gtr (.reg 1) (.cst (.int .i64 0)), (some 5), none⟩])
   (.cond (.loc 5)
    .skip
    (.exit 0)))
   (.block 1
    (.seq (.region [⟨.mov (.loc 0), none, none⟩, ⟨.call true false 81 [(.reg 0)], none, none⟩, ⟨.mov (.reg 1), none, none⟩, ⟨.extract 0 (.reg 2), none, none⟩, ⟨.extract 1 (.reg 2), none, none⟩, ⟨.mov (.reg 3), (some 3), none⟩, ⟨.mov (.reg 4), (some 4), none⟩])
    (.seq (.seq (.region [⟨.mov (.loc 1), none, none⟩, ⟨.mov (.loc 3), none, none⟩, ⟨.call true false 82 [(.reg 0), (.reg 1)], none, none⟩, ⟨.un .not (.reg 2), (some 6), none⟩])
    (.cond (.loc 6)
     (.exit 0)
     .skip))
    (.region [⟨.mov (.loc 0), none, none⟩, ⟨.mov (.loc 4), none, none⟩, ⟨.slice .str (.reg 0) (some (.reg 1)) none none, none, none⟩, ⟨.mov (.reg 2), (some 0), none⟩])))))
def t66 : TFunc := ⟨2, 7, [.loc 2],
 (.seq (.region [⟨.mov (.cst (.str [])), (some 2), none⟩])
 (.seq (.block 0
  (.loop t66L0))
 (.seq (.region [⟨.mov (.loc 0), none, none⟩, ⟨.mov (.reg 0), (some 2), none⟩])
 .ret)))⟩
theorem c66 : compFunc Tryd.prog opts a66 Tryd.f66 = some t66 := by kernel_rfl
def a67 : Ann := { slots := [0, 2, 3, 4, 5, 6, 14], lb := [], mu := [], trunc := [], draws := [] }
def t67L0 : TCode := (.seq (.seq (.region [⟨.mov (.loc 5), none, none⟩, ⟨.bin .geq (.reg 0) (.cst (.int .i64 0)), (some 6), none⟩])
   (.cond (.loc 6)
    .skip
    (.exit 0)))
   (.seq (.block 1
    (.seq (.region [⟨.mov (.loc 4), none, none⟩, ⟨.bin .mul (.cst (.int .i64 10)) (.reg 0), none, none⟩, ⟨.mov (.loc 0), none, none⟩, ⟨.mov (.loc 5), none, none⟩, ⟨.indexAddrS 1 (.reg 2) (.reg 3), none, none⟩, ⟨.load1 (.reg 4), none, none⟩, ⟨.bin .add (.reg 1) (.reg 5), none, none⟩, ⟨.mov (.reg 6), (some 4), none⟩])
    (.seq (.region [⟨.mov (.loc 3), none, none⟩, ⟨.mov (.loc 5), none, none⟩, ⟨.mov (.loc 4), none, none⟩, ⟨.bin .quo (.reg 2) (.cst (.int .i64 65536)), none, none⟩, ⟨.indexAddrS 1 (.reg 0) (.reg 1), none, none⟩, ⟨.store 1 (.reg 4) (.reg 3), none, none⟩])
    (.region [⟨.mov (.loc 4), none, none⟩, ⟨.bin .rem (.reg 0) (.cst (.int .i64 65536)), none, none⟩, ⟨.mov (.reg 1), (some 4), none⟩]))))
   (.region [⟨.mov (.loc 5), none, none⟩, ⟨.bin .sub (.reg 0) (.cst (.int .i64 1)), none, none⟩, ⟨.mov (.reg 1), (some 5), none⟩])))
def t67 : TFunc := ⟨1, 7, [.loc 1, .loc 2],
 (.seq (.region [⟨.mov (.cst (.sl .nil [])), (some 1), none⟩, ⟨.mov (.cst (.int .i64 0)), (some 2), none⟩])
 (.seq (.region [⟨.mov (.loc 0), none, none⟩, ⟨.len .sl (.reg 0), none, none⟩, ⟨.mkSlice [(.int .i64 0)] 8 (.reg 1) (.reg 1), none, none⟩, ⟨.mov (.reg 2), (some 3), none⟩])
 (.seq (.region [⟨.mov (.cst (.int .i64 0)), (some 4), none⟩])
 (.seq (.seq (.region [⟨.mov (.loc 0), none, none⟩, ⟨.len .sl (.reg 0), none, none⟩, ⟨.bin .sub (.reg 1) (.cst (.int .i64 1)), none, none⟩, ⟨.mov (.reg 2), (some 5), none⟩])
 (.block 0
  (.loop t67L0)))
 (.seq (.region [⟨.mov (.loc 3), none, none⟩, ⟨.call true false 62 [(.reg 0)], none, none⟩, ⟨.mov (.loc 4), none, none⟩, ⟨.mov (.reg 1), (some 1), none⟩, ⟨.mov (.reg 2), (some 2), none⟩])
 .ret)))))⟩
theorem c67 : compFunc Tryd.prog opts a67 Tryd.f67 = some t67 := by kernel_rfl
def a68 : Ann := { slots := [0, 2], lb := [], mu := [], trunc := [], draws := [] }
def t68 : TFunc := ⟨1, 2, [.loc 1],
 (.seq (.region [⟨.mov (.cst (.str [])), (some 1), none⟩])
 (.seq (.region [⟨.mov (.loc 0), none, none⟩, ⟨.call true false 83 [(.reg 0), (.cst (.int .i64 10))], none, none⟩, ⟨.mov (.reg 1), (some 1), none⟩])
 .ret))⟩
theorem c68 : compFunc Tryd.prog opts a68 Tryd.f68 = some t68 := by kernel_rfl
def a69 : Ann := { slots := [0, 1, 4, 5, 6, 7, 8, 9], lb := [], mu := [], trunc := [], draws := [] }
def t69 : TFunc := ⟨2, 8, [.loc 2, .loc 3],
 (.seq (.region [⟨.mov (.cst (.int .u64 0)), (some 2), none⟩, ⟨.mov (.cst (.int .u64 0)), (some 3), none⟩])
 (.seq (.cond (.cst (.bool false))
  (.seq (.region [⟨.mov (.loc 0), none, none⟩, ⟨.conv (.toInt .u32) (.reg 0), none, none⟩, ⟨.mov (.loc 1), none, none⟩, ⟨.conv (.toInt .u32) (.reg 2), none, none⟩, ⟨.call true false 84 [(.reg 1), (.reg 3)], none, none⟩, ⟨.mov (.reg 4), none, none⟩, ⟨.extract 0 (.reg 5), none, none⟩, ⟨.extract 1 (.reg 5), none, none⟩, ⟨.mov (.reg 6), (some 4), none⟩, ⟨.mov (.reg 7), (some 5), none⟩])
  (.seq (.region [⟨.mov (.loc 4), none, none⟩, ⟨.conv (.toInt .u64) (.reg 0), none, none⟩, ⟨.mov (.loc 5), none, none⟩, ⟨.conv (.toInt .u64) (.reg 2), none, none⟩, ⟨.mov (.reg 1), (some 2), none⟩, ⟨.mov (.reg 3), (some 3), none⟩])
  .ret))
  .skip)
 (.seq (.region [⟨.mov (.loc 0), none, none⟩, ⟨.mov (.loc 1), none, none⟩, ⟨.call true false 85 [(.reg 0), (.reg 1)], none, none⟩, ⟨.mov (.reg 2), none, none⟩, ⟨.extract 0 (.reg 3), none, none⟩, ⟨.extract 1 (.reg 3), none, none⟩, ⟨.mov (.reg 4), (some 6), none⟩, ⟨.mov (.reg 5), (some 7), none⟩])
 (.seq (.region [⟨.mov (.loc 6), none, none⟩, ⟨.mov (.loc 7), none, none⟩, ⟨.mov (.reg 0), (some 2), none⟩, ⟨.mov (.reg 1), (some 3), none⟩])
 .ret))))⟩
theorem c69 : compFunc Tryd.prog opts a69 Tryd.f69 = some t69 := by kernel_rfl
def a70 : Ann := { slots := [0, 1, 4], lb := [], mu := [], trunc := [], draws := [] }
def t70 : TFunc := ⟨2, 3, [.loc 2],
 (.seq (.region [⟨.mov (.cst (.bool false)), (some 2), none⟩])
 (.seq (.region [⟨.mov (.loc 0), none, none⟩, ⟨.mov (.loc 1), none, none⟩, ⟨.call true false 86 [(.reg 0), (.reg 1)], none, none⟩, ⟨.mov (.reg 2), (some 2), none⟩])
 .ret))⟩
theorem c70 : compFunc Tryd.prog opts a70 Tryd.f70 = some t70 := by kernel_rfl
def a71 : Ann := { slots := [0, 1, 7, 21], lb := [], mu := [], trunc := [], draws := [(3, ⟨[0, 1, 3, 7, 15, 0, 32, 96, 224, 480, 1023, 0, 4095], [0, 1, 2, 3, 4, 5, 6, 7, 8, 9, 10, 11, 12], []⟩)] }
def t71 : TFunc := ⟨2, 4, [],
 (.seq (.region [⟨.mov (.loc 0), none, none⟩, ⟨.prim 87 [(.reg 0)], none, none⟩])
 (.seq (.seq (.region [⟨.mov (.loc 1), none, none⟩, ⟨.bin .lss (.reg 0) (.cst (.int .i64 0)), (some 2), none⟩])
 (.cond (.loc 2)
  (.region [⟨.bad, none, none⟩, ⟨.bad, none, none⟩])
  .skip))
 (.seq (.draw [0, 1, 2, 3, 4, 5, 6, 7, 8, 9, 10, 11, 12] [] [⟨.mov (.loc 0), none, none⟩, ⟨.nilCheck (.reg 0), none, none⟩, ⟨.fieldAddr 1 (.reg 1), none, none⟩, ⟨.load1 (.reg 2), none, none⟩, ⟨.cap (.reg 3), none, none⟩, ⟨.mov (.loc 0), none, none⟩, ⟨.nilCheck (.reg 5), none, none⟩, ⟨.fieldAddr 1 (.reg 6), none, none⟩, ⟨.load1 (.reg 7), none, none⟩, ⟨.len .sl (.reg 8), none, none⟩, ⟨.bin .sub (.reg 4) (.reg 9), none, none⟩, ⟨.mov (.loc 1), none, none⟩, ⟨.bin .lss (.reg 10) (.reg 11), (some 3), none⟩])
 (.cond (.loc 3)
  (.region [⟨.mov (.loc 0), none, none⟩, ⟨.mov (.loc 1), none, none⟩, ⟨.call false false 88 [(.reg 0), (.reg 1)], none, none⟩])
  .skip))))⟩
theorem c71 : compFunc Tryd.prog opts a71 Tryd.f71 = some t71 := by kernel_rfl
def a72 : Ann := { slots := [0, 1, 4, 5], lb := [], mu := [], trunc := [], draws := [] }
def t72 : TFunc := ⟨2, 4, [.loc 2, .loc 3],
 (.seq (.region [⟨.mov (.cst (.int .i64 0)), (some 2), none⟩, ⟨.mov (.cst .nili), (some 3), none⟩])
 (.seq (.region [⟨.mov (.loc 0), none, none⟩, ⟨.prim 87 [(.reg 0)], none, none⟩])
 (.seq (.region [⟨.mov (.loc 0), none, none⟩, ⟨.mov (.loc 0), none, none⟩, ⟨.nilCheck (.reg 1), none, none⟩, ⟨.fieldAddr 1 (.reg 2), none, none⟩, ⟨.load1 (.reg 3), none, none⟩, ⟨.mov (.loc 1), none, none⟩, ⟨.append false 1 1 5 (.reg 4) (.reg 5), none, none⟩, ⟨.nilCheck (.reg 0), none, none⟩, ⟨.fieldAddr 1 (.reg 7), none, none⟩, ⟨.store 1 (.reg 8) (.reg 6), none, none⟩])
 (.seq (.region [⟨.mov (.loc 1), none, none⟩, ⟨.len .str (.reg 0), none, none⟩, ⟨.mov (.reg 1), (some 2), none⟩, ⟨.mov (.cst .nili), (some 3), none⟩])
 .ret))))⟩
theorem c72 : compFunc Tryd.prog opts a72 Tryd.f72 = some t72 := by kernel_rfl
def a73 : Ann := { slots := [0, 2], lb := [], mu := [], trunc := [], draws := [] }
def t73 : TFunc := ⟨1, 2, [.loc 1],
 (.seq (.region [⟨.mov (.cst (.int .i64 0)), (some 1), none⟩])
 (.seq (.region [⟨.mov (.loc 0), none, none⟩, ⟨.nilCheck (.reg 0), none, none⟩, ⟨.fieldAddr 1 (.reg 1), none, none⟩, ⟨.load1 (.reg 2), none, none⟩, ⟨.len .sl (.reg 3), none, none⟩, ⟨.mov (.reg 4), (some 1), none⟩])
 .ret))⟩
theorem c73 : compFunc Tryd.prog opts a73 Tryd.f73 = some t73 := by kernel_rfl
def a75 : Ann := { slots := [0, 1, 3, 8, 18], lb := [], mu := [], trunc := [], draws := [] }
def t75L0 : TCode := (.seq (.seq (.region [⟨.mov (.loc 2), none, none⟩, ⟨.bin .geq (.reg 0) (.cst (.int .i64 0)), (some 3), none⟩])
   (.cond (.loc 3)
    .skip
    (.exit 0)))
   (.seq (.block 1
    (.seq (.region [⟨.mov (.loc 0), none, none⟩, ⟨.mov (.loc 2), none, none⟩, ⟨.load1 (.loc 1), none, none⟩, ⟨.mov (.loc 2), none, none⟩, ⟨.indexAddrS 1 (.reg 2) (.reg 3), none, none⟩, ⟨.load1 (.reg 4), none, none⟩, ⟨.callv (.reg 0) [(.reg 1), (.reg 5)], none, none⟩, ⟨.un .not (.reg 6), (some 4), none⟩])
    (.cond (.loc 4)
     .ret
     .skip)))
   (.region [⟨.mov (.loc 2), none, none⟩, ⟨.bin .sub (.reg 0) (.cst (.int .i64 1)), none, none⟩, ⟨.mov (.reg 1), (some 2), none⟩])))
def t75 : TFunc := ⟨2, 5, [],
 (.seq (.region [⟨.load1 (.loc 1), none, none⟩, ⟨.len .sl (.reg 0), none, none⟩, ⟨.bin .sub (.reg 1) (.cst (.int .i64 1)), none, none⟩, ⟨.mov (.reg 2), (some 2), none⟩])
 (.block 0
  (.loop t75L0)))⟩
theorem c75 : compFunc Tryd.prog opts a75 Tryd.f75 = some t75 := by kernel_rfl
def a76 : Ann := { slots := [0, 1, 4, 8], lb := [], mu := [], trunc := [], draws := [] }
def t76 : TFunc := ⟨2, 4, [.loc 2],
 (.seq (.region [⟨.mov (.cst (.int .u32 0)), (some 2), none⟩])
 (.seq (.seq (.region [⟨.mov (.loc 1), none, none⟩, ⟨.mov (.loc 0), none, none⟩, ⟨.len .sl (.reg 1), none, none⟩, ⟨.bin .geq (.reg 0) (.reg 2), (some 3), none⟩])
 (.cond (.loc 3)
  (.seq (.region [⟨.mov (.cst (.int .u32 0)), (some 2), none⟩])
  .ret)
  .skip))
 (.seq (.region [⟨.mov (.loc 0), none, none⟩, ⟨.mov (.loc 1), none, none⟩, ⟨.indexAddrS 1 (.reg 0) (.reg 1), none, none⟩, ⟨.load1 (.reg 2), none, none⟩, ⟨.conv (.toInt .u32) (.reg 3), none, none⟩, ⟨.mov (.reg 4), (some 2), none⟩])
 .ret)))⟩
theorem c76 : compFunc Tryd.prog opts a76 Tryd.f76 = some t76 := by kernel_rfl
def a77 : Ann := { slots := [0, 1, 4, 5, 6, 11, 12, 13, 16, 19], lb := [], mu := [], trunc := [], draws := [] }
def t77 : TFunc := ⟨2, 10, [.loc 2],
 (.seq (.region [⟨.mov (.cst (.int .i64 0)), (some 2), none⟩])
 (.seq (.region [⟨.mov (.loc 0), none, none⟩, ⟨.call true false 89 [(.reg 0)], none, none⟩, ⟨.mov (.reg 1), (some 3), none⟩])
 (.seq (.region [⟨.mov (.loc 1), none, none⟩, ⟨.call true false 89 [(.reg 0)], none, none⟩, ⟨.mov (.reg 1), (some 4), none⟩])
 (.seq (.seq (.region [⟨.mov (.loc 3), (some 5), none⟩])
 (.cond (.loc 5)
  (.seq (.seq (.region [⟨.mov (.loc 4), (some 6), none⟩])
  (.cond (.loc 6)
   (.seq (.region [⟨.mov (.cst (.int .i64 0)), (some 2), none⟩])
   .ret)
   .skip))
  (.seq (.region [⟨.mov (.cst (.int .i64 (-1))), (some 2), none⟩])
  .ret))
  .skip))
 (.seq (.seq (.region [⟨.mov (.loc 4), (some 7), none⟩])
 (.cond (.loc 7)
  (.seq (.region [⟨.mov (.cst (.int .i64 1)), (some 2), none⟩])
  .ret)
  .skip))
 (.seq (.seq (.region [⟨.mov (.loc 0), none, none⟩, ⟨.mov (.loc 1), none, none⟩, ⟨.bin .lss (.reg 0) (.reg 1), (some 8), none⟩])
 (.cond (.loc 8)
  (.seq (.region [⟨.mov (.cst (.int .i64 (-1))), (some 2), none⟩])
  .ret)
  .skip))
 (.seq (.seq (.region [⟨.mov (.loc 0), none, none⟩, ⟨.mov (.loc 1), none, none⟩, ⟨.bin .gtr (.reg 0) (.reg 1), (some 9), none⟩])
 (.cond (.loc 9)
  (.seq (.region [⟨.mov (.cst (.int .i64 1)), (some 2), none⟩])
  .ret)
  .skip))
 (.seq (.region [⟨.mov (.cst (.int .i64 0)), (some 2), none⟩])
 .ret))))))))⟩
theorem c77 : compFunc Tryd.prog opts a77 Tryd.f77 = some t77 := by kernel_rfl
def a78 : Ann := { slots := [0, 1, 4, 5, 6, 11, 12, 13, 16, 19], lb := [], mu := [], trunc := [], draws := [] }
def t78 : TFunc := ⟨2, 10, [.loc 2],
 (.seq (.region [⟨.mov (.cst (.int .i64 0)), (some 2), none⟩])
 (.seq (.region [⟨.mov (.loc 0), none, none⟩, ⟨.call true false 90 [(.reg 0)], none, none⟩, ⟨.mov (.reg 1), (some 3), none⟩])
 (.seq (.region [⟨.mov (.loc 1), none, none⟩, ⟨.call true false 90 [(.reg 0)], none, none⟩, ⟨.mov (.reg 1), (some 4), none⟩])
 (.seq (.seq (.region [⟨.mov (.loc 3), (some 5), none⟩])
 (.cond (.loc 5)
  (.seq (.seq (.region [⟨.mov (.loc 4), (some 6), none⟩])
  (.cond (.loc 6)
   (.seq (.region [⟨.mov (.cst (.int .i64 0)), (some 2), none⟩])
   .ret)
   .skip))
  (.seq (.region [⟨.mov (.cst (.int .i64 (-1))), (some 2), none⟩])
  .ret))
  .skip))
 (.seq (.seq (.region [⟨.mov (.loc 4), (some 7), none⟩])
 (.cond (.loc 7)
  (.seq (.region [⟨.mov (.cst (.int .i64 1)), (some 2), none⟩])
  .ret)
  .skip))
 (.seq (.seq (.region [⟨.mov (.loc 0), none, none⟩, ⟨.mov (.loc 1), none, none⟩, ⟨.bin .lss (.reg 0) (.reg 1), (some 8), none⟩])
 (.cond (.loc 8)
  (.seq (.region [⟨.mov (.cst (.int .i64 (-1))), (some 2), none⟩])
  .ret)
  .skip))
 (.seq (.seq (.region [⟨.mov (.loc 0), none, none⟩, ⟨.mov (.loc 1), none, none⟩, ⟨.bin .gtr (.reg 0) (.reg 1), (some 9), none⟩])
 (.cond (.loc 9)
  (.seq (.region [⟨.mov (.cst (.int .i64 1)), (some 2), none⟩])
  .ret)
  .skip))
 (.seq (.region [⟨.mov (.cst (.int .i64 0)), (some 2), none⟩])
 .ret))))))))⟩
theorem c78 : compFunc Tryd.prog opts a78 Tryd.f78 = some t78 := by kernel_rfl
def a80 : Ann := { slots := [0, 1, 4], lb := [], mu := [], trunc := [], draws := [] }
def t80 : TFunc := ⟨2, 3, [.loc 2],
 (.seq (.region [⟨.mov (.cst (.bool false)), (some 2), none⟩])
 (.seq (.region [⟨.mov (.loc 0), none, none⟩, ⟨.mov (.loc 1), none, none⟩, ⟨.nilCheck (.reg 0), none, none⟩, ⟨.indexAddrA 256 1 (.reg 2) (.reg 1), none, none⟩, ⟨.load1 (.reg 3), none, none⟩, ⟨.mov (.reg 4), (some 2), none⟩])
 .ret))⟩
theorem c80 : compFunc Tryd.prog opts a80 Tryd.f80 = some t80 := by kernel_rfl
def a81 : Ann := { slots := [0, 2, 3, 10], lb := [], mu := [], trunc := [], draws := [] }
def t81 : TFunc := ⟨1, 4, [.loc 1, .loc 2],
 (.seq (.region [⟨.mov (.cst (.int .i32 0)), (some 1), none⟩, ⟨.mov (.cst (.int .i64 0)), (some 2), none⟩])
 (.seq (.seq (.region [⟨.mov (.loc 0), none, none⟩, ⟨.bin .neq (.reg 0) (.cst (.str [])), none, none⟩, ⟨.mov (.reg 1), none, none⟩, ⟨.mov (.loc 0), none, (some (2, true))⟩, ⟨.indexS (.reg 3) (.cst (.int .i64 0)), none, (some (2, true))⟩, ⟨.bin .lss (.reg 4) (.cst (.int .u8 128)), none, (some (2, true))⟩, ⟨.pick (.reg 2) (.reg 5) (.cst (.bool false)), (some 3), none⟩])
 (.cond (.loc 3)
  (.seq (.region [⟨.mov (.loc 0), none, none⟩, ⟨.indexS (.reg 0) (.cst (.int .i64 0)), none, none⟩, ⟨.conv (.toInt .i32) (.reg 1), none, none⟩, ⟨.mov (.reg 2), (some 1), none⟩, ⟨.mov (.cst (.int .i64 1)), (some 2), none⟩])
  .ret)
  (.region [⟨.mov (.loc 0), none, none⟩, ⟨.call true false 91 [(.reg 0)], none, none⟩, ⟨.mov (.reg 1), none, none⟩, ⟨.extract 0 (.reg 2), none, none⟩, ⟨.extract 1 (.reg 2), none, none⟩, ⟨.mov (.reg 3), (some 1), none⟩, ⟨.mov (.reg 4), (some 2), none⟩])))
 .ret))⟩
theorem c81 : compFunc Tryd.prog opts a81 Tryd.f81 = some t81 := by kernel_rfl
def a82 : Ann := { slots := [0, 1, 4], lb := [], mu := [], trunc := [], draws := [] }
def t82 : TFunc := ⟨2, 3, [.loc 2],
 (.seq (.region [⟨.mov (.cst (.bool false)), (some 2), none⟩])
 (.seq (.region [⟨.mov (.loc 0), none, none⟩, ⟨.mov (.loc 1), none, none⟩, ⟨.call true false 92 [(.reg 0), (.reg 1)], none, none⟩, ⟨.bin .geq (.reg 2) (.cst (.int .i64 0)), none, none⟩, ⟨.mov (.reg 3), (some 2), none⟩])
 .ret))⟩
theorem c82 : compFunc Tryd.prog opts a82 Tryd.f82 = some t82 := by kernel_rfl
def a83 : Ann := { slots := [0, 1, 4, 5, 6, 7, 9, 11, 17, 23, 34], lb := [], mu := [], trunc := [], draws := [] }
def t83 : TFunc := ⟨2, 11, [.loc 2],
 (.seq (.region [⟨.mov (.cst (.str [])), (some 2), none⟩])
 (.seq (.seq (.region [⟨.mov (.loc 1), none, none⟩, ⟨.bin .eql (.reg 0) (.cst (.int .i64 10)), (some 7), none⟩])
 (.cond (.loc 7)
  (.seq (.seq (.region [⟨.mov (.loc 0), none, none⟩, ⟨.bin .leq (.cst (.int .i64 0)) (.reg 0), none, none⟩, ⟨.mov (.reg 1), none, none⟩, ⟨.mov (.loc 0), none, (some (2, true))⟩, ⟨.bin .lss (.reg 3) (.cst (.int .i64 100)), none, (some (2, true))⟩, ⟨.pick (.reg 2) (.reg 4) (.cst (.bool false)), (some 8), none⟩])
  (.cond (.loc 8)
   (.seq (.region [⟨.mov (.loc 0), none, none⟩, ⟨.call true false 93 [(.reg 0)], none, none⟩, ⟨.mov (.reg 1), (some 2), none⟩])
   .ret)
   .skip))
  (.seq (.region [⟨.allocH 134 [(.int .u8 0), (.int .u8 0), (.int .u8 0), (.int .u8 0), (.int .u8 0), (.int .u8 0), (.int .u8 0), (.int .u8 0), (.int .u8 0), (.int .u8 0), (.int .u8 0), (.int .u8 0), (.int .u8 0), (.int .u8 0), (.int .u8 0), (.int .u8 0), (.int .u8 0), (.int .u8 0), (.int .u8 0), (.int .u8 0), (.int .u8 0), (.int .u8 0), (.int .u8 0), (.int .u8 0)], (some 3), none⟩])
  (.seq (.region [⟨.mov (.loc 0), none, none⟩, ⟨.conv (.toInt .u64) (.reg 0), none, none⟩, ⟨.mov (.reg 1), (some 4), none⟩])
  (.seq (.seq (.region [⟨.mov (.loc 0), none, none⟩, ⟨.bin .lss (.reg 0) (.cst (.int .i64 0)), (some 9), none⟩])
  (.cond (.loc 9)
   (.region [⟨.mov (.loc 4), none, none⟩, ⟨.un .neg (.reg 0), none, none⟩, ⟨.mov (.reg 1), (some 4), none⟩])
   .skip))
  (.seq (.region [⟨.mov (.loc 4), none, none⟩, ⟨.call true false 94 [(.reg 0)], none, none⟩, ⟨.mov (.reg 1), (some 5), none⟩])
  (.seq (.region [⟨.mov (.loc 5), none, none⟩, ⟨.bin .add (.cst (.int .i64 1)) (.reg 0), none, none⟩, ⟨.slice (.arr 24 1) (.loc 3) (some (.cst (.int .i64 1))) (some (.reg 1)) none, none, none⟩, ⟨.mov (.loc 4), none, none⟩, ⟨.call false false 95 [(.reg 2), (.reg 3)], none, none⟩])
  (.seq (.seq (.region [⟨.mov (.loc 0), none, none⟩, ⟨.bin .lss (.reg 0) (.cst (.int .i64 0)), (some 10), none⟩])
  (.cond (.loc 10)
   (.seq (.region [⟨.indexAddrA 24 1 (.loc 3) (.cst (.int .i64 0)), none, none⟩, ⟨.store 1 (.reg 0) (.cst (.int .u8 45)), none, none⟩])
   (.seq (.region [⟨.mov (.loc 5), none, none⟩, ⟨.bin .add (.cst (.int .i64 1)) (.reg 0), none, none⟩, ⟨.slice (.arr 24 1) (.loc 3) none (some (.reg 1)) none, none, none⟩, ⟨.conv .bytesStr (.reg 2), none, none⟩, ⟨.mov (.reg 3), (some 2), none⟩])
   .ret))
   .skip))
  (.seq (.region [⟨.mov (.loc 5), none, none⟩, ⟨.bin .add (.cst (.int .i64 1)) (.reg 0), none, none⟩, ⟨.slice (.arr 24 1) (.loc 3) (some (.cst (.int .i64 1))) (some (.reg 1)) none, none, none⟩, ⟨.conv .bytesStr (.reg 2), none, none⟩, ⟨.mov (.reg 3), (some 2), none⟩])
  .ret))))))))
  .skip))
 (.seq (.region [⟨.mov (.loc 0), none, none⟩, ⟨.conv (.toInt .u64) (.reg 0), none, none⟩, ⟨.mov (.loc 1), none, none⟩, ⟨.mov (.loc 0), none, none⟩, ⟨.bin .lss (.reg 3) (.cst (.int .i64 0)), none, none⟩, ⟨.call true false 96 [(.cst (.sl .nil [])), (.reg 1), (.reg 2), (.reg 4), (.cst (.bool false))], none, none⟩, ⟨.mov (.reg 5), none, none⟩, ⟨.extract 0 (.reg 6), none, none⟩, ⟨.extract 1 (.reg 6), none, none⟩, ⟨.mov (.reg 7), none, none⟩, ⟨.mov (.reg 8), (some 6), none⟩])
 (.seq (.region [⟨.mov (.loc 6), none, none⟩, ⟨.mov (.reg 0), (some 2), none⟩])
 .ret))))⟩
theorem c83 : compFunc Tryd.prog opts a83 Tryd.f83 = some t83 := by kernel_rfl
def a84 : Ann := { slots := [0, 1, 4, 5, 6], lb := [], mu := [], trunc := [], draws := [] }
def t84 : TFunc := ⟨2, 5, [.loc 2, .loc 3],
 (.seq (.region [⟨.mov (.cst (.int .u32 0)), (some 2), none⟩, ⟨.mov (.cst (.int .u32 0)), (some 3), none⟩])
 (.seq (.region [⟨.mov (.loc 0), none, none⟩, ⟨.conv (.toInt .u64) (.reg 0), none, none⟩, ⟨.mov (.loc 1), none, none⟩, ⟨.conv (.toInt .u64) (.reg 2), none, none⟩, ⟨.bin .mul (.reg 1) (.reg 3), none, none⟩, ⟨.mov (.reg 4), (some 4), none⟩])
 (.seq (.region [⟨.mov (.loc 4), none, none⟩, ⟨.bin .shr (.reg 0) (.cst (.int .u64 32)), none, none⟩, ⟨.conv (.toInt .u32) (.reg 1), none, none⟩, ⟨.mov (.loc 4), none, none⟩, ⟨.conv (.toInt .u32) (.reg 3), none, none⟩, ⟨.mov (.reg 2), (some 2), none⟩, ⟨.mov (.reg 4), (some 3), none⟩])
 .ret)))⟩
theorem c84 : compFunc Tryd.prog opts a84 Tryd.f84 = some t84 := by kernel_rfl
def a85 : Ann := { slots := [0, 1, 4, 5, 6, 7, 8, 9, 10, 11, 12, 13], lb := [], mu := [], trunc := [], draws := [] }
def t85 : TFunc := ⟨2, 12, [.loc 2, .loc 3],
 (.seq (.region [⟨.mov (.cst (.int .u64 0)), (some 2), none⟩, ⟨.mov (.cst (.int .u64 0)), (some 3), none⟩])
 (.seq (.region [⟨.mov (.loc 0), none, none⟩, ⟨.bin .and (.reg 0) (.cst (.int .u64 4294967295)), none, none⟩, ⟨.mov (.reg 1), (some 4), none⟩])
 (.seq (.region [⟨.mov (.loc 0), none, none⟩, ⟨.bin .shr (.reg 0) (.cst (.int .u64 32)), none, none⟩, ⟨.mov (.reg 1), (some 5), none⟩])
 (.seq (.region [⟨.mov (.loc 1), none, none⟩, ⟨.bin .and (.reg 0) (.cst (.int .u64 4294967295)), none, none⟩, ⟨.mov (.reg 1), (some 6), none⟩])
 (.seq (.region [⟨.mov (.loc 1), none, none⟩, ⟨.bin .shr (.reg 0) (.cst (.int .u64 32)), none, none⟩, ⟨.mov (.reg 1), (some 7), none⟩])
 (.seq (.region [⟨.mov (.loc 4), none, none⟩, ⟨.mov (.loc 6), none, none⟩, ⟨.bin .mul (.reg 0) (.reg 1), none, none⟩, ⟨.mov (.reg 2), (some 8), none⟩])
 (.seq (.region [⟨.mov (.loc 5), none, none⟩, ⟨.mov (.loc 6), none, none⟩, ⟨.bin .mul (.reg 0) (.reg 1), none, none⟩, ⟨.mov (.loc 8), none, none⟩, ⟨.bin .shr (.reg 3) (.cst (.int .u64 32)), none, none⟩, ⟨.bin .add (.reg 2) (.reg 4), none, none⟩, ⟨.mov (.reg 5), (some 9), none⟩])
 (.seq (.region [⟨.mov (.loc 9), none, none⟩, ⟨.bin .and (.reg 0) (.cst (.int .u64 4294967295)), none, none⟩, ⟨.mov (.reg 1), (some 10), none⟩])
 (.seq (.region [⟨.mov (.loc 9), none, none⟩, ⟨.bin .shr (.reg 0) (.cst (.int .u64 32)), none, none⟩, ⟨.mov (.reg 1), (some 11), none⟩])
 (.seq (.region [⟨.mov (.loc 10), none, none⟩, ⟨.mov (.loc 4), none, none⟩, ⟨.mov (.loc 7), none, none⟩, ⟨.bin .mul (.reg 1) (.reg 2), none, none⟩, ⟨.bin .add (.reg 0) (.reg 3), none, none⟩, ⟨.mov (.reg 4), (some 10), none⟩])
 (.seq (.region [⟨.mov (.loc 5), none, none⟩, ⟨.mov (.loc 7), none, none⟩, ⟨.bin .mul (.reg 0) (.reg 1), none, none⟩, ⟨.mov (.loc 11), none, none⟩, ⟨.bin .add (.reg 2) (.reg 3), none, none⟩, ⟨.mov (.loc 10), none, none⟩, ⟨.bin .shr (.reg 5) (.cst (.int .u64 32)), none, none⟩, ⟨.bin .add (.reg 4) (.reg 6), none, none⟩, ⟨.mov (.reg 7), (some 2), none⟩])
 (.seq (.region [⟨.mov (.loc 0), none, none⟩, ⟨.mov (.loc 1), none, none⟩, ⟨.bin .mul (.reg 0) (.reg 1), none, none⟩, ⟨.mov (.reg 2), (some 3), none⟩])
 .ret))))))))))))⟩
theorem c85 : compFunc Tryd.prog opts a85 Tryd.f85 = some t85 := by kernel_rfl
def a86 : Ann := { slots := [0, 1, 4], lb := [], mu := [], trunc := [], draws := [] }
def t86 : TFunc := ⟨2, 3, [.loc 2],
 (.seq (.region [⟨.mov (.cst (.bool false)), (some 2), none⟩])
 (.seq (.region [⟨.mov (.loc 0), none, none⟩, ⟨.len .str (.reg 0), none, none⟩, ⟨.mov (.loc 1), none, none⟩, ⟨.len .str (.reg 2), none, none⟩, ⟨.bin .geq (.reg 1) (.reg 3), none, none⟩, ⟨.mov (.reg 4), none, none⟩, ⟨.mov (.loc 0), none, (some (5, true))⟩, ⟨.mov (.loc 1), none, (some (5, true))⟩, ⟨.len .str (.reg 7), none, (some (5, true))⟩, ⟨.slice .str (.reg 6) none (some (.reg 8)) none, none, (some (5, true))⟩, ⟨.mov (.loc 1), none, (some (5, true))⟩, ⟨.bin .eql (.reg 9) (.reg 10), none, (some (5, true))⟩, ⟨.pick (.reg 5) (.reg 11) (.cst (.bool false)), none, none⟩, ⟨.mov (.reg 12), (some 2), none⟩])
 .ret))⟩
theorem c86 : compFunc Tryd.prog opts a86 Tryd.f86 = some t86 := by kernel_rfl
def a88 : Ann := { slots := [0, 1, 4], lb := [], mu := [], trunc := [], draws := [(0, ⟨[0, 1, 3, 7, 15, 31, 0, 127, 255, 0, 512, 1536, 3584, 7680, 16383, 32767], [0, 1, 2, 3, 4, 5, 6, 7, 9, 10, 11, 12, 13], [(8, [12, 13], [14, 15])]⟩)] }
def t88 : TFunc := ⟨2, 3, [],
 (.seq (.draw [0, 1, 2, 3, 4, 5, 6, 7, 9, 10, 11, 12, 13] [(8, [12, 13], [14, 15])] [⟨.mov (.loc 0), none, none⟩, ⟨.nilCheck (.reg 0), none, none⟩, ⟨.fieldAddr 1 (.reg 1), none, none⟩, ⟨.load1 (.reg 2), none, none⟩, ⟨.cap (.reg 3), none, none⟩, ⟨.bin .mul (.cst (.int .i64 2)) (.reg 4), none, none⟩, ⟨.mov (.loc 1), none, none⟩, ⟨.bin .add (.reg 5) (.reg 6), none, none⟩, ⟨.prim 98 [(.reg 7)], none, none⟩, ⟨.mov (.loc 0), none, none⟩, ⟨.nilCheck (.reg 9), none, none⟩, ⟨.fieldAddr 1 (.reg 10), none, none⟩, ⟨.load1 (.reg 11), none, none⟩, ⟨.len .sl (.reg 12), none, none⟩, ⟨.slice (.sl 1) (.reg 8) none (some (.reg 13)) none, none, none⟩, ⟨.mov (.reg 14), (some 2), none⟩])
 (.seq (.region [⟨.mov (.loc 2), none, none⟩, ⟨.mov (.loc 0), none, none⟩, ⟨.nilCheck (.reg 1), none, none⟩, ⟨.fieldAddr 1 (.reg 2), none, none⟩, ⟨.load1 (.reg 3), none, none⟩, ⟨.copy 1 (.reg 0) (.reg 4), none, none⟩])
 (.region [⟨.mov (.loc 0), none, none⟩, ⟨.mov (.loc 2), none, none⟩, ⟨.nilCheck (.reg 0), none, none⟩, ⟨.fieldAddr 1 (.reg 2), none, none⟩, ⟨.store 1 (.reg 3) (.reg 1), none, none⟩])))⟩
theorem c88 : compFunc Tryd.prog opts a88 Tryd.f88 = some t88 := by kernel_rfl
def a89 : Ann := { slots := [0, 2], lb := [], mu := [], trunc := [], draws := [] }
def t89 : TFunc := ⟨1, 2, [.loc 1],
 (.seq (.region [⟨.mov (.cst (.bool false)), (some 1), none⟩])
 (.seq (.region [⟨.mov (.loc 0), none, none⟩, ⟨.mov (.loc 0), none, none⟩, ⟨.bin .neq (.reg 0) (.reg 1), none, none⟩, ⟨.mov (.reg 2), (some 1), none⟩])
 .ret))⟩
theorem c89 : compFunc Tryd.prog opts a89 Tryd.f89 = some t89 := by kernel_rfl
def a90 : Ann := { slots := [0, 2], lb := [], mu := [], trunc := [], draws := [] }
def t90 : TFunc := ⟨1, 2, [.loc 1],
 (.seq (.region [⟨.mov (.cst (.bool false)), (some 1), none⟩])
 (.seq (.region [⟨.mov (.loc 0), none, none⟩, ⟨.mov (.loc 0), none, none⟩, ⟨.bin .neq (.reg 0) (.reg 1), none, none⟩, ⟨.mov (.reg 2), (some 1), none⟩])
 .ret))⟩
theorem c90 : compFunc Tryd.prog opts a90 Tryd.f90 = some t90 := by kernel_rfl
def a91 : Ann := { slots := [0, 2, 3, 4, 5, 6, 7, 8, 9, 10, 11, 12, 16, 23, 45, 57, 59, 75, 77, 98], lb := [9], mu := [], trunc := [], draws := [] }
def t91 : TFunc := ⟨1, 20, [.loc 1, .loc 2],
 (.seq (.region [⟨.mov (.cst (.int .i32 0)), (some 1), none⟩, ⟨.mov (.cst (.int .i64 0)), (some 2), none⟩])
 (.seq (.region [⟨.mov (.loc 0), none, none⟩, ⟨.len .str (.reg 0), none, none⟩, ⟨.mov (.reg 1), (some 3), none⟩])
 (.seq (.seq (.region [⟨.mov (.loc 3), none, none⟩, ⟨.bin .lss (.reg 0) (.cst (.int .i64 1)), (some 12), none⟩])
 (.cond (.loc 12)
  (.seq (.region [⟨.mov (.cst (.int .i32 65533)), (some 1), none⟩, ⟨.mov (.cst (.int .i64 0)), (some 2), none⟩])
  .ret)
  .skip))
 (.seq (.region [⟨.mov (.loc 0), none, none⟩, ⟨.indexS (.reg 0) (.cst (.int .i64 0)), none, none⟩, ⟨.mov (.reg 1), (some 4), none⟩])
 (.seq (.region [⟨.mov (.loc 4), none, none⟩, ⟨.indexAddrA 256 1 (.glob 0) (.reg 0), none, none⟩, ⟨.load1 (.reg 1), none, none⟩, ⟨.mov (.reg 2), (some 5), none⟩])
 (.seq (.seq (.region [⟨.mov (.loc 5), none, none⟩, ⟨.bin .geq (.reg 0) (.cst (.int .u8 240)), (some 13), none⟩])
 (.cond (.loc 13)
  (.seq (.region [⟨.mov (.loc 5), none, none⟩, ⟨.conv (.toInt .i32) (.reg 0), none, none⟩, ⟨.bin .shl (.reg 1) (.cst (.int .u64 31)), none, none⟩, ⟨.bin .shr (.reg 2) (.cst (.int .u64 31)), none, none⟩, ⟨.mov (.reg 3), (some 6), none⟩])
  (.seq (.region [⟨.mov (.loc 0), none, none⟩, ⟨.indexS (.reg 0) (.cst (.int .i64 0)), none, none⟩, ⟨.conv (.toInt .i32) (.reg 1), none, none⟩, ⟨.mov (.loc 6), none, none⟩, ⟨.bin .andNot (.reg 2) (.reg 3), none, none⟩, ⟨.mov (.loc 6), none, none⟩, ⟨.bin .and (.cst (.int .i32 65533)) (.reg 5), none, none⟩, ⟨.bin .or (.reg 4) (.reg 6), none, none⟩, ⟨.mov (.reg 7), (some 1), none⟩, ⟨.mov (.cst (.int .i64 1)), (some 2), none⟩])
  .ret))
  .skip))
 (.seq (.region [⟨.mov (.loc 5), none, none⟩, ⟨.bin .and (.reg 0) (.cst (.int .u8 7)), none, none⟩, ⟨.conv (.toInt .i64) (.reg 1), none, none⟩, ⟨.mov (.reg 2), (some 7), none⟩])
 (.seq (.region [⟨.mov (.loc 5), none, none⟩, ⟨.bin .shr (.reg 0) (.cst (.int .u64 4)), none, none⟩, ⟨.indexAddrA 16 2 (.glob 1) (.reg 1), none, none⟩, ⟨.loadN 2 (.reg 2), none, none⟩, ⟨.allocL 8 [(.int .u8 0), (.int .u8 0)], none, none⟩, ⟨.store 2 (.reg 4) (.reg 3), none, none⟩])
 (.seq (.seq (.region [⟨.mov (.loc 3), none, none⟩, ⟨.mov (.loc 7), none, none⟩, ⟨.bin .lss (.reg 0) (.reg 1), (some 14), none⟩])
 (.cond (.loc 14)
  (.seq (.region [⟨.mov (.cst (.int .i32 65533)), (some 1), none⟩, ⟨.mov (.cst (.int .i64 1)), (some 2), none⟩])
  .ret)
  .skip))
 (.seq (.region [⟨.mov (.loc 0), none, none⟩, ⟨.indexS (.reg 0) (.cst (.int .i64 1)), none, none⟩, ⟨.mov (.reg 1), (some 9), none⟩])
 (.seq (.seq (.region [⟨.mov (.loc 9), none, none⟩, ⟨.fieldAddr 0 (.loc 8), none, none⟩, ⟨.load1 (.reg 1), none, none⟩, ⟨.bin .lss (.reg 0) (.reg 2), none, none⟩, ⟨.mov (.reg 3), none, none⟩, ⟨.fieldAddr 1 (.loc 8), none, (some (4, false))⟩, ⟨.load1 (.reg 5), none, (some (4, false))⟩, ⟨.mov (.loc 9), none, (some (4, false))⟩, ⟨.bin .lss (.reg 6) (.reg 7), none, (some (4, false))⟩, ⟨.pick (.reg 4) (.cst (.bool true)) (.reg 8), (some 15), none⟩])
 (.cond (.loc 15)
  (.seq (.region [⟨.mov (.cst (.int .i32 65533)), (some 1), none⟩, ⟨.mov (.cst (.int .i64 1)), (some 2), none⟩])
  .ret)
  .skip))
 (.seq (.seq (.region [⟨.mov (.loc 7), none, none⟩, ⟨.bin .leq (.reg 0) (.cst (.int .i64 2)), (some 16), none⟩])
 (.cond (.loc 16)
  (.seq (.region [⟨.mov (.loc 4), none, none⟩, ⟨.bin .and (.reg 0) (.cst (.int .u8 31)), none, none⟩, ⟨.conv (.toInt .i32) (.reg 1), none, none⟩, ⟨.bin .shl (.reg 2) (.cst (.int .u64 6)), none, none⟩, ⟨.mov (.loc 9), none, none⟩, ⟨.bin .and (.reg 4) (.cst (.int .u8 63)), none, none⟩, ⟨.conv (.toInt .i32) (.reg 5), none, none⟩, ⟨.bin .or (.reg 3) (.reg 6), none, none⟩, ⟨.mov (.reg 7), (some 1), none⟩, ⟨.mov (.cst (.int .i64 2)), (some 2), none⟩])
  .ret)
  .skip))
 (.seq (.region [⟨.mov (.loc 0), none, none⟩, ⟨.indexS (.reg 0) (.cst (.int .i64 2)), none, none⟩, ⟨.mov (.reg 1), (some 10), none⟩])
 (.seq (.seq (.region [⟨.mov (.loc 10), none, none⟩, ⟨.bin .lss (.reg 0) (.cst (.int .u8 128)), none, none⟩, ⟨.mov (.reg 1), none, none⟩, ⟨.mov (.loc 10), none, (some (2, false))⟩, ⟨.bin .lss (.cst (.int .u8 191)) (.reg 3), none, (some (2, false))⟩, ⟨.pick (.reg 2) (.cst (.bool true)) (.reg 4), (some 17), none⟩])
 (.cond (.loc 17)
  (.seq (.region [⟨.mov (.cst (.int .i32 65533)), (some 1), none⟩, ⟨.mov (.cst (.int .i64 1)), (some 2), none⟩])
  .ret)
  .skip))
 (.seq (.seq (.region [⟨.mov (.loc 7), none, none⟩, ⟨.bin .leq (.reg 0) (.cst (.int .i64 3)), (some 18), none⟩])
 (.cond (.loc 18)
  (.seq (.region [⟨.mov (.loc 4), none, none⟩, ⟨.bin .and (.reg 0) (.cst (.int .u8 15)), none, none⟩, ⟨.conv (.toInt .i32) (.reg 1), none, none⟩, ⟨.bin .shl (.reg 2) (.cst (.int .u64 12)), none, none⟩, ⟨.mov (.loc 9), none, none⟩, ⟨.bin .and (.reg 4) (.cst (.int .u8 63)), none, none⟩, ⟨.conv (.toInt .i32) (.reg 5), none, none⟩, ⟨.bin .shl (.reg 6) (.cst (.int .u64 6)), none, none⟩, ⟨.bin .or (.reg 3) (.reg 7), none, none⟩, ⟨.mov (.loc 10), none, none⟩, ⟨.bin .and (.reg 9) (.cst (.int .u8 63)), none, none⟩, ⟨.conv (.toInt .i32) (.reg 10), none, none⟩, ⟨.bin .or (.reg 8) (.reg 11), none, none⟩, ⟨.mov (.reg 12), (some 1), none⟩, ⟨.mov (.cst (.int .i64 3)), (some 2), none⟩])
  .ret)
  .skip))
 (.seq (.region [⟨.mov (.loc 0), none, none⟩, ⟨.indexS (.reg 0) (.cst (.int .i64 3)), none, none⟩, ⟨.mov (.reg 1), (some 11), none⟩])
 (.seq (.seq (.region [⟨.mov (.loc 11), none, none⟩, ⟨.bin .lss (.reg 0) (.cst (.int .u8 128)), none, none⟩, ⟨.mov (.reg 1), none, none⟩, ⟨.mov (.loc 11), none, (some (2, false))⟩, ⟨.bin .lss (.cst (.int .u8 191)) (.reg 3), none, (some (2, false))⟩, ⟨.pick (.reg 2) (.cst (.bool true)) (.reg 4), (some 19), none⟩])
 (.cond (.loc 19)
  (.seq (.region [⟨.mov (.cst (.int .i32 65533)), (some 1), none⟩, ⟨.mov (.cst (.int .i64 1)), (some 2), none⟩])
  .ret)
  .skip))
 (.seq (.region [⟨.mov (.loc 4), none, none⟩, ⟨.bin .and (.reg 0) (.cst (.int .u8 7)), none, none⟩, ⟨.conv (.toInt .i32) (.reg 1), none, none⟩, ⟨.bin .shl (.reg 2) (.cst (.int .u64 18)), none, none⟩, ⟨.mov (.loc 9), none, none⟩, ⟨.bin .and (.reg 4) (.cst (.int .u8 63)), none, none⟩, ⟨.conv (.toInt .i32) (.reg 5), none, none⟩, ⟨.bin .shl (.reg 6) (.cst (.int .u64 12)), none, none⟩, ⟨.bin .or (.reg 3) (.reg 7), none, none⟩, ⟨.mov (.loc 10), none, none⟩, ⟨.bin .and (.reg 9) (.cst (.int .u8 63)), none, none⟩, ⟨.conv (.toInt .i32) (.reg 10), none, none⟩, ⟨.bin .shl (.reg 11) (.cst (.int .u64 6)), none, none⟩, ⟨.bin .or (.reg 8) (.reg 12), none, none⟩, ⟨.mov (.loc 11), none, none⟩, ⟨.bin .and (.reg 14) (.cst (.int .u8 63)), none, none⟩, ⟨.conv (.toInt .i32) (.reg 15), none, none⟩, ⟨.bin .or (.reg 13) (.reg 16), none, none⟩, ⟨.mov (.reg 17), (some 1), none⟩, ⟨.mov (.cst (.int .i64 4)), (some 2), none⟩])
 .ret))))))))))))))))))⟩
theorem c91 : compFunc Tryd.prog opts a91 Tryd.f91 = some t91 := by kernel_rfl
def a92 : Ann := { slots := [0, 1, 4, 5, 6, 7, 8, 9, 10, 11, 12, 13, 14, 15, 16, 26, 33, 43, 51, 64, 98, 108, 124, 139, 143, 156, 160, 171, 175, 176, 177, 181, 183], lb := [], mu := [], trunc := [], draws := [(6, ⟨[0, 0, 3, 0, 0, 24, 63], [0, 1, 2, 3, 4, 5, 6], []⟩), (7, ⟨[0, 0, 2, 7, 0, 0, 48, 127, 255], [0, 1, 2, 3, 4, 5, 6], [(7, [], [8])]⟩), (14, ⟨[0, 0, 0, 6, 15, 0, 0, 0, 192, 480, 1023], [0, 1, 2, 3, 4, 5, 6, 7, 8, 9, 10], []⟩), (31, ⟨[0, 0, 0, 6, 15, 0, 0, 0, 192, 480, 1023], [0, 1, 2, 3, 4, 5, 6, 7, 8, 9, 10], []⟩)] }
def t92L0 : TCode := (.seq (.region [⟨.nextS (.loc 28), (some 29), none⟩, ⟨.extract 0 (.reg 0), (some 30), none⟩])
      (.seq (.cond (.loc 30)
       .skip
       (.exit 9))
      (.block 10
       (.seq (.region [⟨.extract 1 (.loc 29), none, none⟩, ⟨.extract 2 (.loc 29), none, none⟩, ⟨.mov (.reg 0), (some 3), none⟩, ⟨.mov (.reg 1), (some 4), none⟩])
       (.seq (.region [⟨.mov (.loc 4), none, none⟩, ⟨.bin .eql (.reg 0) (.cst (.int .i32 65533)), (some 31), none⟩])
       (.cond (.loc 31)
        (.seq (.region [⟨.mov (.loc 3), none, none⟩, ⟨.mov (.reg 0), (some 2), none⟩])
        .ret)
        .skip))))))
def t92 : TFunc := ⟨2, 33, [.loc 2],
 (.seq (.region [⟨.mov (.cst (.int .i64 0)), (some 2), none⟩])
 (.block 0
  (.seq (.region [⟨.mov (.loc 1), none, none⟩, ⟨.bin .leq (.cst (.int .i32 0)) (.reg 0), none, none⟩, ⟨.mov (.reg 1), none, none⟩, ⟨.mov (.loc 1), none, (some (2, true))⟩, ⟨.bin .lss (.reg 3) (.cst (.int .i32 128)), none, (some (2, true))⟩, ⟨.pick (.reg 2) (.reg 4) (.cst (.bool false)), none, none⟩, ⟨.mov (.reg 5), (some 26), none⟩])
  (.cond (.loc 26)
   (.seq (.region [⟨.mov (.loc 0), none, none⟩, ⟨.mov (.loc 1), none, none⟩, ⟨.conv (.toInt .u8) (.reg 1), none, none⟩, ⟨.call true false 99 [(.reg 0), (.reg 2)], none, none⟩, ⟨.mov (.reg 3), (some 2), none⟩])
   .ret)
   (.seq (.region [⟨.mov (.loc 1), none, none⟩, ⟨.bin .eql (.reg 0) (.cst (.int .i32 65533)), none, none⟩, ⟨.mov (.reg 1), (some 27), none⟩])
   (.cond (.loc 27)
    (.seq (.seq (.region [⟨.mov (.loc 0), none, none⟩, ⟨.range true (.reg 0), (some 28), none⟩])
    (.block 9
     (.loop t92L0)))
    (.seq (.region [⟨.mov (.cst (.int .i64 (-1))), (some 2), none⟩])
    .ret))
    (.seq (.region [⟨.mov (.loc 1), none, none⟩, ⟨.call true false 100 [(.reg 0)], none, none⟩, ⟨.un .not (.reg 1), none, none⟩, ⟨.mov (.reg 2), (some 32), none⟩])
    (.cond (.loc 32)
     (.seq (.region [⟨.mov (.cst (.int .i64 (-1))), (some 2), none⟩])
     .ret)
     .bad))))))))⟩
theorem c92 : compFunc Tryd.prog opts a92 Tryd.f92 = some t92 := by kernel_rfl
def a93 : Ann := { slots := [0, 2, 4], lb := [], mu := [], trunc := [], draws := [] }
def t93 : TFunc := ⟨1, 3, [.loc 1],
 (.seq (.region [⟨.mov (.cst (.str [])), (some 1), none⟩])
 (.seq (.seq (.region [⟨.mov (.loc 0), none, none⟩, ⟨.bin .lss (.reg 0) (.cst (.int .i64 10)), (some 2), none⟩])
 (.cond (.loc 2)
  (.seq (.region [⟨.mov (.loc 0), none, none⟩, ⟨.mov (.loc 0), none, none⟩, ⟨.bin .add (.reg 1) (.cst (.int .i64 1)), none, none⟩, ⟨.slice .str (.cst (.str [48, 49, 50, 51, 52, 53, 54, 55, 56, 57, 97, 98, 99, 100, 101, 102, 103, 104, 105, 106, 107, 108, 109, 110, 111, 112, 113, 114, 115, 116, 117, 118, 119, 120, 121, 122])) (some (.reg 0)) (some (.reg 2)) none, none, none⟩, ⟨.mov (.reg 3), (some 1), none⟩])
  .ret)
  .skip))
 (.seq (.region [⟨.mov (.loc 0), none, none⟩, ⟨.bin .mul (.reg 0) (.cst (.int .i64 2)), none, none⟩, ⟨.mov (.loc 0), none, none⟩, ⟨.bin .mul (.reg 2) (.cst (.int .i64 2)), none, none⟩, ⟨.bin .add (.reg 3) (.cst (.int .i64 2)), none, none⟩, ⟨.slice .str (.cst (.str [48, 48, 48, 49, 48, 50, 48, 51, 48, 52, 48, 53, 48, 54, 48, 55, 48, 56, 48, 57, 49, 48, 49, 49, 49, 50, 49, 51, 49, 52, 49, 53, 49, 54, 49, 55, 49, 56, 49, 57, 50, 48, 50, 49, 50, 50, 50, 51, 50, 52, 50, 53, 50, 54, 50, 55, 50, 56, 50, 57, 51, 48, 51, 49, 51, 50, 51, 51, 51, 52, 51, 53, 51, 54, 51, 55, 51, 56, 51, 57, 52, 48, 52, 49, 52, 50, 52, 51, 52, 52, 52, 53, 52, 54, 52, 55, 52, 56, 52, 57, 53, 48, 53, 49, 53, 50, 53, 51, 53, 52, 53, 53, 53, 54, 53, 55, 53, 56, 53, 57, 54, 48, 54, 49, 54, 50, 54, 51, 54, 52, 54, 53, 54, 54, 54, 55, 54, 56, 54, 57, 55, 48, 55, 49, 55, 50, 55, 51, 55, 52, 55, 53, 55, 54, 55, 55, 55, 56, 55, 57, 56, 48, 56, 49, 56, 50, 56, 51, 56, 52, 56, 53, 56, 54, 56, 55, 56, 56, 56, 57, 57, 48, 57, 49, 57, 50, 57, 51, 57, 52, 57, 53, 57, 54, 57, 55, 57, 56, 57, 57])) (some (.reg 1)) (some (.reg 4)) none, none, none⟩, ⟨.mov (.reg 5), (some 1), none⟩])
 .ret)))⟩
theorem c93 : compFunc Tryd.prog opts a93 Tryd.f93 = some t93 := by kernel_rfl
def a94 : Ann := { slots := [0, 2, 3], lb := [], mu := [], trunc := [], draws := [] }
def t94 : TFunc := ⟨1, 3, [.loc 1],
 (.seq (.region [⟨.mov (.cst (.int .i64 0)), (some 1), none⟩])
 (.seq (.region [⟨.mov (.loc 0), none, none⟩, ⟨.call true false 104 [(.reg 0)], none, none⟩, ⟨.call true false 103 [(.reg 1)], none, none⟩, ⟨.mov (.reg 2), (some 2), none⟩])
 (.seq (.region [⟨.mov (.loc 2), none, none⟩, ⟨.mov (.loc 0), none, none⟩, ⟨.mov (.loc 2), none, none⟩, ⟨.indexAddrA 20 1 (.glob 2) (.reg 2), none, none⟩, ⟨.load1 (.reg 3), none, none⟩, ⟨.bin .geq (.reg 1) (.reg 4), none, none⟩, ⟨.call true false 105 [(.reg 5)], none, none⟩, ⟨.bin .add (.reg 0) (.reg 6), none, none⟩, ⟨.mov (.reg 7), (some 1), none⟩])
 .ret)))⟩
theorem c94 : compFunc Tryd.prog opts a94 Tryd.f94 = some t94 := by kernel_rfl
def a95 : Ann := { slots := [0, 1, 4, 5, 6, 7, 8, 9, 10, 11, 12, 13, 14, 15, 16, 20, 99, 139, 161], lb := [], mu := [], trunc := [], draws := [(7, ⟨[0, 0, 2, 0, 0, 16, 0, 64, 192, 0, 512, 455, 2503, 8191, 16383], [0, 1, 2, 3, 4, 5, 6, 7, 8, 9, 10, 11], [(12, [], [13]), (14, [], [])]⟩), (8, ⟨[0, 0, 2, 0, 0, 16, 0, 64, 192, 0, 512, 455, 2503, 8191, 16383], [0, 1, 2, 3, 4, 5, 6, 7, 8, 9, 10, 11], [(12, [], [13]), (14, [], [])]⟩), (9, ⟨[0, 0, 2, 0, 0, 16, 0, 64, 192, 0, 512, 455, 2503, 8191, 16383], [0, 1, 2, 3, 4, 5, 6, 7, 8, 9, 10, 11], [(12, [], [13]), (14, [], [])]⟩), (10, ⟨[0, 0, 2, 0, 0, 16, 0, 64, 192, 0, 512, 455, 2503, 8191, 16383], [0, 1, 2, 3, 4, 5, 6, 7, 8, 9, 10, 11], [(12, [], [13]), (14, [], [])]⟩), (17, ⟨[0, 0, 2, 0, 0, 16, 0, 64, 192, 0, 512, 455, 2503, 8191, 16383], [0, 1, 2, 3, 4, 5, 6, 7, 8, 9, 10, 11], [(12, [], [13]), (14, [], [])]⟩), (18, ⟨[0, 0, 2, 0, 0, 16, 0, 64, 192, 0, 512, 455, 2503, 8191, 16383], [0, 1, 2, 3, 4, 5, 6, 7, 8, 9, 10, 11], [(12, [], [13]), (14, [], [])]⟩), (23, ⟨[0, 0, 2, 0, 0, 16, 0, 64, 192, 0, 512, 455, 2503, 8191, 16383], [0, 1, 2, 3, 4, 5, 6, 7, 8, 9, 10, 11], [(12, [], [13]), (14, [], [])]⟩)] }
def t95L0 : TCode := (.seq (.seq (.region [⟨.mov (.loc 2), none, none⟩, ⟨.bin .geq (.reg 0) (.cst (.int .i64 8)), (some 15), none⟩])
   (.cond (.loc 15)
    .skip
    (.exit 0)))
   (.block 1
    (.seq (.region [⟨.mov (.loc 1), none, none⟩, ⟨.bin .rem (.reg 0) (.cst (.int .u64 100000000)), none, none⟩, ⟨.conv (.toInt .u32) (.reg 1), none, none⟩, ⟨.mov (.reg 2), (some 3), none⟩])
    (.seq (.region [⟨.mov (.loc 1), none, none⟩, ⟨.bin .quo (.reg 0) (.cst (.int .u64 100000000)), none, none⟩, ⟨.mov (.reg 1), (some 1), none⟩])
    (.seq (.region [⟨.mov (.loc 3), none, none⟩, ⟨.bin .quo (.reg 0) (.cst (.int .u32 10000)), none, none⟩, ⟨.mov (.loc 3), none, none⟩, ⟨.bin .rem (.reg 2) (.cst (.int .u32 10000)), none, none⟩, ⟨.mov (.reg 1), (some 4), none⟩, ⟨.mov (.reg 3), (some 5), none⟩])
    (.seq (.region [⟨.mov (.loc 5), none, none⟩, ⟨.bin .quo (.reg 0) (.cst (.int .u32 100)), none, none⟩, ⟨.bin .mul (.reg 1) (.cst (.int .u32 2)), none, none⟩, ⟨.mov (.loc 5), none, none⟩, ⟨.bin .rem (.reg 3) (.cst (.int .u32 100)), none, none⟩, ⟨.bin .mul (.reg 4) (.cst (.int .u32 2)), none, none⟩, ⟨.mov (.reg 2), (some 6), none⟩, ⟨.mov (.reg 5), (some 7), none⟩])
    (.seq (.region [⟨.mov (.loc 4), none, none⟩, ⟨.bin .quo (.reg 0) (.cst (.int .u32 100)), none, none⟩, ⟨.bin .mul (.reg 1) (.cst (.int .u32 2)), none, none⟩, ⟨.mov (.loc 4), none, none⟩, ⟨.bin .rem (.reg 3) (.cst (.int .u32 100)), none, none⟩, ⟨.bin .mul (.reg 4) (.cst (.int .u32 2)), none, none⟩, ⟨.mov (.reg 2), (some 8), none⟩, ⟨.mov (.reg 5), (some 9), none⟩])
    (.seq (.draw [0, 1, 2, 3, 4, 5, 6, 7, 8, 9, 10, 11] [(12, [], [13]), (14, [], [])] [⟨.mov (.loc 0), none, none⟩, ⟨.mov (.loc 2), none, none⟩, ⟨.bin .sub (.reg 1) (.cst (.int .i64 1)), none, none⟩, ⟨.mov (.loc 0), none, none⟩, ⟨.mov (.loc 2), none, none⟩, ⟨.bin .sub (.reg 4) (.cst (.int .i64 2)), none, none⟩, ⟨.mov (.loc 7), none, none⟩, ⟨.bin .add (.reg 6) (.cst (.int .u32 1)), none, none⟩, ⟨.indexS (.cst (.str [48, 48, 48, 49, 48, 50, 48, 51, 48, 52, 48, 53, 48, 54, 48, 55, 48, 56, 48, 57, 49, 48, 49, 49, 49, 50, 49, 51, 49, 52, 49, 53, 49, 54, 49, 55, 49, 56, 49, 57, 50, 48, 50, 49, 50, 50, 50, 51, 50, 52, 50, 53, 50, 54, 50, 55, 50, 56, 50, 57, 51, 48, 51, 49, 51, 50, 51, 51, 51, 52, 51, 53, 51, 54, 51, 55, 51, 56, 51, 57, 52, 48, 52, 49, 52, 50, 52, 51, 52, 52, 52, 53, 52, 54, 52, 55, 52, 56, 52, 57, 53, 48, 53, 49, 53, 50, 53, 51, 53, 52, 53, 53, 53, 54, 53, 55, 53, 56, 53, 57, 54, 48, 54, 49, 54, 50, 54, 51, 54, 52, 54, 53, 54, 54, 54, 55, 54, 56, 54, 57, 55, 48, 55, 49, 55, 50, 55, 51, 55, 52, 55, 53, 55, 54, 55, 55, 55, 56, 55, 57, 56, 48, 56, 49, 56, 50, 56, 51, 56, 52, 56, 53, 56, 54, 56, 55, 56, 56, 56, 57, 57, 48, 57, 49, 57, 50, 57, 51, 57, 52, 57, 53, 57, 54, 57, 55, 57, 56, 57, 57])) (.reg 7), none, none⟩, ⟨.mov (.loc 7), none, none⟩, ⟨.indexS (.cst (.str [48, 48, 48, 49, 48, 50, 48, 51, 48, 52, 48, 53, 48, 54, 48, 55, 48, 56, 48, 57, 49, 48, 49, 49, 49, 50, 49, 51, 49, 52, 49, 53, 49, 54, 49, 55, 49, 56, 49, 57, 50, 48, 50, 49, 50, 50, 50, 51, 50, 52, 50, 53, 50, 54, 50, 55, 50, 56, 50, 57, 51, 48, 51, 49, 51, 50, 51, 51, 51, 52, 51, 53, 51, 54, 51, 55, 51, 56, 51, 57, 52, 48, 52, 49, 52, 50, 52, 51, 52, 52, 52, 53, 52, 54, 52, 55, 52, 56, 52, 57, 53, 48, 53, 49, 53, 50, 53, 51, 53, 52, 53, 53, 53, 54, 53, 55, 53, 56, 53, 57, 54, 48, 54, 49, 54, 50, 54, 51, 54, 52, 54, 53, 54, 54, 54, 55, 54, 56, 54, 57, 55, 48, 55, 49, 55, 50, 55, 51, 55, 52, 55, 53, 55, 54, 55, 55, 55, 56, 55, 57, 56, 48, 56, 49, 56, 50, 56, 51, 56, 52, 56, 53, 56, 54, 56, 55, 56, 56, 56, 57, 57, 48, 57, 49, 57, 50, 57, 51, 57, 52, 57, 53, 57, 54, 57, 55, 57, 56, 57, 57])) (.reg 9), none, none⟩, ⟨.indexAddrS 1 (.reg 0) (.reg 2), none, none⟩, ⟨.store 1 (.reg 11) (.reg 8), none, none⟩, ⟨.indexAddrS 1 (.reg 3) (.reg 5), none, none⟩, ⟨.store 1 (.reg 13) (.reg 10), none, none⟩])
    (.seq (.draw [0, 1, 2, 3, 4, 5, 6, 7, 8, 9, 10, 11] [(12, [], [13]), (14, [], [])] [⟨.mov (.loc 0), none, none⟩, ⟨.mov (.loc 2), none, none⟩, ⟨.bin .sub (.reg 1) (.cst (.int .i64 3)), none, none⟩, ⟨.mov (.loc 0), none, none⟩, ⟨.mov (.loc 2), none, none⟩, ⟨.bin .sub (.reg 4) (.cst (.int .i64 4)), none, none⟩, ⟨.mov (.loc 6), none, none⟩, ⟨.bin .add (.reg 6) (.cst (.int .u32 1)), none, none⟩, ⟨.indexS (.cst (.str [48, 48, 48, 49, 48, 50, 48, 51, 48, 52, 48, 53, 48, 54, 48, 55, 48, 56, 48, 57, 49, 48, 49, 49, 49, 50, 49, 51, 49, 52, 49, 53, 49, 54, 49, 55, 49, 56, 49, 57, 50, 48, 50, 49, 50, 50, 50, 51, 50, 52, 50, 53, 50, 54, 50, 55, 50, 56, 50, 57, 51, 48, 51, 49, 51, 50, 51, 51, 51, 52, 51, 53, 51, 54, 51, 55, 51, 56, 51, 57, 52, 48, 52, 49, 52, 50, 52, 51, 52, 52, 52, 53, 52, 54, 52, 55, 52, 56, 52, 57, 53, 48, 53, 49, 53, 50, 53, 51, 53, 52, 53, 53, 53, 54, 53, 55, 53, 56, 53, 57, 54, 48, 54, 49, 54, 50, 54, 51, 54, 52, 54, 53, 54, 54, 54, 55, 54, 56, 54, 57, 55, 48, 55, 49, 55, 50, 55, 51, 55, 52, 55, 53, 55, 54, 55, 55, 55, 56, 55, 57, 56, 48, 56, 49, 56, 50, 56, 51, 56, 52, 56, 53, 56, 54, 56, 55, 56, 56, 56, 57, 57, 48, 57, 49, 57, 50, 57, 51, 57, 52, 57, 53, 57, 54, 57, 55, 57, 56, 57, 57])) (.reg 7), none, none⟩, ⟨.mov (.loc 6), none, none⟩, ⟨.indexS (.cst (.str [48, 48, 48, 49, 48, 50, 48, 51, 48, 52, 48, 53, 48, 54, 48, 55, 48, 56, 48, 57, 49, 48, 49, 49, 49, 50, 49, 51, 49, 52, 49, 53, 49, 54, 49, 55, 49, 56, 49, 57, 50, 48, 50, 49, 50, 50, 50, 51, 50, 52, 50, 53, 50, 54, 50, 55, 50, 56, 50, 57, 51, 48, 51, 49, 51, 50, 51, 51, 51, 52, 51, 53, 51, 54, 51, 55, 51, 56, 51, 57, 52, 48, 52, 49, 52, 50, 52, 51, 52, 52, 52, 53, 52, 54, 52, 55, 52, 56, 52, 57, 53, 48, 53, 49, 53, 50, 53, 51, 53, 52, 53, 53, 53, 54, 53, 55, 53, 56, 53, 57, 54, 48, 54, 49, 54, 50, 54, 51, 54, 52, 54, 53, 54, 54, 54, 55, 54, 56, 54, 57, 55, 48, 55, 49, 55, 50, 55, 51, 55, 52, 55, 53, 55, 54, 55, 55, 55, 56, 55, 57, 56, 48, 56, 49, 56, 50, 56, 51, 56, 52, 56, 53, 56, 54, 56, 55, 56, 56, 56, 57, 57, 48, 57, 49, 57, 50, 57, 51, 57, 52, 57, 53, 57, 54, 57, 55, 57, 56, 57, 57])) (.reg 9), none, none⟩, ⟨.indexAddrS 1 (.reg 0) (.reg 2), none, none⟩, ⟨.store 1 (.reg 11) (.reg 8), none, none⟩, ⟨.indexAddrS 1 (.reg 3) (.reg 5), none, none⟩, ⟨.store 1 (.reg 13) (.reg 10), none, none⟩])
    (.seq (.draw [0, 1, 2, 3, 4, 5, 6, 7, 8, 9, 10, 11] [(12, [], [13]), (14, [], [])] [⟨.mov (.loc 0), none, none⟩, ⟨.mov (.loc 2), none, none⟩, ⟨.bin .sub (.reg 1) (.cst (.int .i64 5)), none, none⟩, ⟨.mov (.loc 0), none, none⟩, ⟨.mov (.loc 2), none, none⟩, ⟨.bin .sub (.reg 4) (.cst (.int .i64 6)), none, none⟩, ⟨.mov (.loc 9), none, none⟩, ⟨.bin .add (.reg 6) (.cst (.int .u32 1)), none, none⟩, ⟨.indexS (.cst (.str [48, 48, 48, 49, 48, 50, 48, 51, 48, 52, 48, 53, 48, 54, 48, 55, 48, 56, 48, 57, 49, 48, 49, 49, 49, 50, 49, 51, 49, 52, 49, 53, 49, 54, 49, 55, 49, 56, 49, 57, 50, 48, 50, 49, 50, 50, 50, 51, 50, 52, 50, 53, 50, 54, 50, 55, 50, 56, 50, 57, 51, 48, 51, 49, 51, 50, 51, 51, 51, 52, 51, 53, 51, 54, 51, 55, 51, 56, 51, 57, 52, 48, 52, 49, 52, 50, 52, 51, 52, 52, 52, 53, 52, 54, 52, 55, 52, 56, 52, 57, 53, 48, 53, 49, 53, 50, 53, 51, 53, 52, 53, 53, 53, 54, 53, 55, 53, 56, 53, 57, 54, 48, 54, 49, 54, 50, 54, 51, 54, 52, 54, 53, 54, 54, 54, 55, 54, 56, 54, 57, 55, 48, 55, 49, 55, 50, 55, 51, 55, 52, 55, 53, 55, 54, 55, 55, 55, 56, 55, 57, 56, 48, 56, 49, 56, 50, 56, 51, 56, 52, 56, 53, 56, 54, 56, 55, 56, 56, 56, 57, 57, 48, 57, 49, 57, 50, 57, 51, 57, 52, 57, 53, 57, 54, 57, 55, 57, 56, 57, 57])) (.reg 7), none, none⟩, ⟨.mov (.loc 9), none, none⟩, ⟨.indexS (.cst (.str [48, 48, 48, 49, 48, 50, 48, 51, 48, 52, 48, 53, 48, 54, 48, 55, 48, 56, 48, 57, 49, 48, 49, 49, 49, 50, 49, 51, 49, 52, 49, 53, 49, 54, 49, 55, 49, 56, 49, 57, 50, 48, 50, 49, 50, 50, 50, 51, 50, 52, 50, 53, 50, 54, 50, 55, 50, 56, 50, 57, 51, 48, 51, 49, 51, 50, 51, 51, 51, 52, 51, 53, 51, 54, 51, 55, 51, 56, 51, 57, 52, 48, 52, 49, 52, 50, 52, 51, 52, 52, 52, 53, 52, 54, 52, 55, 52, 56, 52, 57, 53, 48, 53, 49, 53, 50, 53, 51, 53, 52, 53, 53, 53, 54, 53, 55, 53, 56, 53, 57, 54, 48, 54, 49, 54, 50, 54, 51, 54, 52, 54, 53, 54, 54, 54, 55, 54, 56, 54, 57, 55, 48, 55, 49, 55, 50, 55, 51, 55, 52, 55, 53, 55, 54, 55, 55, 55, 56, 55, 57, 56, 48, 56, 49, 56, 50, 56, 51, 56, 52, 56, 53, 56, 54, 56, 55, 56, 56, 56, 57, 57, 48, 57, 49, 57, 50, 57, 51, 57, 52, 57, 53, 57, 54, 57, 55, 57, 56, 57, 57])) (.reg 9), none, none⟩, ⟨.indexAddrS 1 (.reg 0) (.reg 2), none, none⟩, ⟨.store 1 (.reg 11) (.reg 8), none, none⟩, ⟨.indexAddrS 1 (.reg 3) (.reg 5), none, none⟩, ⟨.store 1 (.reg 13) (.reg 10), none, none⟩])
    (.seq (.draw [0, 1, 2, 3, 4, 5, 6, 7, 8, 9, 10, 11] [(12, [], [13]), (14, [], [])] [⟨.mov (.loc 0), none, none⟩, ⟨.mov (.loc 2), none, none⟩, ⟨.bin .sub (.reg 1) (.cst (.int .i64 7)), none, none⟩, ⟨.mov (.loc 0), none, none⟩, ⟨.mov (.loc 2), none, none⟩, ⟨.bin .sub (.reg 4) (.cst (.int .i64 8)), none, none⟩, ⟨.mov (.loc 8), none, none⟩, ⟨.bin .add (.reg 6) (.cst (.int .u32 1)), none, none⟩, ⟨.indexS (.cst (.str [48, 48, 48, 49, 48, 50, 48, 51, 48, 52, 48, 53, 48, 54, 48, 55, 48, 56, 48, 57, 49, 48, 49, 49, 49, 50, 49, 51, 49, 52, 49, 53, 49, 54, 49, 55, 49, 56, 49, 57, 50, 48, 50, 49, 50, 50, 50, 51, 50, 52, 50, 53, 50, 54, 50, 55, 50, 56, 50, 57, 51, 48, 51, 49, 51, 50, 51, 51, 51, 52, 51, 53, 51, 54, 51, 55, 51, 56, 51, 57, 52, 48, 52, 49, 52, 50, 52, 51, 52, 52, 52, 53, 52, 54, 52, 55, 52, 56, 52, 57, 53, 48, 53, 49, 53, 50, 53, 51, 53, 52, 53, 53, 53, 54, 53, 55, 53, 56, 53, 57, 54, 48, 54, 49, 54, 50, 54, 51, 54, 52, 54, 53, 54, 54, 54, 55, 54, 56, 54, 57, 55, 48, 55, 49, 55, 50, 55, 51, 55, 52, 55, 53, 55, 54, 55, 55, 55, 56, 55, 57, 56, 48, 56, 49, 56, 50, 56, 51, 56, 52, 56, 53, 56, 54, 56, 55, 56, 56, 56, 57, 57, 48, 57, 49, 57, 50, 57, 51, 57, 52, 57, 53, 57, 54, 57, 55, 57, 56, 57, 57])) (.reg 7), none, none⟩, ⟨.mov (.loc 8), none, none⟩, ⟨.indexS (.cst (.str [48, 48, 48, 49, 48, 50, 48, 51, 48, 52, 48, 53, 48, 54, 48, 55, 48, 56, 48, 57, 49, 48, 49, 49, 49, 50, 49, 51, 49, 52, 49, 53, 49, 54, 49, 55, 49, 56, 49, 57, 50, 48, 50, 49, 50, 50, 50, 51, 50, 52, 50, 53, 50, 54, 50, 55, 50, 56, 50, 57, 51, 48, 51, 49, 51, 50, 51, 51, 51, 52, 51, 53, 51, 54, 51, 55, 51, 56, 51, 57, 52, 48, 52, 49, 52, 50, 52, 51, 52, 52, 52, 53, 52, 54, 52, 55, 52, 56, 52, 57, 53, 48, 53, 49, 53, 50, 53, 51, 53, 52, 53, 53, 53, 54, 53, 55, 53, 56, 53, 57, 54, 48, 54, 49, 54, 50, 54, 51, 54, 52, 54, 53, 54, 54, 54, 55, 54, 56, 54, 57, 55, 48, 55, 49, 55, 50, 55, 51, 55, 52, 55, 53, 55, 54, 55, 55, 55, 56, 55, 57, 56, 48, 56, 49, 56, 50, 56, 51, 56, 52, 56, 53, 56, 54, 56, 55, 56, 56, 56, 57, 57, 48, 57, 49, 57, 50, 57, 51, 57, 52, 57, 53, 57, 54, 57, 55, 57, 56, 57, 57])) (.reg 9), none, none⟩, ⟨.indexAddrS 1 (.reg 0) (.reg 2), none, none⟩, ⟨.store 1 (.reg 11) (.reg 8), none, none⟩, ⟨.indexAddrS 1 (.reg 3) (.reg 5), none, none⟩, ⟨.store 1 (.reg 13) (.reg 10), none, none⟩])
    (.region [⟨.mov (.loc 2), none, none⟩, ⟨.bin .sub (.reg 0) (.cst (.int .i64 8)), none, none⟩, ⟨.mov (.reg 1), (some 2), none⟩]))))))))))))
def t95 : TFunc := ⟨2, 19, [],
 (.seq (.region [⟨.mov (.loc 0), none, none⟩, ⟨.len .sl (.reg 0), none, none⟩, ⟨.mov (.reg 1), (some 2), none⟩])
 (.seq (.block 0
  (.loop t95L0))
 (.seq (.region [⟨.mov (.loc 1), none, none⟩, ⟨.conv (.toInt .u32) (.reg 0), none, none⟩, ⟨.mov (.reg 1), (some 10), none⟩])
 (.seq (.seq (.region [⟨.mov (.loc 2), none, none⟩, ⟨.bin .geq (.reg 0) (.cst (.int .i64 4)), (some 16), none⟩])
 (.cond (.loc 16)
  (.seq (.region [⟨.mov (.loc 10), none, none⟩, ⟨.bin .rem (.reg 0) (.cst (.int .u32 10000)), none, none⟩, ⟨.mov (.reg 1), (some 11), none⟩])
  (.seq (.region [⟨.mov (.loc 10), none, none⟩, ⟨.bin .quo (.reg 0) (.cst (.int .u32 10000)), none, none⟩, ⟨.mov (.reg 1), (some 10), none⟩])
  (.seq (.region [⟨.mov (.loc 11), none, none⟩, ⟨.bin .quo (.reg 0) (.cst (.int .u32 100)), none, none⟩, ⟨.bin .mul (.reg 1) (.cst (.int .u32 2)), none, none⟩, ⟨.mov (.loc 11), none, none⟩, ⟨.bin .rem (.reg 3) (.cst (.int .u32 100)), none, none⟩, ⟨.bin .mul (.reg 4) (.cst (.int .u32 2)), none, none⟩, ⟨.mov (.reg 2), (some 12), none⟩, ⟨.mov (.reg 5), (some 13), none⟩])
  (.seq (.draw [0, 1, 2, 3, 4, 5, 6, 7, 8, 9, 10, 11] [(12, [], [13]), (14, [], [])] [⟨.mov (.loc 0), none, none⟩, ⟨.mov (.loc 2), none, none⟩, ⟨.bin .sub (.reg 1) (.cst (.int .i64 1)), none, none⟩, ⟨.mov (.loc 0), none, none⟩, ⟨.mov (.loc 2), none, none⟩, ⟨.bin .sub (.reg 4) (.cst (.int .i64 2)), none, none⟩, ⟨.mov (.loc 13), none, none⟩, ⟨.bin .add (.reg 6) (.cst (.int .u32 1)), none, none⟩, ⟨.indexS (.cst (.str [48, 48, 48, 49, 48, 50, 48, 51, 48, 52, 48, 53, 48, 54, 48, 55, 48, 56, 48, 57, 49, 48, 49, 49, 49, 50, 49, 51, 49, 52, 49, 53, 49, 54, 49, 55, 49, 56, 49, 57, 50, 48, 50, 49, 50, 50, 50, 51, 50, 52, 50, 53, 50, 54, 50, 55, 50, 56, 50, 57, 51, 48, 51, 49, 51, 50, 51, 51, 51, 52, 51, 53, 51, 54, 51, 55, 51, 56, 51, 57, 52, 48, 52, 49, 52, 50, 52, 51, 52, 52, 52, 53, 52, 54, 52, 55, 52, 56, 52, 57, 53, 48, 53, 49, 53, 50, 53, 51, 53, 52, 53, 53, 53, 54, 53, 55, 53, 56, 53, 57, 54, 48, 54, 49, 54, 50, 54, 51, 54, 52, 54, 53, 54, 54, 54, 55, 54, 56, 54, 57, 55, 48, 55, 49, 55, 50, 55, 51, 55, 52, 55, 53, 55, 54, 55, 55, 55, 56, 55, 57, 56, 48, 56, 49, 56, 50, 56, 51, 56, 52, 56, 53, 56, 54, 56, 55, 56, 56, 56, 57, 57, 48, 57, 49, 57, 50, 57, 51, 57, 52, 57, 53, 57, 54, 57, 55, 57, 56, 57, 57])) (.reg 7), none, none⟩, ⟨.mov (.loc 13), none, none⟩, ⟨.indexS (.cst (.str [48, 48, 48, 49, 48, 50, 48, 51, 48, 52, 48, 53, 48, 54, 48, 55, 48, 56, 48, 57, 49, 48, 49, 49, 49, 50, 49, 51, 49, 52, 49, 53, 49, 54, 49, 55, 49, 56, 49, 57, 50, 48, 50, 49, 50, 50, 50, 51, 50, 52, 50, 53, 50, 54, 50, 55, 50, 56, 50, 57, 51, 48, 51, 49, 51, 50, 51, 51, 51, 52, 51, 53, 51, 54, 51, 55, 51, 56, 51, 57, 52, 48, 52, 49, 52, 50, 52, 51, 52, 52, 52, 53, 52, 54, 52, 55, 52, 56, 52, 57, 53, 48, 53, 49, 53, 50, 53, 51, 53, 52, 53, 53, 53, 54, 53, 55, 53, 56, 53, 57, 54, 48, 54, 49, 54, 50, 54, 51, 54, 52, 54, 53, 54, 54, 54, 55, 54, 56, 54, 57, 55, 48, 55, 49, 55, 50, 55, 51, 55, 52, 55, 53, 55, 54, 55, 55, 55, 56, 55, 57, 56, 48, 56, 49, 56, 50, 56, 51, 56, 52, 56, 53, 56, 54, 56, 55, 56, 56, 56, 57, 57, 48, 57, 49, 57, 50, 57, 51, 57, 52, 57, 53, 57, 54, 57, 55, 57, 56, 57, 57])) (.reg 9), none, none⟩, ⟨.indexAddrS 1 (.reg 0) (.reg 2), none, none⟩, ⟨.store 1 (.reg 11) (.reg 8), none, none⟩, ⟨.indexAddrS 1 (.reg 3) (.reg 5), none, none⟩, ⟨.store 1 (.reg 13) (.reg 10), none, none⟩])
  (.seq (.draw [0, 1, 2, 3, 4, 5, 6, 7, 8, 9, 10, 11] [(12, [], [13]), (14, [], [])] [⟨.mov (.loc 0), none, none⟩, ⟨.mov (.loc 2), none, none⟩, ⟨.bin .sub (.reg 1) (.cst (.int .i64 3)), none, none⟩, ⟨.mov (.loc 0), none, none⟩, ⟨.mov (.loc 2), none, none⟩, ⟨.bin .sub (.reg 4) (.cst (.int .i64 4)), none, none⟩, ⟨.mov (.loc 12), none, none⟩, ⟨.bin .add (.reg 6) (.cst (.int .u32 1)), none, none⟩, ⟨.indexS (.cst (.str [48, 48, 48, 49, 48, 50, 48, 51, 48, 52, 48, 53, 48, 54, 48, 55, 48, 56, 48, 57, 49, 48, 49, 49, 49, 50, 49, 51, 49, 52, 49, 53, 49, 54, 49, 55, 49, 56, 49, 57, 50, 48, 50, 49, 50, 50, 50, 51, 50, 52, 50, 53, 50, 54, 50, 55, 50, 56, 50, 57, 51, 48, 51, 49, 51, 50, 51, 51, 51, 52, 51, 53, 51, 54, 51, 55, 51, 56, 51, 57, 52, 48, 52, 49, 52, 50, 52, 51, 52, 52, 52, 53, 52, 54, 52, 55, 52, 56, 52, 57, 53, 48, 53, 49, 53, 50, 53, 51, 53, 52, 53, 53, 53, 54, 53, 55, 53, 56, 53, 57, 54, 48, 54, 49, 54, 50, 54, 51, 54, 52, 54, 53, 54, 54, 54, 55, 54, 56, 54, 57, 55, 48, 55, 49, 55, 50, 55, 51, 55, 52, 55, 53, 55, 54, 55, 55, 55, 56, 55, 57, 56, 48, 56, 49, 56, 50, 56, 51, 56, 52, 56, 53, 56, 54, 56, 55, 56, 56, 56, 57, 57, 48, 57, 49, 57, 50, 57, 51, 57, 52, 57, 53, 57, 54, 57, 55, 57, 56, 57, 57])) (.reg 7), none, none⟩, ⟨.mov (.loc 12), none, none⟩, ⟨.indexS (.cst (.str [48, 48, 48, 49, 48, 50, 48, 51, 48, 52, 48, 53, 48, 54, 48, 55, 48, 56, 48, 57, 49, 48, 49, 49, 49, 50, 49, 51, 49, 52, 49, 53, 49, 54, 49, 55, 49, 56, 49, 57, 50, 48, 50, 49, 50, 50, 50, 51, 50, 52, 50, 53, 50, 54, 50, 55, 50, 56, 50, 57, 51, 48, 51, 49, 51, 50, 51, 51, 51, 52, 51, 53, 51, 54, 51, 55, 51, 56, 51, 57, 52, 48, 52, 49, 52, 50, 52, 51, 52, 52, 52, 53, 52, 54, 52, 55, 52, 56, 52, 57, 53, 48, 53, 49, 53, 50, 53, 51, 53, 52, 53, 53, 53, 54, 53, 55, 53, 56, 53, 57, 54, 48, 54, 49, 54, 50, 54, 51, 54, 52, 54, 53, 54, 54, 54, 55, 54, 56, 54, 57, 55, 48, 55, 49, 55, 50, 55, 51, 55, 52, 55, 53, 55, 54, 55, 55, 55, 56, 55, 57, 56, 48, 56, 49, 56, 50, 56, 51, 56, 52, 56, 53, 56, 54, 56, 55, 56, 56, 56, 57, 57, 48, 57, 49, 57, 50, 57, 51, 57, 52, 57, 53, 57, 54, 57, 55, 57, 56, 57, 57])) (.reg 9), none, none⟩, ⟨.indexAddrS 1 (.reg 0) (.reg 2), none, none⟩, ⟨.store 1 (.reg 11) (.reg 8), none, none⟩, ⟨.indexAddrS 1 (.reg 3) (.reg 5), none, none⟩, ⟨.store 1 (.reg 13) (.reg 10), none, none⟩])
  (.region [⟨.mov (.loc 2), none, none⟩, ⟨.bin .sub (.reg 0) (.cst (.int .i64 4)), none, none⟩, ⟨.mov (.reg 1), (some 2), none⟩]))))))
  .skip))
 (.seq (.seq (.region [⟨.mov (.loc 2), none, none⟩, ⟨.bin .geq (.reg 0) (.cst (.int .i64 2)), (some 17), none⟩])
 (.cond (.loc 17)
  (.seq (.region [⟨.mov (.loc 10), none, none⟩, ⟨.bin .rem (.reg 0) (.cst (.int .u32 100)), none, none⟩, ⟨.bin .mul (.reg 1) (.cst (.int .u32 2)), none, none⟩, ⟨.mov (.reg 2), (some 14), none⟩])
  (.seq (.region [⟨.mov (.loc 10), none, none⟩, ⟨.bin .quo (.reg 0) (.cst (.int .u32 100)), none, none⟩, ⟨.mov (.reg 1), (some 10), none⟩])
  (.seq (.draw [0, 1, 2, 3, 4, 5, 6, 7, 8, 9, 10, 11] [(12, [], [13]), (14, [], [])] [⟨.mov (.loc 0), none, none⟩, ⟨.mov (.loc 2), none, none⟩, ⟨.bin .sub (.reg 1) (.cst (.int .i64 1)), none, none⟩, ⟨.mov (.loc 0), none, none⟩, ⟨.mov (.loc 2), none, none⟩, ⟨.bin .sub (.reg 4) (.cst (.int .i64 2)), none, none⟩, ⟨.mov (.loc 14), none, none⟩, ⟨.bin .add (.reg 6) (.cst (.int .u32 1)), none, none⟩, ⟨.indexS (.cst (.str [48, 48, 48, 49, 48, 50, 48, 51, 48, 52, 48, 53, 48, 54, 48, 55, 48, 56, 48, 57, 49, 48, 49, 49, 49, 50, 49, 51, 49, 52, 49, 53, 49, 54, 49, 55, 49, 56, 49, 57, 50, 48, 50, 49, 50, 50, 50, 51, 50, 52, 50, 53, 50, 54, 50, 55, 50, 56, 50, 57, 51, 48, 51, 49, 51, 50, 51, 51, 51, 52, 51, 53, 51, 54, 51, 55, 51, 56, 51, 57, 52, 48, 52, 49, 52, 50, 52, 51, 52, 52, 52, 53, 52, 54, 52, 55, 52, 56, 52, 57, 53, 48, 53, 49, 53, 50, 53, 51, 53, 52, 53, 53, 53, 54, 53, 55, 53, 56, 53, 57, 54, 48, 54, 49, 54, 50, 54, 51, 54, 52, 54, 53, 54, 54, 54, 55, 54, 56, 54, 57, 55, 48, 55, 49, 55, 50, 55, 51, 55, 52, 55, 53, 55, 54, 55, 55, 55, 56, 55, 57, 56, 48, 56, 49, 56, 50, 56, 51, 56, 52, 56, 53, 56, 54, 56, 55, 56, 56, 56, 57, 57, 48, 57, 49, 57, 50, 57, 51, 57, 52, 57, 53, 57, 54, 57, 55, 57, 56, 57, 57])) (.reg 7), none, none⟩, ⟨.mov (.loc 14), none, none⟩, ⟨.indexS (.cst (.str [48, 48, 48, 49, 48, 50, 48, 51, 48, 52, 48, 53, 48, 54, 48, 55, 48, 56, 48, 57, 49, 48, 49, 49, 49, 50, 49, 51, 49, 52, 49, 53, 49, 54, 49, 55, 49, 56, 49, 57, 50, 48, 50, 49, 50, 50, 50, 51, 50, 52, 50, 53, 50, 54, 50, 55, 50, 56, 50, 57, 51, 48, 51, 49, 51, 50, 51, 51, 51, 52, 51, 53, 51, 54, 51, 55, 51, 56, 51, 57, 52, 48, 52, 49, 52, 50, 52, 51, 52, 52, 52, 53, 52, 54, 52, 55, 52, 56, 52, 57, 53, 48, 53, 49, 53, 50, 53, 51, 53, 52, 53, 53, 53, 54, 53, 55, 53, 56, 53, 57, 54, 48, 54, 49, 54, 50, 54, 51, 54, 52, 54, 53, 54, 54, 54, 55, 54, 56, 54, 57, 55, 48, 55, 49, 55, 50, 55, 51, 55, 52, 55, 53, 55, 54, 55, 55, 55, 56, 55, 57, 56, 48, 56, 49, 56, 50, 56, 51, 56, 52, 56, 53, 56, 54, 56, 55, 56, 56, 56, 57, 57, 48, 57, 49, 57, 50, 57, 51, 57, 52, 57, 53, 57, 54, 57, 55, 57, 56, 57, 57])) (.reg 9), none, none⟩, ⟨.indexAddrS 1 (.reg 0) (.reg 2), none, none⟩, ⟨.store 1 (.reg 11) (.reg 8), none, none⟩, ⟨.indexAddrS 1 (.reg 3) (.reg 5), none, none⟩, ⟨.store 1 (.reg 13) (.reg 10), none, none⟩])
  (.region [⟨.mov (.loc 2), none, none⟩, ⟨.bin .sub (.reg 0) (.cst (.int .i64 2)), none, none⟩, ⟨.mov (.reg 1), (some 2), none⟩]))))
  .skip))
 (.seq (.region [⟨.mov (.loc 2), none, none⟩, ⟨.bin .gtr (.reg 0) (.cst (.int .i64 0)), (some 18), none⟩])
 (.cond (.loc 18)
  (.region [⟨.mov (.loc 0), none, none⟩, ⟨.mov (.loc 10), none, none⟩, ⟨.bin .add (.cst (.int .u32 48)) (.reg 1), none, none⟩, ⟨.conv (.toInt .u8) (.reg 2), none, none⟩, ⟨.indexAddrS 1 (.reg 0) (.cst (.int .i64 0)), none, none⟩, ⟨.store 1 (.reg 4) (.reg 3), none, none⟩])
  .skip)))))))⟩
theorem c95 : compFunc Tryd.prog opts a95 Tryd.f95 = some t95 := by kernel_rfl
end Go.Proofs.YtdbffhgfjmhaiaaDoor
