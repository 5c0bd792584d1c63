/- The functions of this seat, compiled for the evaluator TM; each held against the translation by the kernel. By program. Condition: none. -/
import Derived.Test.YtdbffhgfjmhaiaaDoorPrim
set_option maxRecDepth 100000
set_option linter.unusedVariables false
namespace Go.Proofs.YtdbffhgfjmhaiaaDoor
open Go Go.TM
abbrev o_ (x : TOp) : TOper := ⟨x, none, none⟩
def opts : Opts := ⟨fun f => ([26, 28, 34, 40, 41, 42, 45, 48, 50, 52, 53, 55, 61, 65, 71, 72, 73, 74, 75, 80, 87, 88, 95, 120, 121, 122, 123, 124, 125, 126, 127] : List Nat).contains f, fun f => ([74, 87, 98, 111] : List Nat).contains f⟩
def a8 : Ann := { slots := [0, 1, 2, 3, 4, 5, 6, 7, 8, 9, 10, 11, 12, 13, 14, 24, 50, 79], lb := [11, 10, 8, 7, 6, 5, 3, 2], mu := [], trunc := [], draws := [(3, ⟨[0, 1, 0, 7, 0, 0, 63, 127], [0, 2, 4, 5], [(1, [2], []), (3, [], []), (6, [], []), (7, [], [])]⟩), (13, ⟨[0, 1, 3, 7, 3, 31, 63, 127, 255, 511, 1023, 511, 4095, 8191, 16383, 32767, 65535, 131071, 262143], [0, 1, 2, 4], [(3, [4], []), (5, [], [6, 7, 8, 9, 11]), (10, [11], []), (12, [], [13, 14, 15]), (16, [], [17, 18])]⟩)] }
def t8L0 : TCode := (.seq (.seq (.region [o_ (.mov (.loc 14)), o_ (.fieldAddr 1 (.loc 8)), o_ (.load1 (.reg 1)), o_ (.len .sl (.reg 2)), ⟨.bin .lss (.reg 0) (.reg 3), (some 17), none⟩])
   (.cond (.loc 17)
    .skip
    (.exit 0)))
   (.seq (.block 1
    (.region [o_ (.fieldAddr 1 (.loc 8)), o_ (.load1 (.reg 0)), o_ (.mov (.loc 14)), o_ (.indexAddrS 1 (.reg 1) (.reg 2)), o_ (.store 1 (.reg 3) (.cst (.int .u16 7)))]))
   (.region [o_ (.mov (.loc 14)), o_ (.bin .add (.reg 0) (.cst (.int .i64 1))), ⟨.mov (.reg 1), (some 14), none⟩])))
def t8 : TFunc := ⟨2, 18, [.loc 4],
 (.seq (.region [o_ (.boxL 2 (.loc 0)), o_ (.boxL 3 (.loc 1)), ⟨.mov (.cst (.bool false)), (some 4), none⟩])
 (.seq (.seq (.region [o_ (.fieldAddr 1 (.loc 2)), o_ (.load1 (.reg 0)), o_ (.len .sl (.reg 1)), o_ (.bin .gtr (.reg 2) (.cst (.int .i64 60))), o_ (.mov (.reg 3)), ⟨.fieldAddr 1 (.loc 3), none, (some (4, false))⟩, ⟨.load1 (.reg 5), none, (some (4, false))⟩, ⟨.len .sl (.reg 6), none, (some (4, false))⟩, ⟨.bin .gtr (.reg 7) (.cst (.int .i64 60)), none, (some (4, false))⟩, ⟨.pick (.reg 4) (.cst (.bool true)) (.reg 8), (some 15), none⟩])
 (.cond (.loc 15)
  (.seq (.region [o_ (.call true false 11 []), ⟨.mov (.reg 0), (some 4), none⟩])
  .ret)
  .skip))
 (.seq (.draw [0, 2, 4, 5] [(1, [2], []), (3, [], []), (6, [], []), (7, [], [])] [o_ (.loadN 2 (.loc 2)), o_ (.call true false 19 [(.reg 0)]), o_ (.loadN 2 (.loc 3)), o_ (.call true false 19 [(.reg 2)]), ⟨.allocH 32 [(.bool false), (.sl .nil [])], (some 5), none⟩, ⟨.allocH 32 [(.bool false), (.sl .nil [])], (some 6), none⟩, o_ (.store 2 (.reg 4) (.reg 1)), o_ (.store 2 (.reg 5) (.reg 3))])
 (.seq (.region [o_ (.loadN 2 (.loc 2)), o_ (.loadN 2 (.loc 3)), o_ (.call false false 34 [(.reg 0), (.reg 1)]), o_ (.mov (.reg 2)), o_ (.extract 0 (.reg 3)), o_ (.extract 1 (.reg 3)), o_ (.extract 2 (.reg 3)), o_ (.allocL 7 [(.bool false), (.sl .nil [])]), o_ (.allocL 8 [(.bool false), (.sl .nil [])]), o_ (.store 2 (.reg 7) (.reg 4)), o_ (.store 2 (.reg 8) (.reg 5)), ⟨.mov (.reg 6), (some 9), none⟩])
 (.seq (.region [o_ (.loadN 2 (.loc 5)), o_ (.loadN 2 (.loc 6)), o_ (.call true false 35 [(.reg 0), (.reg 1)]), o_ (.mov (.reg 2)), o_ (.extract 0 (.reg 3)), o_ (.extract 1 (.reg 3)), o_ (.extract 2 (.reg 3)), o_ (.allocL 10 [(.bool false), (.sl .nil [])]), o_ (.allocL 11 [(.bool false), (.sl .nil [])]), o_ (.store 2 (.reg 7) (.reg 4)), o_ (.store 2 (.reg 8) (.reg 5)), ⟨.mov (.reg 6), (some 12), none⟩])
 (.seq (.seq (.region [o_ (.mov (.loc 9)), o_ (.mov (.loc 12)), o_ (.bin .neq (.reg 0) (.reg 1)), o_ (.mov (.reg 2)), ⟨.mov (.loc 9), none, (some (3, false))⟩, ⟨.bin .neq (.reg 4) (.cst (.int .i64 0)), none, (some (3, false))⟩, ⟨.pick (.reg 3) (.cst (.bool true)) (.reg 5), (some 16), none⟩])
 (.cond (.loc 16)
  (.seq (.region [o_ (.mov (.loc 9)), o_ (.mov (.loc 12)), o_ (.bin .eql (.reg 0) (.reg 1)), o_ (.mov (.reg 2)), ⟨.loadN 2 (.loc 7), none, (some (3, true))⟩, ⟨.loadN 2 (.loc 10), none, (some (3, true))⟩, ⟨.call true false 14 [(.reg 4), (.reg 5)], none, (some (3, true))⟩, o_ (.pick (.reg 3) (.reg 6) (.cst (.bool false))), o_ (.mov (.reg 7)), ⟨.loadN 2 (.loc 8), none, (some (8, true))⟩, ⟨.loadN 2 (.loc 11), none, (some (8, true))⟩, ⟨.call true false 14 [(.reg 9), (.reg 10)], none, (some (8, true))⟩, o_ (.pick (.reg 8) (.reg 11) (.cst (.bool false))), o_ (.mov (.reg 12)), ⟨.call true false 11 [], none, (some (13, true))⟩, o_ (.pick (.reg 13) (.reg 14) (.cst (.bool false))), ⟨.mov (.reg 15), (some 4), none⟩])
  .ret)
  .skip))
 (.seq (.region [o_ (.loadN 2 (.loc 7)), o_ (.loadN 2 (.loc 10)), o_ (.call true false 14 [(.reg 0), (.reg 1)]), o_ (.mov (.reg 2)), ⟨.loadN 2 (.loc 8), none, (some (3, true))⟩, ⟨.loadN 2 (.loc 11), none, (some (3, true))⟩, ⟨.call true false 14 [(.reg 4), (.reg 5)], none, (some (3, true))⟩, o_ (.pick (.reg 3) (.reg 6) (.cst (.bool false))), ⟨.mov (.reg 7), (some 13), none⟩])
 (.seq (.seq (.region [⟨.mov (.cst (.int .i64 0)), (some 14), none⟩])
 (.block 0
  (.loop t8L0)))
 (.seq (.draw [0, 1, 2, 4] [(3, [4], []), (5, [], [6, 7, 8, 9, 11]), (10, [11], []), (12, [], [13, 14, 15]), (16, [], [17, 18])] [o_ (.mov (.loc 13)), o_ (.mov (.reg 0)), ⟨.loadN 2 (.loc 2), none, (some (1, true))⟩, ⟨.call true false 19 [(.reg 2)], none, (some (1, true))⟩, ⟨.loadN 2 (.loc 5), none, (some (1, true))⟩, ⟨.call true false 30 [(.reg 3), (.reg 4)], none, (some (1, true))⟩, ⟨.bin .eql (.reg 5) (.cst (.int .i64 0)), none, (some (1, true))⟩, o_ (.pick (.reg 1) (.reg 6) (.cst (.bool false))), o_ (.mov (.reg 7)), ⟨.loadN 2 (.loc 3), none, (some (8, true))⟩, ⟨.call true false 19 [(.reg 9)], none, (some (8, true))⟩, ⟨.loadN 2 (.loc 6), none, (some (8, true))⟩, ⟨.call true false 30 [(.reg 10), (.reg 11)], none, (some (8, true))⟩, ⟨.bin .eql (.reg 12) (.cst (.int .i64 0)), none, (some (8, true))⟩, o_ (.pick (.reg 8) (.reg 13) (.cst (.bool false))), o_ (.mov (.reg 14)), ⟨.call true false 11 [], none, (some (15, true))⟩, o_ (.pick (.reg 15) (.reg 16) (.cst (.bool false))), ⟨.mov (.reg 17), (some 4), none⟩])
 .ret)))))))))⟩
theorem c8 : compFunc Tryd.prog opts a8 Tryd.f8 = some t8 := by kernel_rfl
def a11 : Ann := { slots := [0, 1, 2], lb := [1], mu := [], trunc := [], draws := [] }
def t11 : TFunc := ⟨0, 3, [.loc 0],
 (.seq (.region [⟨.mov (.cst (.bool false)), (some 0), none⟩])
 (.seq (.region [o_ (.call true false 12 [(.cst (.str [45, 48, 48, 48, 54, 53, 53, 51, 55]))]), o_ (.mov (.reg 0)), o_ (.extract 0 (.reg 1)), o_ (.extract 1 (.reg 1)), o_ (.allocL 1 [(.bool false), (.sl .nil [])]), o_ (.store 2 (.reg 4) (.reg 2)), ⟨.mov (.reg 3), (some 2), none⟩])
 (.seq (.region [o_ (.mov (.loc 2)), o_ (.bin .eql (.reg 0) (.cst (.int .i64 0))), o_ (.mov (.reg 1)), ⟨.fieldAddr 0 (.loc 1), none, (some (2, true))⟩, ⟨.load1 (.reg 3), none, (some (2, true))⟩, o_ (.pick (.reg 2) (.reg 4) (.cst (.bool false))), o_ (.mov (.reg 5)), ⟨.fieldAddr 1 (.loc 1), none, (some (6, true))⟩, ⟨.load1 (.reg 7), none, (some (6, true))⟩, ⟨.len .sl (.reg 8), none, (some (6, true))⟩, ⟨.bin .eql (.reg 9) (.cst (.int .i64 2)), none, (some (6, true))⟩, o_ (.pick (.reg 6) (.reg 10) (.cst (.bool false))), o_ (.mov (.reg 11)), ⟨.fieldAddr 1 (.loc 1), none, (some (12, true))⟩, ⟨.load1 (.reg 13), none, (some (12, true))⟩, ⟨.indexAddrS 1 (.reg 14) (.cst (.int .i64 0)), none, (some (12, true))⟩, ⟨.load1 (.reg 15), none, (some (12, true))⟩, ⟨.bin .eql (.reg 16) (.cst (.int .u16 1)), none, (some (12, true))⟩, o_ (.pick (.reg 12) (.reg 17) (.cst (.bool false))), o_ (.mov (.reg 18)), ⟨.fieldAddr 1 (.loc 1), none, (some (19, true))⟩, ⟨.load1 (.reg 20), none, (some (19, true))⟩, ⟨.indexAddrS 1 (.reg 21) (.cst (.int .i64 1)), none, (some (19, true))⟩, ⟨.load1 (.reg 22), none, (some (19, true))⟩, ⟨.bin .eql (.reg 23) (.cst (.int .u16 1)), none, (some (19, true))⟩, o_ (.pick (.reg 19) (.reg 24) (.cst (.bool false))), o_ (.mov (.reg 25)), ⟨.loadN 2 (.loc 1), none, (some (26, true))⟩, ⟨.call true false 38 [(.reg 27), (.cst (.str [45, 54, 53, 53, 51, 55]))], none, (some (26, true))⟩, o_ (.pick (.reg 26) (.reg 28) (.cst (.bool false))), o_ (.mov (.reg 29)), ⟨.call true false 37 [(.cst (.str [54, 53, 53, 51, 53]))], none, (some (30, true))⟩, ⟨.call true false 37 [(.cst (.str [54, 53, 53, 51, 55]))], none, (some (30, true))⟩, ⟨.call false false 28 [(.reg 31), (.reg 32)], none, (some (30, true))⟩, ⟨.call true false 38 [(.reg 33), (.cst (.str [52, 50, 57, 52, 57, 54, 55, 50, 57, 53]))], none, (some (30, true))⟩, o_ (.pick (.reg 30) (.reg 34) (.cst (.bool false))), ⟨.mov (.reg 35), (some 0), none⟩])
 .ret)))⟩
theorem c11 : compFunc Tryd.prog opts a11 Tryd.f11 = some t11 := by kernel_rfl
def a12 : Ann := { slots := [0, 2, 3, 4, 5, 7, 19, 22, 23, 24, 25, 33], lb := [2], mu := [], trunc := [], draws := [] }
def t12L0 : TCode := (.seq (.region [⟨.bin .lss (.loc 9) (.loc 8), (some 10), none⟩])
   (.seq (.cond (.loc 10)
    .skip
    (.exit 0))
   (.seq (.block 1
    (.seq (.region [o_ (.indexAddrS 1 (.loc 7) (.loc 9)), o_ (.load1 (.reg 0)), ⟨.mov (.reg 1), (some 5), none⟩])
    (.seq (.seq (.region [o_ (.mov (.loc 5)), o_ (.bin .lss (.reg 0) (.cst (.int .u8 48))), o_ (.mov (.reg 1)), ⟨.mov (.loc 5), none, (some (2, false))⟩, ⟨.bin .gtr (.reg 3) (.cst (.int .u8 57)), none, (some (2, false))⟩, ⟨.pick (.reg 2) (.cst (.bool true)) (.reg 4), (some 11), none⟩])
    (.cond (.loc 11)
     (.seq (.region [o_ (.build [(.bool false), (.sl .nil [])] []), o_ (.store 2 (.loc 1) (.reg 0)), ⟨.mov (.cst (.int .i64 4)), (some 2), none⟩])
     .ret)
     .skip))
    (.region [o_ (.mov (.loc 4)), o_ (.mov (.loc 5)), o_ (.bin .sub (.reg 1) (.cst (.int .u8 48))), o_ (.conv (.toInt .u32) (.reg 2)), o_ (.call false false 41 [(.reg 0), (.cst (.int .u32 10)), (.reg 3)]), o_ (.call false false 40 [(.reg 4)]), ⟨.mov (.reg 5), (some 4), none⟩]))))
   (.region [o_ (.bin .add (.loc 9) (.cst (.int .i64 1))), ⟨.mov (.reg 0), (some 9), none⟩]))))
def t12 : TFunc := ⟨1, 12, [.cell 1 2 true, .loc 2],
 (.seq (.region [o_ (.allocL 1 [(.bool false), (.sl .nil [])]), ⟨.mov (.cst (.int .i64 0)), (some 2), none⟩])
 (.seq (.region [o_ (.mov (.loc 0)), o_ (.call true false 39 [(.reg 0), (.cst (.str [43, 45]))]), ⟨.mov (.reg 1), (some 3), none⟩])
 (.seq (.seq (.region [o_ (.mov (.loc 0)), o_ (.len .str (.reg 0)), o_ (.mov (.loc 3)), o_ (.len .str (.reg 2)), o_ (.bin .sub (.reg 1) (.reg 3)), o_ (.bin .gtr (.reg 4) (.cst (.int .i64 1))), o_ (.mov (.reg 5)), ⟨.mov (.loc 3), none, (some (6, false))⟩, ⟨.bin .eql (.reg 7) (.cst (.str [])), none, (some (6, false))⟩, ⟨.pick (.reg 6) (.cst (.bool true)) (.reg 8), (some 6), none⟩])
 (.cond (.loc 6)
  (.seq (.region [o_ (.build [(.bool false), (.sl .nil [])] []), o_ (.store 2 (.loc 1) (.reg 0)), ⟨.mov (.cst (.int .i64 4)), (some 2), none⟩])
  .ret)
  .skip))
 (.seq (.region [⟨.mov (.cst (.sl .nil [])), (some 4), none⟩])
 (.seq (.seq (.region [o_ (.mov (.loc 3)), ⟨.conv .strBytes (.reg 0), (some 7), none⟩, ⟨.len .sl (.reg 1), (some 8), none⟩, ⟨.mov (.cst (.int .i64 0)), (some 9), none⟩])
 (.block 0
  (.loop t12L0)))
 (.seq (.region [o_ (.mov (.loc 0)), o_ (.indexS (.reg 0) (.cst (.int .i64 0))), o_ (.bin .eql (.reg 1) (.cst (.int .u8 45))), o_ (.mov (.loc 4)), o_ (.call false false 42 [(.reg 2), (.reg 3)]), o_ (.store 2 (.loc 1) (.reg 4)), ⟨.mov (.cst (.int .i64 0)), (some 2), none⟩])
 .ret))))))⟩
theorem c12 : compFunc Tryd.prog opts a12 Tryd.f12 = some t12 := by kernel_rfl
def a14 : Ann := { slots := [0, 1, 2, 3, 4, 5, 6, 21, 25, 37], lb := [3, 2], mu := [], trunc := [], draws := [(7, ⟨[0, 1, 0, 7, 15, 0, 0, 96, 224, 511], [0, 1, 2, 3, 4, 5, 6, 7, 8, 9], []⟩)] }
def t14L0 : TCode := (.seq (.seq (.region [o_ (.mov (.loc 6)), o_ (.mov (.loc 5)), o_ (.len .sl (.reg 1)), ⟨.bin .lss (.reg 0) (.reg 2), (some 8), none⟩])
   (.cond (.loc 8)
    .skip
    (.exit 0)))
   (.seq (.block 1
    (.seq (.draw [0, 1, 2, 3, 4, 5, 6, 7, 8, 9] [] [o_ (.fieldAddr 1 (.loc 2)), o_ (.load1 (.reg 0)), o_ (.mov (.loc 6)), o_ (.indexAddrS 1 (.reg 1) (.reg 2)), o_ (.load1 (.reg 3)), o_ (.mov (.loc 5)), o_ (.mov (.loc 6)), o_ (.indexAddrS 1 (.reg 5) (.reg 6)), o_ (.load1 (.reg 7)), ⟨.bin .neq (.reg 4) (.reg 8), (some 9), none⟩])
    (.cond (.loc 9)
     (.seq (.region [⟨.mov (.cst (.bool false)), (some 4), none⟩])
     .ret)
     .skip)))
   (.region [o_ (.mov (.loc 6)), o_ (.bin .add (.reg 0) (.cst (.int .i64 1))), ⟨.mov (.reg 1), (some 6), none⟩])))
def t14 : TFunc := ⟨2, 10, [.loc 4],
 (.seq (.region [o_ (.boxL 2 (.loc 0)), o_ (.boxL 3 (.loc 1)), ⟨.mov (.cst (.bool false)), (some 4), none⟩])
 (.seq (.region [o_ (.loadN 2 (.loc 3)), o_ (.call true false 44 [(.reg 0)]), ⟨.mov (.reg 1), (some 5), none⟩])
 (.seq (.seq (.region [o_ (.fieldAddr 0 (.loc 2)), o_ (.load1 (.reg 0)), o_ (.fieldAddr 0 (.loc 3)), o_ (.load1 (.reg 2)), o_ (.eqB true .bool (.reg 1) (.reg 3)), o_ (.mov (.reg 4)), ⟨.fieldAddr 1 (.loc 2), none, (some (5, false))⟩, ⟨.load1 (.reg 6), none, (some (5, false))⟩, ⟨.len .sl (.reg 7), none, (some (5, false))⟩, ⟨.mov (.loc 5), none, (some (5, false))⟩, ⟨.len .sl (.reg 9), none, (some (5, false))⟩, ⟨.bin .neq (.reg 8) (.reg 10), none, (some (5, false))⟩, ⟨.pick (.reg 5) (.cst (.bool true)) (.reg 11), (some 7), none⟩])
 (.cond (.loc 7)
  (.seq (.region [⟨.mov (.cst (.bool false)), (some 4), none⟩])
  .ret)
  .skip))
 (.seq (.seq (.region [⟨.mov (.cst (.int .i64 0)), (some 6), none⟩])
 (.block 0
  (.loop t14L0)))
 (.seq (.region [⟨.mov (.cst (.bool true)), (some 4), none⟩])
 .ret)))))⟩
theorem c14 : compFunc Tryd.prog opts a14 Tryd.f14 = some t14 := by kernel_rfl
def a15 : Ann := { slots := [0, 2, 3, 7, 16], lb := [], mu := [], trunc := [], draws := [] }
def t15L0 : TCode := (.seq (.seq (.region [o_ (.mov (.loc 2)), o_ (.mov (.loc 0)), o_ (.len .sl (.reg 1)), ⟨.bin .lss (.reg 0) (.reg 2), (some 3), none⟩])
   (.cond (.loc 3)
    .skip
    (.exit 0)))
   (.seq (.block 1
    (.seq (.region [o_ (.mov (.loc 0)), o_ (.mov (.loc 2)), o_ (.indexAddrS 2 (.reg 0) (.reg 1)), o_ (.fieldAddr 1 (.reg 2)), o_ (.load1 (.reg 3)), o_ (.len .sl (.reg 4)), ⟨.bin .gtr (.reg 5) (.cst (.int .i64 60)), (some 4), none⟩])
    (.cond (.loc 4)
     (.seq (.region [⟨.mov (.cst (.bool true)), (some 1), none⟩])
     .ret)
     .skip)))
   (.region [o_ (.mov (.loc 2)), o_ (.bin .add (.reg 0) (.cst (.int .i64 1))), ⟨.mov (.reg 1), (some 2), none⟩])))
def t15 : TFunc := ⟨1, 5, [.loc 1],
 (.seq (.region [⟨.mov (.cst (.bool false)), (some 1), none⟩])
 (.seq (.seq (.region [⟨.mov (.cst (.int .i64 0)), (some 2), none⟩])
 (.block 0
  (.loop t15L0)))
 (.seq (.region [⟨.mov (.cst (.bool false)), (some 1), none⟩])
 .ret)))⟩
theorem c15 : compFunc Tryd.prog opts a15 Tryd.f15 = some t15 := by kernel_rfl
def a16 : Ann := { slots := [0, 1, 2, 3, 4, 5, 6, 12, 15, 26, 38], lb := [1], mu := [(11, 3)], trunc := [], draws := [] }
def t16L0 : TCode := (.seq (.seq (.region [o_ (.mov (.loc 3)), o_ (.len .sl (.reg 0)), ⟨.bin .gtr (.reg 1) (.cst (.int .i64 0)), (some 8), none⟩])
   (.cond (.loc 8)
    .skip
    (.exit 0)))
   (.block 1
    (.seq (.region [⟨.mov (.cst (.int .u32 0)), (some 5), none⟩])
    (.seq (.region [o_ (.mov (.loc 3)), o_ (.call false false 45 [(.reg 0), (.cst (.int .u32 10000))]), o_ (.mov (.reg 1)), o_ (.extract 0 (.reg 2)), o_ (.extract 1 (.reg 2)), ⟨.mov (.reg 3), (some 3), none⟩, ⟨.mov (.reg 4), (some 5), none⟩])
    (.seq (.region [o_ (.mov (.loc 5)), o_ (.conv (.toInt .i64) (.reg 0)), o_ (.call true false 46 [(.reg 1)]), ⟨.mov (.reg 2), (some 6), none⟩])
    (.seq (.seq (.region [o_ (.mov (.loc 3)), o_ (.len .sl (.reg 0)), ⟨.bin .gtr (.reg 1) (.cst (.int .i64 0)), (some 9), none⟩])
    (.cond (.loc 9)
     (.region [o_ (.mov (.loc 6)), o_ (.len .str (.reg 0)), o_ (.bin .sub (.cst (.int .i64 4)) (.reg 1)), o_ (.call true false 47 [(.cst (.str [48])), (.reg 2)]), o_ (.mov (.loc 6)), o_ (.bin .add (.reg 3) (.reg 4)), ⟨.mov (.reg 5), (some 6), none⟩])
     .skip))
    (.region [o_ (.mov (.loc 4)), o_ (.mov (.loc 6)), o_ (.lit false [(.str [])] 1 [(0, (.reg 1))]), o_ (.append true 1 16 9 (.reg 0) (.reg 2)), ⟨.mov (.reg 3), (some 4), none⟩])))))))
def t16 : TFunc := ⟨1, 11, [.loc 2],
 (.seq (.region [o_ (.boxL 1 (.loc 0)), ⟨.mov (.cst (.str [])), (some 2), none⟩])
 (.seq (.region [o_ (.fieldAddr 1 (.loc 1)), o_ (.load1 (.reg 0)), o_ (.call false false 40 [(.reg 1)]), ⟨.mov (.reg 2), (some 3), none⟩])
 (.seq (.seq (.region [o_ (.mov (.loc 3)), o_ (.len .sl (.reg 0)), ⟨.bin .eql (.reg 1) (.cst (.int .i64 0)), (some 7), none⟩])
 (.cond (.loc 7)
  (.seq (.region [⟨.mov (.cst (.str [48])), (some 2), none⟩])
  .ret)
  .skip))
 (.seq (.region [⟨.mov (.cst (.sl .nil [])), (some 4), none⟩])
 (.seq (.block 0
  (.loop t16L0))
 (.seq (.seq (.region [o_ (.fieldAddr 0 (.loc 1)), ⟨.load1 (.reg 0), (some 10), none⟩])
 (.cond (.loc 10)
  (.region [o_ (.mov (.loc 4)), o_ (.lit false [(.str [])] 1 [(0, (.cst (.str [45])))]), o_ (.append false 1 16 9 (.reg 0) (.reg 1)), ⟨.mov (.reg 2), (some 4), none⟩])
  .skip))
 (.seq (.region [o_ (.mov (.loc 4)), o_ (.call false false 48 [(.reg 0)])])
 (.seq (.region [o_ (.mov (.loc 4)), o_ (.call true false 49 [(.reg 0), (.cst (.str []))]), ⟨.mov (.reg 1), (some 2), none⟩])
 .ret))))))))⟩
theorem c16 : compFunc Tryd.prog opts a16 Tryd.f16 = some t16 := by kernel_rfl
def a17 : Ann := { slots := [0, 1, 2, 3, 4, 5, 19, 24, 37], lb := [3, 2], mu := [], trunc := [], draws := [(6, ⟨[0, 1, 0, 7, 15, 0, 32, 0, 224, 480, 1023], [0, 1, 2, 3, 4, 5, 6, 7, 8, 9, 10], []⟩)] }
def t17L0 : TCode := (.seq (.seq (.region [o_ (.mov (.loc 5)), o_ (.fieldAddr 1 (.loc 2)), o_ (.load1 (.reg 1)), o_ (.len .sl (.reg 2)), ⟨.bin .lss (.reg 0) (.reg 3), (some 7), none⟩])
   (.cond (.loc 7)
    .skip
    (.exit 0)))
   (.seq (.block 1
    (.seq (.draw [0, 1, 2, 3, 4, 5, 6, 7, 8, 9, 10] [] [o_ (.fieldAddr 1 (.loc 2)), o_ (.load1 (.reg 0)), o_ (.mov (.loc 5)), o_ (.indexAddrS 1 (.reg 1) (.reg 2)), o_ (.load1 (.reg 3)), o_ (.fieldAddr 1 (.loc 3)), o_ (.load1 (.reg 5)), o_ (.mov (.loc 5)), o_ (.indexAddrS 1 (.reg 6) (.reg 7)), o_ (.load1 (.reg 8)), ⟨.bin .neq (.reg 4) (.reg 9), (some 8), none⟩])
    (.cond (.loc 8)
     (.seq (.region [⟨.mov (.cst (.bool false)), (some 4), none⟩])
     .ret)
     .skip)))
   (.region [o_ (.mov (.loc 5)), o_ (.bin .add (.reg 0) (.cst (.int .i64 1))), ⟨.mov (.reg 1), (some 5), none⟩])))
def t17 : TFunc := ⟨2, 9, [.loc 4],
 (.seq (.region [o_ (.boxL 2 (.loc 0)), o_ (.boxL 3 (.loc 1)), ⟨.mov (.cst (.bool false)), (some 4), none⟩])
 (.seq (.seq (.region [o_ (.fieldAddr 0 (.loc 2)), o_ (.load1 (.reg 0)), o_ (.fieldAddr 0 (.loc 3)), o_ (.load1 (.reg 2)), o_ (.eqB true .bool (.reg 1) (.reg 3)), o_ (.mov (.reg 4)), ⟨.fieldAddr 1 (.loc 2), none, (some (5, false))⟩, ⟨.load1 (.reg 6), none, (some (5, false))⟩, ⟨.len .sl (.reg 7), none, (some (5, false))⟩, ⟨.fieldAddr 1 (.loc 3), none, (some (5, false))⟩, ⟨.load1 (.reg 9), none, (some (5, false))⟩, ⟨.len .sl (.reg 10), none, (some (5, false))⟩, ⟨.bin .neq (.reg 8) (.reg 11), none, (some (5, false))⟩, ⟨.pick (.reg 5) (.cst (.bool true)) (.reg 12), (some 6), none⟩])
 (.cond (.loc 6)
  (.seq (.region [⟨.mov (.cst (.bool false)), (some 4), none⟩])
  .ret)
  .skip))
 (.seq (.seq (.region [⟨.mov (.cst (.int .i64 0)), (some 5), none⟩])
 (.block 0
  (.loop t17L0)))
 (.seq (.region [⟨.mov (.cst (.bool true)), (some 4), none⟩])
 .ret))))⟩
theorem c17 : compFunc Tryd.prog opts a17 Tryd.f17 = some t17 := by kernel_rfl
def a18 : Ann := { slots := [0, 1, 2], lb := [2, 1], mu := [], trunc := [], draws := [(1, ⟨[0, 1, 0, 4, 12, 31, 63], [0, 1, 2, 3], [(4, [1], []), (5, [], []), (6, [], [])]⟩)] }
def t18 : TFunc := ⟨1, 3, [.cell 2 2 true],
 (.seq (.region [o_ (.boxL 1 (.loc 0)), o_ (.allocL 2 [(.bool false), (.sl .nil [])])])
 (.seq (.draw [0, 1, 2, 3] [(4, [1], []), (5, [], []), (6, [], [])] [o_ (.fieldAddr 0 (.loc 1)), o_ (.load1 (.reg 0)), o_ (.fieldAddr 1 (.loc 1)), o_ (.load1 (.reg 2)), o_ (.call false false 50 [(.reg 3)]), o_ (.call false false 42 [(.reg 1), (.reg 4)]), o_ (.store 2 (.loc 2) (.reg 5))])
 .ret))⟩
theorem c18 : compFunc Tryd.prog opts a18 Tryd.f18 = some t18 := by kernel_rfl
def a19 : Ann := { slots := [0, 1, 2], lb := [2, 1], mu := [], trunc := [], draws := [] }
def t19 : TFunc := ⟨1, 3, [.cell 2 2 true],
 (.seq (.region [o_ (.boxL 1 (.loc 0)), o_ (.allocL 2 [(.bool false), (.sl .nil [])])])
 (.seq (.region [o_ (.fieldAddr 0 (.loc 1)), o_ (.load1 (.reg 0)), o_ (.fieldAddr 1 (.loc 1)), o_ (.load1 (.reg 2)), o_ (.call true false 51 [(.reg 1), (.reg 3)]), o_ (.store 2 (.loc 2) (.reg 4))])
 .ret))⟩
theorem c19 : compFunc Tryd.prog opts a19 Tryd.f19 = some t19 := by kernel_rfl
def a26 : Ann := { slots := [0, 1, 2, 3, 4, 5, 19], lb := [4, 3, 2], mu := [], trunc := [], draws := [(2, ⟨[0, 1, 0, 4, 0, 16, 60, 127, 255], [0, 1, 2, 3, 4, 5], [(6, [1], []), (7, [], []), (8, [], [])]⟩), (4, ⟨[0, 1, 0, 4, 12, 0, 32, 124, 252, 511, 1023], [0, 1, 2, 3, 5, 6], [(4, [1, 6], []), (7, [1], []), (8, [1], []), (9, [], []), (10, [], [])]⟩), (5, ⟨[0, 1, 0, 4, 12, 0, 32, 124, 252, 511, 1023], [0, 1, 2, 3, 5, 6], [(4, [1, 6], []), (7, [1], []), (8, [1], []), (9, [], []), (10, [], [])]⟩)] }
def t26 : TFunc := ⟨2, 7, [.cell 4 2 true],
 (.seq (.region [o_ (.boxL 2 (.loc 0)), o_ (.boxL 3 (.loc 1)), o_ (.allocL 4 [(.bool false), (.sl .nil [])])])
 (.seq (.block 0
  (.seq (.region [o_ (.fieldAddr 0 (.loc 2)), o_ (.load1 (.reg 0)), o_ (.fieldAddr 0 (.loc 3)), o_ (.load1 (.reg 2)), o_ (.eqB false .bool (.reg 1) (.reg 3)), ⟨.mov (.reg 4), (some 5), none⟩])
  (.cond (.loc 5)
   (.seq (.draw [0, 1, 2, 3, 4, 5] [(6, [1], []), (7, [], []), (8, [], [])] [o_ (.fieldAddr 0 (.loc 2)), o_ (.load1 (.reg 0)), o_ (.fieldAddr 1 (.loc 2)), o_ (.load1 (.reg 2)), o_ (.fieldAddr 1 (.loc 3)), o_ (.load1 (.reg 4)), o_ (.call false false 53 [(.reg 3), (.reg 5)]), o_ (.call false false 42 [(.reg 1), (.reg 6)]), o_ (.store 2 (.loc 4) (.reg 7))])
   .ret)
   (.seq (.region [o_ (.fieldAddr 1 (.loc 2)), o_ (.load1 (.reg 0)), o_ (.fieldAddr 1 (.loc 3)), o_ (.load1 (.reg 2)), o_ (.call true false 54 [(.reg 1), (.reg 3)]), o_ (.bin .geq (.reg 4) (.cst (.int .i64 0))), ⟨.mov (.reg 5), (some 6), none⟩])
   (.cond (.loc 6)
    (.seq (.draw [0, 1, 2, 3, 5, 6] [(4, [1, 6], []), (7, [1], []), (8, [1], []), (9, [], []), (10, [], [])] [o_ (.fieldAddr 0 (.loc 2)), o_ (.load1 (.reg 0)), o_ (.fieldAddr 1 (.loc 2)), o_ (.load1 (.reg 2)), o_ (.call false false 40 [(.reg 3)]), o_ (.fieldAddr 1 (.loc 3)), o_ (.load1 (.reg 5)), o_ (.call false false 40 [(.reg 6)]), o_ (.call false false 55 [(.reg 4), (.reg 7)]), o_ (.call false false 42 [(.reg 1), (.reg 8)]), o_ (.store 2 (.loc 4) (.reg 9))])
    .ret)
    .skip)))))
 (.seq (.draw [0, 1, 2, 3, 5, 6] [(4, [1, 6], []), (7, [1], []), (8, [1], []), (9, [], []), (10, [], [])] [o_ (.fieldAddr 0 (.loc 3)), o_ (.load1 (.reg 0)), o_ (.fieldAddr 1 (.loc 3)), o_ (.load1 (.reg 2)), o_ (.call false false 40 [(.reg 3)]), o_ (.fieldAddr 1 (.loc 2)), o_ (.load1 (.reg 5)), o_ (.call false false 40 [(.reg 6)]), o_ (.call false false 55 [(.reg 4), (.reg 7)]), o_ (.call false false 42 [(.reg 1), (.reg 8)]), o_ (.store 2 (.loc 4) (.reg 9))])
 .ret)))⟩
theorem c26 : compFunc Tryd.prog opts a26 Tryd.f26 = some t26 := by kernel_rfl
def a27 : Ann := { slots := [0, 1, 2, 3, 4], lb := [4, 3, 2], mu := [], trunc := [], draws := [] }
def t27 : TFunc := ⟨2, 5, [.cell 4 2 true],
 (.seq (.region [o_ (.boxL 2 (.loc 0)), o_ (.boxL 3 (.loc 1)), o_ (.allocL 4 [(.bool false), (.sl .nil [])])])
 (.seq (.region [o_ (.loadN 2 (.loc 2)), o_ (.fieldAddr 0 (.loc 3)), o_ (.load1 (.reg 1)), o_ (.un .not (.reg 2)), o_ (.fieldAddr 1 (.loc 3)), o_ (.load1 (.reg 4)), o_ (.build [(.bool false), (.sl .nil [])] [(0, 1, (.reg 3)), (1, 1, (.reg 5))]), o_ (.call false false 26 [(.reg 0), (.reg 6)]), o_ (.store 2 (.loc 4) (.reg 7))])
 .ret))⟩
theorem c27 : compFunc Tryd.prog opts a27 Tryd.f27 = some t27 := by kernel_rfl
def a28 : Ann := { slots := [0, 1, 2, 3, 4, 5, 6, 7, 8, 9, 10, 20, 21, 22, 23, 28, 29, 30, 31], lb := [4, 3, 2], mu := [], trunc := [], draws := [] }
def t28L0 : TCode := (.seq (.region [⟨.bin .lss (.loc 17) (.loc 16), (some 18), none⟩])
      (.seq (.cond (.loc 18)
       .skip
       (.exit 2))
      (.seq (.block 3
       (.seq (.region [o_ (.mov (.loc 17)), o_ (.indexAddrS 1 (.loc 15) (.loc 17)), o_ (.load1 (.reg 1)), ⟨.mov (.reg 0), (some 9), none⟩, ⟨.mov (.reg 2), (some 10), none⟩])
       (.seq (.region [o_ (.mov (.loc 8)), o_ (.mov (.loc 7)), o_ (.conv (.toInt .u32) (.reg 1)), o_ (.mov (.loc 10)), o_ (.conv (.toInt .u32) (.reg 3)), o_ (.bin .mul (.reg 2) (.reg 4)), o_ (.mov (.loc 5)), o_ (.mov (.loc 6)), o_ (.mov (.loc 9)), o_ (.bin .add (.reg 7) (.reg 8)), o_ (.indexAddrS 1 (.reg 6) (.reg 9)), o_ (.load1 (.reg 10)), o_ (.conv (.toInt .u32) (.reg 11)), o_ (.bin .add (.reg 5) (.reg 12)), o_ (.bin .add (.reg 0) (.reg 13)), ⟨.mov (.reg 14), (some 8), none⟩])
       (.seq (.region [o_ (.mov (.loc 5)), o_ (.mov (.loc 6)), o_ (.mov (.loc 9)), o_ (.bin .add (.reg 1) (.reg 2)), o_ (.mov (.loc 8)), o_ (.conv (.toInt .u16) (.reg 4)), o_ (.indexAddrS 1 (.reg 0) (.reg 3)), o_ (.store 1 (.reg 6) (.reg 5))])
       (.region [o_ (.mov (.loc 8)), o_ (.bin .shr (.reg 0) (.cst (.int .u64 16))), ⟨.mov (.reg 1), (some 8), none⟩])))))
      (.region [o_ (.bin .add (.loc 17) (.cst (.int .i64 1))), ⟨.mov (.reg 0), (some 17), none⟩]))))
def t28L1 : TCode := (.seq (.region [⟨.bin .lss (.loc 13) (.loc 12), (some 14), none⟩])
   (.seq (.cond (.loc 14)
    .skip
    (.exit 0))
   (.seq (.block 1
    (.seq (.region [o_ (.mov (.loc 13)), o_ (.indexAddrS 1 (.loc 11) (.loc 13)), o_ (.load1 (.reg 1)), ⟨.mov (.reg 0), (some 6), none⟩, ⟨.mov (.reg 2), (some 7), none⟩])
    (.seq (.region [⟨.mov (.cst (.int .u32 0)), (some 8), none⟩])
    (.seq (.seq (.region [o_ (.fieldAddr 1 (.loc 3)), ⟨.load1 (.reg 0), (some 15), none⟩, ⟨.len .sl (.reg 1), (some 16), none⟩, ⟨.mov (.cst (.int .i64 0)), (some 17), none⟩])
    (.block 2
     (.loop t28L0)))
    (.region [o_ (.mov (.loc 5)), o_ (.mov (.loc 6)), o_ (.fieldAddr 1 (.loc 3)), o_ (.load1 (.reg 2)), o_ (.len .sl (.reg 3)), o_ (.bin .add (.reg 1) (.reg 4)), o_ (.mov (.loc 8)), o_ (.conv (.toInt .u16) (.reg 6)), o_ (.indexAddrS 1 (.reg 0) (.reg 5)), o_ (.store 1 (.reg 8) (.reg 7))])))))
   (.region [o_ (.bin .add (.loc 13) (.cst (.int .i64 1))), ⟨.mov (.reg 0), (some 13), none⟩]))))
def t28 : TFunc := ⟨2, 19, [.cell 4 2 true],
 (.seq (.region [o_ (.boxL 2 (.loc 0)), o_ (.boxL 3 (.loc 1)), o_ (.allocL 4 [(.bool false), (.sl .nil [])])])
 (.seq (.region [o_ (.fieldAddr 1 (.loc 2)), o_ (.load1 (.reg 0)), o_ (.len .sl (.reg 1)), o_ (.fieldAddr 1 (.loc 3)), o_ (.load1 (.reg 3)), o_ (.len .sl (.reg 4)), o_ (.bin .add (.reg 2) (.reg 5)), o_ (.mkSlice [(.int .u16 0)] 2 (.reg 6) (.reg 6)), ⟨.mov (.reg 7), (some 5), none⟩])
 (.seq (.seq (.region [o_ (.fieldAddr 1 (.loc 2)), ⟨.load1 (.reg 0), (some 11), none⟩, ⟨.len .sl (.reg 1), (some 12), none⟩, ⟨.mov (.cst (.int .i64 0)), (some 13), none⟩])
 (.block 0
  (.loop t28L1)))
 (.seq (.region [o_ (.fieldAddr 0 (.loc 2)), o_ (.load1 (.reg 0)), o_ (.fieldAddr 0 (.loc 3)), o_ (.load1 (.reg 2)), o_ (.eqB true .bool (.reg 1) (.reg 3)), o_ (.mov (.loc 5)), o_ (.call false false 42 [(.reg 4), (.reg 5)]), o_ (.store 2 (.loc 4) (.reg 6))])
 .ret))))⟩
theorem c28 : compFunc Tryd.prog opts a28 Tryd.f28 = some t28 := by kernel_rfl
def a29 : Ann := { slots := [0, 1, 2, 3, 4, 5, 6, 11, 23, 26], lb := [6, 5, 3, 2], mu := [], trunc := [], draws := [(1, ⟨[0, 1, 0, 7, 0, 0, 63, 127], [0, 2, 4, 5], [(1, [2], []), (3, [], []), (6, [], []), (7, [], [])]⟩)] }
def t29 : TFunc := ⟨2, 10, [.loc 4],
 (.seq (.region [o_ (.boxL 2 (.loc 0)), o_ (.boxL 3 (.loc 1)), ⟨.mov (.cst (.int .i64 0)), (some 4), none⟩])
 (.seq (.draw [0, 2, 4, 5] [(1, [2], []), (3, [], []), (6, [], []), (7, [], [])] [o_ (.loadN 2 (.loc 2)), o_ (.call true false 18 [(.reg 0)]), o_ (.loadN 2 (.loc 3)), o_ (.call true false 18 [(.reg 2)]), ⟨.allocH 26 [(.bool false), (.sl .nil [])], (some 5), none⟩, ⟨.allocH 26 [(.bool false), (.sl .nil [])], (some 6), none⟩, o_ (.store 2 (.reg 4) (.reg 1)), o_ (.store 2 (.reg 5) (.reg 3))])
 (.seq (.block 0
  (.seq (.region [o_ (.fieldAddr 0 (.loc 5)), o_ (.load1 (.reg 0)), o_ (.mov (.reg 1)), ⟨.fieldAddr 0 (.loc 6), none, (some (2, true))⟩, ⟨.load1 (.reg 3), none, (some (2, true))⟩, o_ (.pick (.reg 2) (.reg 4) (.cst (.bool false))), ⟨.mov (.reg 5), (some 7), none⟩])
  (.cond (.loc 7)
   (.seq (.region [o_ (.fieldAddr 1 (.loc 6)), o_ (.load1 (.reg 0)), o_ (.fieldAddr 1 (.loc 5)), o_ (.load1 (.reg 2)), o_ (.call true false 54 [(.reg 1), (.reg 3)]), ⟨.mov (.reg 4), (some 4), none⟩])
   .ret)
   (.seq (.region [o_ (.fieldAddr 0 (.loc 5)), o_ (.load1 (.reg 0)), ⟨.mov (.reg 1), (some 8), none⟩])
   (.cond (.loc 8)
    (.seq (.region [⟨.mov (.cst (.int .i64 (-1))), (some 4), none⟩])
    .ret)
    (.seq (.region [o_ (.fieldAddr 0 (.loc 6)), o_ (.load1 (.reg 0)), ⟨.mov (.reg 1), (some 9), none⟩])
    (.cond (.loc 9)
     (.seq (.region [⟨.mov (.cst (.int .i64 1)), (some 4), none⟩])
     .ret)
     .skip)))))))
 (.seq (.region [o_ (.fieldAddr 1 (.loc 5)), o_ (.load1 (.reg 0)), o_ (.fieldAddr 1 (.loc 6)), o_ (.load1 (.reg 2)), o_ (.call true false 54 [(.reg 1), (.reg 3)]), ⟨.mov (.reg 4), (some 4), none⟩])
 .ret))))⟩
theorem c29 : compFunc Tryd.prog opts a29 Tryd.f29 = some t29 := by kernel_rfl
def a30 : Ann := { slots := [0, 1, 2, 3, 4, 11, 18, 20], lb := [3, 2], mu := [], trunc := [], draws := [] }
def t30 : TFunc := ⟨2, 8, [.loc 4],
 (.seq (.region [o_ (.boxL 2 (.loc 0)), o_ (.boxL 3 (.loc 1)), ⟨.mov (.cst (.int .i64 0)), (some 4), none⟩])
 (.seq (.seq (.region [o_ (.fieldAddr 0 (.loc 2)), o_ (.load1 (.reg 0)), o_ (.mov (.reg 1)), ⟨.fieldAddr 0 (.loc 3), none, (some (2, true))⟩, ⟨.load1 (.reg 3), none, (some (2, true))⟩, ⟨.un .not (.reg 4), none, (some (2, true))⟩, ⟨.pick (.reg 2) (.reg 5) (.cst (.bool false)), (some 5), none⟩])
 (.cond (.loc 5)
  (.seq (.region [⟨.mov (.cst (.int .i64 (-1))), (some 4), none⟩])
  .ret)
  .skip))
 (.seq (.seq (.region [o_ (.fieldAddr 0 (.loc 2)), o_ (.load1 (.reg 0)), o_ (.un .not (.reg 1)), o_ (.mov (.reg 2)), ⟨.fieldAddr 0 (.loc 3), none, (some (3, true))⟩, ⟨.load1 (.reg 4), none, (some (3, true))⟩, ⟨.pick (.reg 3) (.reg 5) (.cst (.bool false)), (some 6), none⟩])
 (.cond (.loc 6)
  (.seq (.region [⟨.mov (.cst (.int .i64 1)), (some 4), none⟩])
  .ret)
  .skip))
 (.seq (.seq (.region [o_ (.fieldAddr 0 (.loc 2)), ⟨.load1 (.reg 0), (some 7), none⟩])
 (.cond (.loc 7)
  (.seq (.region [o_ (.fieldAddr 1 (.loc 3)), o_ (.load1 (.reg 0)), o_ (.fieldAddr 1 (.loc 2)), o_ (.load1 (.reg 2)), o_ (.call true false 56 [(.reg 1), (.reg 3)]), ⟨.mov (.reg 4), (some 4), none⟩])
  .ret)
  .skip))
 (.seq (.region [o_ (.fieldAddr 1 (.loc 2)), o_ (.load1 (.reg 0)), o_ (.fieldAddr 1 (.loc 3)), o_ (.load1 (.reg 2)), o_ (.call true false 56 [(.reg 1), (.reg 3)]), ⟨.mov (.reg 4), (some 4), none⟩])
 .ret)))))⟩
theorem c30 : compFunc Tryd.prog opts a30 Tryd.f30 = some t30 := by kernel_rfl
def a31 : Ann := { slots := [0, 1, 2, 3, 4, 9, 23], lb := [4, 3, 2], mu := [], trunc := [], draws := [(2, ⟨[0, 1, 0, 4, 0, 16, 60, 127, 255], [0, 1, 2, 3, 4, 5], [(6, [1], []), (7, [], []), (8, [], [])]⟩), (4, ⟨[0, 1, 0, 4, 0, 16, 60, 127, 255], [0, 1, 2, 3, 4, 5], [(6, [1], []), (7, [], []), (8, [], [])]⟩), (5, ⟨[0, 1, 0, 4, 0, 16, 60, 127, 255], [0, 1, 2, 3, 4, 5], [(6, [1], []), (7, [], []), (8, [], [])]⟩)] }
def t31 : TFunc := ⟨2, 7, [.cell 4 2 true],
 (.seq (.region [o_ (.boxL 2 (.loc 0)), o_ (.boxL 3 (.loc 1)), o_ (.allocL 4 [(.bool false), (.sl .nil [])])])
 (.seq (.seq (.region [o_ (.fieldAddr 0 (.loc 2)), o_ (.load1 (.reg 0)), o_ (.fieldAddr 0 (.loc 3)), o_ (.load1 (.reg 2)), ⟨.eqB false .bool (.reg 1) (.reg 3), (some 5), none⟩])
 (.cond (.loc 5)
  (.seq (.draw [0, 1, 2, 3, 4, 5] [(6, [1], []), (7, [], []), (8, [], [])] [o_ (.fieldAddr 0 (.loc 2)), o_ (.load1 (.reg 0)), o_ (.fieldAddr 1 (.loc 2)), o_ (.load1 (.reg 2)), o_ (.fieldAddr 1 (.loc 3)), o_ (.load1 (.reg 4)), o_ (.call true false 57 [(.reg 3), (.reg 5)]), o_ (.call true false 43 [(.reg 1), (.reg 6)]), o_ (.store 2 (.loc 4) (.reg 7))])
  .ret)
  .skip))
 (.seq (.seq (.region [o_ (.fieldAddr 1 (.loc 2)), o_ (.load1 (.reg 0)), o_ (.fieldAddr 1 (.loc 3)), o_ (.load1 (.reg 2)), o_ (.call true false 56 [(.reg 1), (.reg 3)]), ⟨.bin .geq (.reg 4) (.cst (.int .i64 0)), (some 6), none⟩])
 (.cond (.loc 6)
  (.seq (.draw [0, 1, 2, 3, 4, 5] [(6, [1], []), (7, [], []), (8, [], [])] [o_ (.fieldAddr 0 (.loc 2)), o_ (.load1 (.reg 0)), o_ (.fieldAddr 1 (.loc 2)), o_ (.load1 (.reg 2)), o_ (.fieldAddr 1 (.loc 3)), o_ (.load1 (.reg 4)), o_ (.call true false 58 [(.reg 3), (.reg 5)]), o_ (.call true false 43 [(.reg 1), (.reg 6)]), o_ (.store 2 (.loc 4) (.reg 7))])
  .ret)
  .skip))
 (.seq (.draw [0, 1, 2, 3, 4, 5] [(6, [1], []), (7, [], []), (8, [], [])] [o_ (.fieldAddr 0 (.loc 3)), o_ (.load1 (.reg 0)), o_ (.fieldAddr 1 (.loc 3)), o_ (.load1 (.reg 2)), o_ (.fieldAddr 1 (.loc 2)), o_ (.load1 (.reg 4)), o_ (.call true false 58 [(.reg 3), (.reg 5)]), o_ (.call true false 43 [(.reg 1), (.reg 6)]), o_ (.store 2 (.loc 4) (.reg 7))])
 .ret))))⟩
theorem c31 : compFunc Tryd.prog opts a31 Tryd.f31 = some t31 := by kernel_rfl
def a32 : Ann := { slots := [0, 1, 2, 3, 4], lb := [4, 3, 2], mu := [], trunc := [], draws := [(1, ⟨[0, 0, 2, 7, 15], [0, 1], [(2, [0], []), (3, [], []), (4, [], [])]⟩)] }
def t32 : TFunc := ⟨2, 5, [.cell 4 2 true],
 (.seq (.region [o_ (.boxL 2 (.loc 0)), o_ (.boxL 3 (.loc 1)), o_ (.allocL 4 [(.bool false), (.sl .nil [])])])
 (.seq (.draw [0, 1] [(2, [0], []), (3, [], []), (4, [], [])] [o_ (.loadN 2 (.loc 2)), o_ (.loadN 2 (.loc 3)), o_ (.call true false 59 [(.reg 1)]), o_ (.call true false 31 [(.reg 0), (.reg 2)]), o_ (.store 2 (.loc 4) (.reg 3))])
 .ret))⟩
theorem c32 : compFunc Tryd.prog opts a32 Tryd.f32 = some t32 := by kernel_rfl
def a33 : Ann := { slots := [0, 1, 2, 3, 4, 5, 6, 12], lb := [4, 3, 2], mu := [], trunc := [], draws := [(6, ⟨[0, 0, 2, 0, 8, 0, 56, 120, 254, 511, 1023], [0, 1, 2, 3, 4, 5, 6, 7], [(8, [], []), (9, [], [10])]⟩)] }
def t33L0 : TCode := (.seq (.seq (.region [o_ (.mov (.loc 6)), ⟨.bin .geq (.reg 0) (.cst (.int .i64 0)), (some 7), none⟩])
   (.cond (.loc 7)
    .skip
    (.exit 0)))
   (.seq (.block 1
    (.seq (.region [o_ (.mov (.loc 5)), o_ (.call true false 60 [(.reg 0), (.cst (.int .i64 10)), (.cst (.int .i64 0))]), ⟨.mov (.reg 1), (some 5), none⟩])
    (.draw [0, 1, 2, 3, 4, 5, 6, 7] [(8, [], []), (9, [], [10])] [o_ (.mov (.loc 5)), o_ (.fieldAddr 1 (.loc 2)), o_ (.load1 (.reg 1)), o_ (.fieldAddr 1 (.loc 3)), o_ (.load1 (.reg 3)), o_ (.mov (.loc 6)), o_ (.indexAddrS 1 (.reg 4) (.reg 5)), o_ (.load1 (.reg 6)), o_ (.call true false 60 [(.reg 2), (.reg 7), (.cst (.int .i64 0))]), o_ (.call true false 57 [(.reg 0), (.reg 8)]), ⟨.mov (.reg 9), (some 5), none⟩])))
   (.region [o_ (.mov (.loc 6)), o_ (.bin .sub (.reg 0) (.cst (.int .i64 1))), ⟨.mov (.reg 1), (some 6), none⟩])))
def t33 : TFunc := ⟨2, 8, [.cell 4 2 true],
 (.seq (.region [o_ (.boxL 2 (.loc 0)), o_ (.boxL 3 (.loc 1)), o_ (.allocL 4 [(.bool false), (.sl .nil [])])])
 (.seq (.region [⟨.mov (.cst (.sl .nil [])), (some 5), none⟩])
 (.seq (.seq (.region [o_ (.fieldAddr 1 (.loc 3)), o_ (.load1 (.reg 0)), o_ (.len .sl (.reg 1)), o_ (.bin .sub (.reg 2) (.cst (.int .i64 1))), ⟨.mov (.reg 3), (some 6), none⟩])
 (.block 0
  (.loop t33L0)))
 (.seq (.region [o_ (.fieldAddr 0 (.loc 2)), o_ (.load1 (.reg 0)), o_ (.fieldAddr 0 (.loc 3)), o_ (.load1 (.reg 2)), o_ (.eqB true .bool (.reg 1) (.reg 3)), o_ (.mov (.loc 5)), o_ (.call true false 43 [(.reg 4), (.reg 5)]), o_ (.store 2 (.loc 4) (.reg 6))])
 .ret))))⟩
theorem c33 : compFunc Tryd.prog opts a33 Tryd.f33 = some t33 := by kernel_rfl
def a34 : Ann := { slots := [0, 1, 2, 3, 4, 5, 6, 7, 8, 9, 10, 11, 24, 30, 37], lb := [5, 4, 3, 2], mu := [(11, 2)], trunc := [], draws := [(1, ⟨[0, 1, 3, 0, 8, 31, 63, 127], [0, 1, 3, 4], [(2, [4], []), (5, [], [6, 7])]⟩), (5, ⟨[0, 0, 1, 7, 15], [0, 1], [(2, [1], []), (3, [], [4])]⟩), (12, ⟨[0, 1, 0, 4, 15, 0, 63, 0, 128, 0, 1023, 2047, 4095, 8191], [0, 1, 2, 3, 4, 5, 7, 8, 9], [(6, [8], []), (10, [], []), (11, [], []), (12, [], [13])]⟩)] }
def t34 : TFunc := ⟨2, 15, [.cell 4 2 true, .cell 5 2 true, .loc 6],
 (.seq (.region [o_ (.boxL 2 (.loc 0)), o_ (.boxL 3 (.loc 1)), o_ (.allocL 4 [(.bool false), (.sl .nil [])]), o_ (.allocL 5 [(.bool false), (.sl .nil [])]), ⟨.mov (.cst (.int .i64 0)), (some 6), none⟩])
 (.seq (.draw [0, 1, 3, 4] [(2, [4], []), (5, [], [6, 7])] [o_ (.fieldAddr 1 (.loc 2)), o_ (.load1 (.reg 0)), o_ (.call false false 40 [(.reg 1)]), o_ (.fieldAddr 1 (.loc 3)), o_ (.load1 (.reg 3)), o_ (.call false false 40 [(.reg 4)]), ⟨.mov (.reg 2), (some 7), none⟩, ⟨.mov (.reg 5), (some 8), none⟩])
 (.seq (.region [⟨.mov (.cst (.sl .nil [])), (some 9), none⟩, ⟨.mov (.cst (.sl .nil [])), (some 10), none⟩])
 (.seq (.block 0
  (.seq (.region [o_ (.mov (.loc 8)), o_ (.len .sl (.reg 0)), o_ (.bin .eql (.reg 1) (.cst (.int .i64 0))), ⟨.mov (.reg 2), (some 12), none⟩])
  (.cond (.loc 12)
   (.seq (.draw [0, 1] [(2, [1], []), (3, [], [4])] [o_ (.loadN 2 (.loc 4)), o_ (.loadN 2 (.loc 5)), o_ (.store 2 (.loc 4) (.reg 0)), o_ (.store 2 (.loc 5) (.reg 1)), ⟨.mov (.cst (.int .i64 15)), (some 6), none⟩])
   .ret)
   (.seq (.region [o_ (.mov (.loc 7)), o_ (.mov (.loc 8)), o_ (.call true false 54 [(.reg 0), (.reg 1)]), o_ (.bin .lss (.reg 2) (.cst (.int .i64 0))), ⟨.mov (.reg 3), (some 13), none⟩])
   (.cond (.loc 13)
    (.region [o_ (.mov (.loc 7)), o_ (.call false false 50 [(.reg 0)]), ⟨.mov (.reg 1), (some 10), none⟩])
    (.seq (.region [o_ (.mov (.loc 8)), o_ (.len .sl (.reg 0)), o_ (.bin .eql (.reg 1) (.cst (.int .i64 1))), ⟨.mov (.reg 2), (some 14), none⟩])
    (.cond (.loc 14)
     (.seq (.region [⟨.mov (.cst (.int .u32 0)), (some 11), none⟩])
     (.seq (.region [o_ (.mov (.loc 7)), o_ (.mov (.loc 8)), o_ (.indexAddrS 1 (.reg 1) (.cst (.int .i64 0))), o_ (.load1 (.reg 2)), o_ (.conv (.toInt .u32) (.reg 3)), o_ (.call false false 45 [(.reg 0), (.reg 4)]), o_ (.mov (.reg 5)), o_ (.extract 0 (.reg 6)), o_ (.extract 1 (.reg 6)), ⟨.mov (.reg 7), (some 9), none⟩, ⟨.mov (.reg 8), (some 11), none⟩])
     (.region [o_ (.mov (.loc 11)), o_ (.conv (.toInt .u16) (.reg 0)), o_ (.lit true [(.int .u16 0)] 1 [(0, (.reg 1))]), ⟨.mov (.reg 2), (some 10), none⟩])))
     (.region [o_ (.mov (.loc 7)), o_ (.mov (.loc 8)), o_ (.call false false 61 [(.reg 0), (.reg 1)]), o_ (.mov (.reg 2)), o_ (.extract 0 (.reg 3)), o_ (.extract 1 (.reg 3)), ⟨.mov (.reg 4), (some 9), none⟩, ⟨.mov (.reg 5), (some 10), none⟩]))))))))
 (.seq (.draw [0, 1, 2, 3, 4, 5, 7, 8, 9] [(6, [8], []), (10, [], []), (11, [], []), (12, [], [13])] [o_ (.fieldAddr 0 (.loc 2)), o_ (.load1 (.reg 0)), o_ (.fieldAddr 0 (.loc 3)), o_ (.load1 (.reg 2)), o_ (.eqB true .bool (.reg 1) (.reg 3)), o_ (.mov (.loc 9)), o_ (.call false false 42 [(.reg 4), (.reg 5)]), o_ (.fieldAddr 0 (.loc 2)), o_ (.load1 (.reg 7)), o_ (.mov (.loc 10)), o_ (.call false false 42 [(.reg 8), (.reg 9)]), o_ (.store 2 (.loc 4) (.reg 6)), o_ (.store 2 (.loc 5) (.reg 10)), ⟨.mov (.cst (.int .i64 0)), (some 6), none⟩])
 .ret)))))⟩
theorem c34 : compFunc Tryd.prog opts a34 Tryd.f34 = some t34 := by kernel_rfl
def a35 : Ann := { slots := [0, 1, 2, 3, 4, 5, 6, 7, 8, 9, 10, 11, 15, 23, 40], lb := [5, 4, 3, 2], mu := [], trunc := [], draws := [(7, ⟨[0, 1, 0, 4, 0, 28, 60, 124, 255, 511, 1023], [0, 2, 3, 4, 5, 6, 7], [(1, [3, 6], []), (8, [], []), (9, [], [10])]⟩), (15, ⟨[0, 1, 0, 4, 15, 0, 63, 0, 128, 0, 1023, 2047, 4095, 8191], [0, 1, 2, 3, 4, 5, 7, 8, 9], [(6, [8], []), (10, [], []), (11, [], []), (12, [], [13])]⟩)] }
def t35L0 : TCode := (.seq (.seq (.region [o_ (.mov (.loc 7)), o_ (.fieldAddr 1 (.loc 3)), o_ (.load1 (.reg 1)), o_ (.call true false 56 [(.reg 0), (.reg 2)]), ⟨.bin .geq (.reg 3) (.cst (.int .i64 0)), (some 14), none⟩])
      (.cond (.loc 14)
       .skip
       (.exit 2)))
      (.block 3
       (.seq (.region [o_ (.mov (.loc 7)), o_ (.fieldAddr 1 (.loc 3)), o_ (.load1 (.reg 1)), o_ (.call true false 58 [(.reg 0), (.reg 2)]), ⟨.mov (.reg 3), (some 7), none⟩])
       (.region [o_ (.mov (.loc 10)), o_ (.bin .add (.reg 0) (.cst (.int .i64 1))), ⟨.mov (.reg 1), (some 10), none⟩]))))
def t35L1 : TCode := (.seq (.seq (.region [o_ (.mov (.loc 9)), ⟨.bin .geq (.reg 0) (.cst (.int .i64 0)), (some 13), none⟩])
   (.cond (.loc 13)
    .skip
    (.exit 0)))
   (.seq (.block 1
    (.seq (.draw [0, 2, 3, 4, 5, 6, 7] [(1, [3, 6], []), (8, [], []), (9, [], [10])] [o_ (.mov (.loc 7)), o_ (.call true false 60 [(.reg 0), (.cst (.int .i64 10)), (.cst (.int .i64 0))]), o_ (.fieldAddr 1 (.loc 2)), o_ (.load1 (.reg 2)), o_ (.mov (.loc 9)), o_ (.indexAddrS 1 (.reg 3) (.reg 4)), o_ (.load1 (.reg 5)), o_ (.lit false [(.int .i64 0)] 1 [(0, (.reg 6))]), o_ (.call true false 57 [(.reg 1), (.reg 7)]), o_ (.call true false 62 [(.reg 8)]), ⟨.mov (.reg 9), (some 7), none⟩])
    (.seq (.region [⟨.mov (.cst (.int .i64 0)), (some 10), none⟩])
    (.seq (.block 2
     (.loop t35L0))
    (.seq (.region [⟨.mov (.cst (.sl .nil [])), (some 11), none⟩])
    (.seq (.region [o_ (.mov (.loc 11)), o_ (.mov (.loc 10)), o_ (.lit false [(.int .i64 0)] 1 [(0, (.reg 1))]), o_ (.append false 1 8 3 (.reg 0) (.reg 2)), ⟨.mov (.reg 3), (some 11), none⟩])
    (.region [o_ (.mov (.loc 11)), o_ (.mov (.loc 8)), o_ (.append false 1 8 3 (.reg 0) (.reg 1)), ⟨.mov (.reg 2), (some 8), none⟩])))))))
   (.region [o_ (.mov (.loc 9)), o_ (.bin .sub (.reg 0) (.cst (.int .i64 1))), ⟨.mov (.reg 1), (some 9), none⟩])))
def t35 : TFunc := ⟨2, 15, [.cell 4 2 true, .cell 5 2 true, .loc 6],
 (.seq (.region [o_ (.boxL 2 (.loc 0)), o_ (.boxL 3 (.loc 1)), o_ (.allocL 4 [(.bool false), (.sl .nil [])]), o_ (.allocL 5 [(.bool false), (.sl .nil [])]), ⟨.mov (.cst (.int .i64 0)), (some 6), none⟩])
 (.seq (.seq (.region [o_ (.fieldAddr 1 (.loc 3)), o_ (.load1 (.reg 0)), o_ (.len .sl (.reg 1)), ⟨.bin .eql (.reg 2) (.cst (.int .i64 0)), (some 12), none⟩])
 (.cond (.loc 12)
  (.seq (.region [o_ (.build [(.bool false), (.sl .nil [])] []), o_ (.build [(.bool false), (.sl .nil [])] []), o_ (.store 2 (.loc 4) (.reg 0)), o_ (.store 2 (.loc 5) (.reg 1)), ⟨.mov (.cst (.int .i64 15)), (some 6), none⟩])
  .ret)
  .skip))
 (.seq (.region [⟨.mov (.cst (.sl .nil [])), (some 7), none⟩, ⟨.mov (.cst (.sl .nil [])), (some 8), none⟩])
 (.seq (.seq (.region [o_ (.fieldAddr 1 (.loc 2)), o_ (.load1 (.reg 0)), o_ (.len .sl (.reg 1)), o_ (.bin .sub (.reg 2) (.cst (.int .i64 1))), ⟨.mov (.reg 3), (some 9), none⟩])
 (.block 0
  (.loop t35L1)))
 (.seq (.draw [0, 1, 2, 3, 4, 5, 7, 8, 9] [(6, [8], []), (10, [], []), (11, [], []), (12, [], [13])] [o_ (.fieldAddr 0 (.loc 2)), o_ (.load1 (.reg 0)), o_ (.fieldAddr 0 (.loc 3)), o_ (.load1 (.reg 2)), o_ (.eqB true .bool (.reg 1) (.reg 3)), o_ (.mov (.loc 8)), o_ (.call true false 43 [(.reg 4), (.reg 5)]), o_ (.fieldAddr 0 (.loc 2)), o_ (.load1 (.reg 7)), o_ (.mov (.loc 7)), o_ (.call true false 43 [(.reg 8), (.reg 9)]), o_ (.store 2 (.loc 4) (.reg 6)), o_ (.store 2 (.loc 5) (.reg 10)), ⟨.mov (.cst (.int .i64 0)), (some 6), none⟩])
 .ret)))))⟩
theorem c35 : compFunc Tryd.prog opts a35 Tryd.f35 = some t35 := by kernel_rfl
def a36 : Ann := { slots := [0, 1, 2], lb := [2, 1], mu := [], trunc := [], draws := [] }
def t36 : TFunc := ⟨1, 3, [.cell 2 2 true],
 (.seq (.region [o_ (.boxL 1 (.loc 0)), o_ (.allocL 2 [(.bool false), (.sl .nil [])])])
 (.seq (.region [o_ (.fieldAddr 1 (.loc 1)), o_ (.load1 (.reg 0)), o_ (.build [(.bool false), (.sl .nil [])] [(1, 1, (.reg 1))]), o_ (.call true false 18 [(.reg 2)]), o_ (.store 2 (.loc 2) (.reg 3))])
 .ret))⟩
theorem c36 : compFunc Tryd.prog opts a36 Tryd.f36 = some t36 := by kernel_rfl
def a37 : Ann := { slots := [0, 2, 3], lb := [3, 2], mu := [], trunc := [], draws := [] }
def t37 : TFunc := ⟨1, 3, [.cell 1 2 true],
 (.seq (.region [o_ (.allocL 1 [(.bool false), (.sl .nil [])])])
 (.seq (.region [o_ (.mov (.loc 0)), o_ (.call true false 12 [(.reg 0)]), o_ (.mov (.reg 1)), o_ (.extract 0 (.reg 2)), o_ (.extract 1 (.reg 2)), o_ (.allocL 2 [(.bool false), (.sl .nil [])]), o_ (.store 2 (.reg 5) (.reg 3)), o_ (.mov (.reg 4))])
 (.seq (.region [o_ (.loadN 2 (.loc 2)), o_ (.store 2 (.loc 1) (.reg 0))])
 .ret)))⟩
theorem c37 : compFunc Tryd.prog opts a37 Tryd.f37 = some t37 := by kernel_rfl
def a38 : Ann := { slots := [0, 1, 2, 4], lb := [2], mu := [], trunc := [], draws := [] }
def t38 : TFunc := ⟨2, 4, [.loc 3],
 (.seq (.region [o_ (.boxL 2 (.loc 0)), ⟨.mov (.cst (.bool false)), (some 3), none⟩])
 (.seq (.region [o_ (.loadN 2 (.loc 2)), o_ (.call true false 16 [(.reg 0)]), o_ (.mov (.loc 1)), o_ (.bin .eql (.reg 1) (.reg 2)), ⟨.mov (.reg 3), (some 3), none⟩])
 .ret))⟩
theorem c38 : compFunc Tryd.prog opts a38 Tryd.f38 = some t38 := by kernel_rfl
def a39 : Ann := { slots := [0, 1, 4, 5, 6, 12, 21, 31], lb := [], mu := [], trunc := [], draws := [] }
def t39 : TFunc := ⟨2, 8, [.loc 2],
 (.seq (.region [⟨.mov (.cst (.str [])), (some 2), none⟩])
 (.seq (.seq (.region [o_ (.mov (.loc 0)), o_ (.bin .eql (.reg 0) (.cst (.str []))), o_ (.mov (.reg 1)), ⟨.mov (.loc 1), none, (some (2, false))⟩, ⟨.bin .eql (.reg 3) (.cst (.str [])), none, (some (2, false))⟩, ⟨.pick (.reg 2) (.cst (.bool true)) (.reg 4), (some 5), none⟩])
 (.cond (.loc 5)
  (.seq (.region [o_ (.mov (.loc 0)), ⟨.mov (.reg 0), (some 2), none⟩])
  .ret)
  .skip))
 (.seq (.seq (.region [o_ (.mov (.loc 1)), o_ (.len .str (.reg 0)), o_ (.bin .eql (.reg 1) (.cst (.int .i64 1))), o_ (.mov (.reg 2)), ⟨.mov (.loc 1), none, (some (3, true))⟩, ⟨.indexS (.reg 4) (.cst (.int .i64 0)), none, (some (3, true))⟩, ⟨.bin .lss (.reg 5) (.cst (.int .u8 128)), none, (some (3, true))⟩, ⟨.pick (.reg 3) (.reg 6) (.cst (.bool false)), (some 6), none⟩])
 (.cond (.loc 6)
  (.seq (.region [o_ (.mov (.loc 0)), o_ (.mov (.loc 1)), o_ (.indexS (.reg 1) (.cst (.int .i64 0))), o_ (.call true false 63 [(.reg 0), (.reg 2)]), ⟨.mov (.reg 3), (some 2), none⟩])
  .ret)
  .skip))
 (.seq (.seq (.region [o_ (.mov (.loc 1)), o_ (.call true false 64 [(.reg 0)]), o_ (.mov (.reg 1)), o_ (.extract 0 (.reg 2)), o_ (.extract 1 (.reg 2)), ⟨.allocH 96 [(.bool false), (.bool false), (.bool false), (.bool false), (.bool false), (.bool false), (.bool false), (.bool false), (.bool false), (.bool false), (.bool false), (.bool false), (.bool false), (.bool false), (.bool false), (.bool false), (.bool false), (.bool false), (.bool false), (.bool false), (.bool false), (.bool false), (.bool false), (.bool false), (.bool false), (.bool false), (.bool false), (.bool false), (.bool false), (.bool false), (.bool false), (.bool false), (.bool false), (.bool false), (.bool false), (.bool false), (.bool false), (.bool false), (.bool false), (.bool false), (.bool false), (.bool false), (.bool false), (.bool false), (.bool false), (.bool false), (.bool false), (.bool false), (.bool false), (.bool false), (.bool false), (.bool false), (.bool false), (.bool false), (.bool false), (.bool false), (.bool false), (.bool false), (.bool false), (.bool false), (.bool false), (.bool false), (.bool false), (.bool false), (.bool false), (.bool false), (.bool false), (.bool false), (.bool false), (.bool false), (.bool false), (.bool false), (.bool false), (.bool false), (.bool false), (.bool false), (.bool false), (.bool false), (.bool false), (.bool false), (.bool false), (.bool false), (.bool false), (.bool false), (.bool false), (.bool false), (.bool false), (.bool false), (.bool false), (.bool false), (.bool false), (.bool false), (.bool false), (.bool false), (.bool false), (.bool false), (.bool false), (.bool false), (.bool false), (.bool false), (.bool false), (.bool false), (.bool false), (.bool false), (.bool false), (.bool false), (.bool false), (.bool false), (.bool false), (.bool false), (.bool false), (.bool false), (.bool false), (.bool false), (.bool false), (.bool false), (.bool false), (.bool false), (.bool false), (.bool false), (.bool false), (.bool false), (.bool false), (.bool false), (.bool false), (.bool false), (.bool false), (.bool false), (.bool false), (.bool false), (.bool false), (.bool false), (.bool false), (.bool false), (.bool false), (.bool false), (.bool false), (.bool false), (.bool false), (.bool false), (.bool false), (.bool false), (.bool false), (.bool false), (.bool false), (.bool false), (.bool false), (.bool false), (.bool false), (.bool false), (.bool false), (.bool false), (.bool false), (.bool false), (.bool false), (.bool false), (.bool false), (.bool false), (.bool false), (.bool false), (.bool false), (.bool false), (.bool false), (.bool false), (.bool false), (.bool false), (.bool false), (.bool false), (.bool false), (.bool false), (.bool false), (.bool false), (.bool false), (.bool false), (.bool false), (.bool false), (.bool false), (.bool false), (.bool false), (.bool false), (.bool false), (.bool false), (.bool false), (.bool false), (.bool false), (.bool false), (.bool false), (.bool false), (.bool false), (.bool false), (.bool false), (.bool false), (.bool false), (.bool false), (.bool false), (.bool false), (.bool false), (.bool false), (.bool false), (.bool false), (.bool false), (.bool false), (.bool false), (.bool false), (.bool false), (.bool false), (.bool false), (.bool false), (.bool false), (.bool false), (.bool false), (.bool false), (.bool false), (.bool false), (.bool false), (.bool false), (.bool false), (.bool false), (.bool false), (.bool false), (.bool false), (.bool false), (.bool false), (.bool false), (.bool false), (.bool false), (.bool false), (.bool false), (.bool false), (.bool false), (.bool false), (.bool false), (.bool false), (.bool false), (.bool false), (.bool false), (.bool false), (.bool false), (.bool false), (.bool false), (.bool false), (.bool false), (.bool false), (.bool false), (.bool false), (.bool false), (.bool false), (.bool false), (.bool false), (.bool false), (.bool false), (.bool false), (.bool false), (.bool false), (.bool false), (.bool false)], (some 3), none⟩, o_ (.store 256 (.reg 5) (.reg 3)), ⟨.mov (.reg 4), (some 4), none⟩])
 (.seq (.region [⟨.mov (.loc 4), (some 7), none⟩])
 (.cond (.loc 7)
  (.seq (.region [o_ (.mov (.loc 0)), o_ (.call false false 65 [(.reg 0), (.loc 3)]), ⟨.mov (.reg 1), (some 2), none⟩])
  .ret)
  .skip)))
 (.seq (.region [o_ (.mov (.loc 0)), o_ (.mov (.loc 1)), o_ (.call true false 66 [(.reg 0), (.reg 1)]), ⟨.mov (.reg 2), (some 2), none⟩])
 .ret)))))⟩
theorem c39 : compFunc Tryd.prog opts a39 Tryd.f39 = some t39 := by kernel_rfl
def a40 : Ann := { slots := [0, 2, 14], lb := [], mu := [], trunc := [], draws := [] }
def t40L0 : TCode := (.seq (.seq (.region [o_ (.mov (.loc 0)), o_ (.len .sl (.reg 0)), o_ (.bin .gtr (.reg 1) (.cst (.int .i64 0))), o_ (.mov (.reg 2)), ⟨.mov (.loc 0), none, (some (3, true))⟩, ⟨.mov (.loc 0), none, (some (3, true))⟩, ⟨.len .sl (.reg 5), none, (some (3, true))⟩, ⟨.bin .sub (.reg 6) (.cst (.int .i64 1)), none, (some (3, true))⟩, ⟨.indexAddrS 1 (.reg 4) (.reg 7), none, (some (3, true))⟩, ⟨.load1 (.reg 8), none, (some (3, true))⟩, ⟨.bin .eql (.reg 9) (.cst (.int .u16 0)), none, (some (3, true))⟩, ⟨.pick (.reg 3) (.reg 10) (.cst (.bool false)), (some 2), none⟩])
   (.cond (.loc 2)
    .skip
    (.exit 0)))
   (.block 1
    (.region [o_ (.mov (.loc 0)), o_ (.mov (.loc 0)), o_ (.len .sl (.reg 1)), o_ (.bin .sub (.reg 2) (.cst (.int .i64 1))), o_ (.slice (.sl 1) (.reg 0) none (some (.reg 3)) none), ⟨.mov (.reg 4), (some 0), none⟩])))
def t40 : TFunc := ⟨1, 3, [.loc 1],
 (.seq (.region [⟨.mov (.cst (.sl .nil [])), (some 1), none⟩])
 (.seq (.block 0
  (.loop t40L0))
 (.seq (.region [o_ (.mov (.loc 0)), ⟨.mov (.reg 0), (some 1), none⟩])
 .ret)))⟩
theorem c40 : compFunc Tryd.prog opts a40 Tryd.f40 = some t40 := by kernel_rfl
def a41 : Ann := { slots := [0, 1, 2, 6, 7, 9, 10, 11, 12, 13], lb := [], mu := [(6, 4), (9, 4)], trunc := [], draws := [] }
def t41L0 : TCode := (.seq (.region [⟨.bin .lss (.loc 8) (.loc 7), (some 9), none⟩])
   (.seq (.cond (.loc 9)
    .skip
    (.exit 0))
   (.seq (.block 1
    (.seq (.region [o_ (.indexAddrS 1 (.loc 6) (.loc 8)), o_ (.load1 (.reg 0)), ⟨.mov (.reg 1), (some 5), none⟩])
    (.seq (.region [o_ (.mov (.loc 2)), o_ (.mov (.loc 5)), o_ (.conv (.toInt .u32) (.reg 1)), o_ (.mov (.loc 1)), o_ (.bin .mul (.reg 2) (.reg 3)), o_ (.bin .add (.reg 0) (.reg 4)), ⟨.mov (.reg 5), (some 2), none⟩])
    (.seq (.region [o_ (.mov (.loc 4)), o_ (.mov (.loc 2)), o_ (.conv (.toInt .u16) (.reg 1)), o_ (.lit false [(.int .u16 0)] 1 [(0, (.reg 2))]), o_ (.append true 1 2 55 (.reg 0) (.reg 3)), ⟨.mov (.reg 4), (some 4), none⟩])
    (.region [o_ (.mov (.loc 2)), o_ (.bin .shr (.reg 0) (.cst (.int .u64 16))), ⟨.mov (.reg 1), (some 2), none⟩])))))
   (.region [o_ (.bin .add (.loc 8) (.cst (.int .i64 1))), ⟨.mov (.reg 0), (some 8), none⟩]))))
def t41 : TFunc := ⟨3, 10, [.loc 3],
 (.seq (.region [⟨.mov (.cst (.sl .nil [])), (some 3), none⟩])
 (.seq (.region [⟨.mov (.cst (.sl .nil [])), (some 4), none⟩])
 (.seq (.seq (.region [⟨.mov (.loc 0), (some 6), none⟩, ⟨.len .sl (.reg 0), (some 7), none⟩, ⟨.mov (.cst (.int .i64 0)), (some 8), none⟩])
 (.block 0
  (.loop t41L0)))
 (.seq (.region [o_ (.mov (.loc 4)), o_ (.mov (.loc 2)), o_ (.conv (.toInt .u16) (.reg 1)), o_ (.lit false [(.int .u16 0)] 1 [(0, (.reg 2))]), o_ (.append true 1 2 55 (.reg 0) (.reg 3)), ⟨.mov (.reg 4), (some 3), none⟩])
 .ret))))⟩
theorem c41 : compFunc Tryd.prog opts a41 Tryd.f41 = some t41 := by kernel_rfl
def a42 : Ann := { slots := [0, 1, 4], lb := [4], mu := [], trunc := [], draws := [] }
def t42 : TFunc := ⟨2, 3, [.cell 2 2 true],
 (.seq (.region [o_ (.allocL 2 [(.bool false), (.sl .nil [])])])
 (.seq (.region [o_ (.mov (.loc 1)), o_ (.call false false 40 [(.reg 0)]), ⟨.mov (.reg 1), (some 1), none⟩])
 (.seq (.region [o_ (.mov (.loc 0)), o_ (.mov (.reg 0)), ⟨.mov (.loc 1), none, (some (1, true))⟩, ⟨.len .sl (.reg 2), none, (some (1, true))⟩, ⟨.bin .gtr (.reg 3) (.cst (.int .i64 0)), none, (some (1, true))⟩, o_ (.pick (.reg 1) (.reg 4) (.cst (.bool false))), o_ (.mov (.loc 1)), o_ (.build [(.bool false), (.sl .nil [])] [(0, 1, (.reg 5)), (1, 1, (.reg 6))]), o_ (.store 2 (.loc 2) (.reg 7))])
 .ret)))⟩
theorem c42 : compFunc Tryd.prog opts a42 Tryd.f42 = some t42 := by kernel_rfl
def a43 : Ann := { slots := [0, 1, 4], lb := [4], mu := [], trunc := [], draws := [] }
def t43 : TFunc := ⟨2, 3, [.cell 2 2 true],
 (.seq (.region [o_ (.allocL 2 [(.bool false), (.sl .nil [])])])
 (.seq (.region [o_ (.mov (.loc 1)), o_ (.call true false 62 [(.reg 0)]), ⟨.mov (.reg 1), (some 1), none⟩])
 (.seq (.region [o_ (.mov (.loc 0)), o_ (.mov (.reg 0)), ⟨.mov (.loc 1), none, (some (1, true))⟩, ⟨.len .sl (.reg 2), none, (some (1, true))⟩, ⟨.bin .gtr (.reg 3) (.cst (.int .i64 0)), none, (some (1, true))⟩, o_ (.pick (.reg 1) (.reg 4) (.cst (.bool false))), o_ (.mov (.loc 1)), o_ (.build [(.bool false), (.sl .nil [])] [(0, 1, (.reg 5)), (1, 1, (.reg 6))]), o_ (.store 2 (.loc 2) (.reg 7))])
 .ret)))⟩
theorem c43 : compFunc Tryd.prog opts a43 Tryd.f43 = some t43 := by kernel_rfl
def a44 : Ann := { slots := [0, 1, 2, 3, 4, 5, 6, 11], lb := [1], mu := [], trunc := [], draws := [] }
def t44L0 : TCode := (.seq (.seq (.region [o_ (.mov (.loc 4)), o_ (.len .sl (.reg 0)), ⟨.bin .gtr (.reg 1) (.cst (.int .i64 0)), (some 7), none⟩])
   (.cond (.loc 7)
    .skip
    (.exit 0)))
   (.block 1
    (.seq (.region [o_ (.mov (.loc 4)), o_ (.call true false 67 [(.reg 0)]), o_ (.mov (.reg 1)), o_ (.extract 0 (.reg 2)), o_ (.extract 1 (.reg 2)), ⟨.mov (.reg 3), (some 5), none⟩, ⟨.mov (.reg 4), (some 6), none⟩])
    (.seq (.region [o_ (.mov (.loc 3)), o_ (.mov (.loc 6)), o_ (.conv (.toInt .u16) (.reg 1)), o_ (.lit false [(.int .u16 0)] 1 [(0, (.reg 2))]), o_ (.append false 1 2 55 (.reg 0) (.reg 3)), ⟨.mov (.reg 4), (some 3), none⟩])
    (.region [o_ (.mov (.loc 5)), ⟨.mov (.reg 0), (some 4), none⟩])))))
def t44 : TFunc := ⟨1, 8, [.loc 2],
 (.seq (.region [o_ (.boxL 1 (.loc 0)), ⟨.mov (.cst (.sl .nil [])), (some 2), none⟩])
 (.seq (.region [⟨.mov (.cst (.sl .nil [])), (some 3), none⟩])
 (.seq (.region [o_ (.fieldAddr 1 (.loc 1)), o_ (.load1 (.reg 0)), ⟨.mov (.reg 1), (some 4), none⟩])
 (.seq (.block 0
  (.loop t44L0))
 (.seq (.region [o_ (.mov (.loc 3)), ⟨.mov (.reg 0), (some 2), none⟩])
 .ret)))))⟩
theorem c44 : compFunc Tryd.prog opts a44 Tryd.f44 = some t44 := by kernel_rfl
def a45 : Ann := { slots := [0, 1, 4, 5, 6, 7, 8, 16], lb := [], mu := [], trunc := [], draws := [] }
def t45L0 : TCode := (.seq (.seq (.region [o_ (.mov (.loc 6)), ⟨.bin .geq (.reg 0) (.cst (.int .i64 0)), (some 7), none⟩])
   (.cond (.loc 7)
    .skip
    (.exit 0)))
   (.seq (.block 1
    (.seq (.region [o_ (.mov (.loc 5)), o_ (.bin .shl (.reg 0) (.cst (.int .u64 16))), o_ (.mov (.loc 0)), o_ (.mov (.loc 6)), o_ (.indexAddrS 1 (.reg 2) (.reg 3)), o_ (.load1 (.reg 4)), o_ (.conv (.toInt .u32) (.reg 5)), o_ (.bin .or (.reg 1) (.reg 6)), ⟨.mov (.reg 7), (some 5), none⟩])
    (.seq (.region [o_ (.mov (.loc 4)), o_ (.mov (.loc 6)), o_ (.mov (.loc 5)), o_ (.mov (.loc 1)), o_ (.bin .quo (.reg 2) (.reg 3)), o_ (.conv (.toInt .u16) (.reg 4)), o_ (.indexAddrS 1 (.reg 0) (.reg 1)), o_ (.store 1 (.reg 6) (.reg 5))])
    (.region [o_ (.mov (.loc 5)), o_ (.mov (.loc 1)), o_ (.bin .rem (.reg 0) (.reg 1)), ⟨.mov (.reg 2), (some 5), none⟩]))))
   (.region [o_ (.mov (.loc 6)), o_ (.bin .sub (.reg 0) (.cst (.int .i64 1))), ⟨.mov (.reg 1), (some 6), none⟩])))
def t45 : TFunc := ⟨2, 8, [.loc 2, .loc 3],
 (.seq (.region [⟨.mov (.cst (.sl .nil [])), (some 2), none⟩, ⟨.mov (.cst (.int .u32 0)), (some 3), none⟩])
 (.seq (.region [o_ (.mov (.loc 0)), o_ (.len .sl (.reg 0)), o_ (.mkSlice [(.int .u16 0)] 2 (.reg 1) (.reg 1)), ⟨.mov (.reg 2), (some 4), none⟩, ⟨.mov (.cst (.int .u32 0)), (some 5), none⟩])
 (.seq (.seq (.region [o_ (.mov (.loc 0)), o_ (.len .sl (.reg 0)), o_ (.bin .sub (.reg 1) (.cst (.int .i64 1))), ⟨.mov (.reg 2), (some 6), none⟩])
 (.block 0
  (.loop t45L0)))
 (.seq (.region [o_ (.mov (.loc 4)), o_ (.call false false 40 [(.reg 0)]), o_ (.mov (.loc 5)), ⟨.mov (.reg 1), (some 2), none⟩, ⟨.mov (.reg 2), (some 3), none⟩])
 .ret))))⟩
theorem c45 : compFunc Tryd.prog opts a45 Tryd.f45 = some t45 := by kernel_rfl
def a46 : Ann := { slots := [0, 2], lb := [], mu := [], trunc := [], draws := [] }
def t46 : TFunc := ⟨1, 2, [.loc 1],
 (.seq (.region [⟨.mov (.cst (.str [])), (some 1), none⟩])
 (.seq (.region [o_ (.mov (.loc 0)), o_ (.call true false 68 [(.reg 0)]), ⟨.mov (.reg 1), (some 1), none⟩])
 .ret))⟩
theorem c46 : compFunc Tryd.prog opts a46 Tryd.f46 = some t46 := by kernel_rfl
def a47 : Ann := { slots := [0, 1, 4, 5, 6, 7, 8, 9, 10, 11, 12, 14, 18, 34, 40, 42, 43, 49, 58, 67, 76, 85, 96, 104, 113], lb := [], mu := [], trunc := [], draws := [] }
def t47L0 : TCode := (.seq (.seq (.region [o_ (.call false false 73 [(.loc 7)]), o_ (.mov (.loc 5)), ⟨.bin .lss (.reg 0) (.reg 1), (some 24), none⟩])
   (.cond (.loc 24)
    .skip
    (.exit 3)))
   (.block 4
    (.seq (.region [o_ (.mov (.loc 5)), o_ (.call false false 73 [(.loc 7)]), o_ (.bin .sub (.reg 0) (.reg 1)), o_ (.call false false 73 [(.loc 7)]), o_ (.mov (.loc 6)), o_ (.minmax false [(.reg 2), (.reg 3), (.reg 4)]), ⟨.mov (.reg 5), (some 8), none⟩])
    (.region [o_ (.prim 74 [(.loc 7)]), o_ (.mov (.loc 8)), o_ (.slice .str (.reg 0) none (some (.reg 1)) none), o_ (.call false false 72 [(.loc 7), (.reg 2)])]))))
def t47 : TFunc := ⟨2, 25, [.loc 2],
 (.seq (.region [⟨.mov (.cst (.str [])), (some 2), none⟩])
 (.seq (.seq (.region [⟨.mov (.loc 1), (some 9), none⟩])
 (.block 0
  (.seq (.region [o_ (.bin .eql (.loc 9) (.cst (.int .i64 0))), ⟨.mov (.reg 0), (some 10), none⟩])
  (.cond (.loc 10)
   (.seq (.region [⟨.mov (.cst (.str [])), (some 2), none⟩])
   .ret)
   (.seq (.region [o_ (.bin .eql (.loc 9) (.cst (.int .i64 1))), ⟨.mov (.reg 0), (some 11), none⟩])
   (.cond (.loc 11)
    (.seq (.region [o_ (.mov (.loc 0)), ⟨.mov (.reg 0), (some 2), none⟩])
    .ret)
    .skip))))))
 (.seq (.seq (.region [o_ (.mov (.loc 1)), ⟨.bin .lss (.reg 0) (.cst (.int .i64 0)), (some 12), none⟩])
 (.cond (.loc 12)
  (.region [o_ (.bad), o_ (.bad)])
  .skip))
 (.seq (.region [o_ (.mov (.loc 0)), o_ (.len .str (.reg 0)), o_ (.conv (.toInt .u64) (.reg 1)), o_ (.mov (.loc 1)), o_ (.conv (.toInt .u64) (.reg 3)), o_ (.call true false 69 [(.reg 2), (.reg 4)]), o_ (.mov (.reg 5)), o_ (.extract 0 (.reg 6)), o_ (.extract 1 (.reg 6)), ⟨.mov (.reg 7), (some 3), none⟩, ⟨.mov (.reg 8), (some 4), none⟩])
 (.seq (.seq (.region [o_ (.mov (.loc 3)), o_ (.bin .gtr (.reg 0) (.cst (.int .u64 0))), o_ (.mov (.reg 1)), ⟨.mov (.loc 4), none, (some (2, false))⟩, ⟨.bin .gtr (.reg 3) (.cst (.int .u64 9223372036854775807)), none, (some (2, false))⟩, ⟨.pick (.reg 2) (.cst (.bool true)) (.reg 4), (some 13), none⟩])
 (.cond (.loc 13)
  (.region [o_ (.bad), o_ (.bad)])
  .skip))
 (.seq (.region [o_ (.mov (.loc 4)), o_ (.conv (.toInt .i64) (.reg 0)), ⟨.mov (.reg 1), (some 5), none⟩])
 (.seq (.seq (.region [o_ (.mov (.loc 0)), o_ (.len .str (.reg 0)), ⟨.bin .eql (.reg 1) (.cst (.int .i64 0)), (some 14), none⟩])
 (.cond (.loc 14)
  (.seq (.region [⟨.mov (.cst (.str [])), (some 2), none⟩])
  .ret)
  .skip))
 (.seq (.seq (.region [o_ (.mov (.loc 0)), ⟨.indexS (.reg 0) (.cst (.int .i64 0)), (some 15), none⟩])
 (.block 1
  (.seq (.seq (.region [o_ (.bin .eql (.loc 15) (.cst (.int .u8 32))), ⟨.mov (.reg 0), (some 16), none⟩])
  (.cond (.loc 16)
   .skip
   (.seq (.region [o_ (.bin .eql (.loc 15) (.cst (.int .u8 45))), ⟨.mov (.reg 0), (some 16), none⟩])
   (.cond (.loc 16)
    .skip
    (.seq (.region [o_ (.bin .eql (.loc 15) (.cst (.int .u8 48))), ⟨.mov (.reg 0), (some 16), none⟩])
    (.cond (.loc 16)
     .skip
     (.seq (.region [o_ (.bin .eql (.loc 15) (.cst (.int .u8 61))), ⟨.mov (.reg 0), (some 16), none⟩])
     (.cond (.loc 16)
      .skip
      (.region [o_ (.bin .eql (.loc 15) (.cst (.int .u8 9))), ⟨.mov (.reg 0), (some 16), none⟩])))))))))
  (.cond (.loc 16)
   (.block 2
    (.seq (.region [o_ (.mov (.loc 5)), o_ (.bin .leq (.reg 0) (.cst (.int .i64 128))), o_ (.mov (.reg 1)), ⟨.mov (.loc 0), none, (some (2, true))⟩, ⟨.call true false 70 [(.cst (.str [32, 32, 32, 32, 32, 32, 32, 32, 32, 32, 32, 32, 32, 32, 32, 32, 32, 32, 32, 32, 32, 32, 32, 32, 32, 32, 32, 32, 32, 32, 32, 32, 32, 32, 32, 32, 32, 32, 32, 32, 32, 32, 32, 32, 32, 32, 32, 32, 32, 32, 32, 32, 32, 32, 32, 32, 32, 32, 32, 32, 32, 32, 32, 32, 32, 32, 32, 32, 32, 32, 32, 32, 32, 32, 32, 32, 32, 32, 32, 32, 32, 32, 32, 32, 32, 32, 32, 32, 32, 32, 32, 32, 32, 32, 32, 32, 32, 32, 32, 32, 32, 32, 32, 32, 32, 32, 32, 32, 32, 32, 32, 32, 32, 32, 32, 32, 32, 32, 32, 32, 32, 32, 32, 32, 32, 32, 32, 32])), (.reg 3)], none, (some (2, true))⟩, o_ (.pick (.reg 2) (.reg 4) (.cst (.bool false))), ⟨.mov (.reg 5), (some 17), none⟩])
    (.cond (.loc 17)
     (.seq (.region [o_ (.mov (.loc 5)), o_ (.slice .str (.cst (.str [32, 32, 32, 32, 32, 32, 32, 32, 32, 32, 32, 32, 32, 32, 32, 32, 32, 32, 32, 32, 32, 32, 32, 32, 32, 32, 32, 32, 32, 32, 32, 32, 32, 32, 32, 32, 32, 32, 32, 32, 32, 32, 32, 32, 32, 32, 32, 32, 32, 32, 32, 32, 32, 32, 32, 32, 32, 32, 32, 32, 32, 32, 32, 32, 32, 32, 32, 32, 32, 32, 32, 32, 32, 32, 32, 32, 32, 32, 32, 32, 32, 32, 32, 32, 32, 32, 32, 32, 32, 32, 32, 32, 32, 32, 32, 32, 32, 32, 32, 32, 32, 32, 32, 32, 32, 32, 32, 32, 32, 32, 32, 32, 32, 32, 32, 32, 32, 32, 32, 32, 32, 32, 32, 32, 32, 32, 32, 32])) none (some (.reg 0)) none), ⟨.mov (.reg 1), (some 2), none⟩])
     .ret)
     (.seq (.region [o_ (.mov (.loc 5)), o_ (.bin .leq (.reg 0) (.cst (.int .i64 128))), o_ (.mov (.reg 1)), ⟨.mov (.loc 0), none, (some (2, true))⟩, ⟨.call true false 70 [(.cst (.str [45, 45, 45, 45, 45, 45, 45, 45, 45, 45, 45, 45, 45, 45, 45, 45, 45, 45, 45, 45, 45, 45, 45, 45, 45, 45, 45, 45, 45, 45, 45, 45, 45, 45, 45, 45, 45, 45, 45, 45, 45, 45, 45, 45, 45, 45, 45, 45, 45, 45, 45, 45, 45, 45, 45, 45, 45, 45, 45, 45, 45, 45, 45, 45, 45, 45, 45, 45, 45, 45, 45, 45, 45, 45, 45, 45, 45, 45, 45, 45, 45, 45, 45, 45, 45, 45, 45, 45, 45, 45, 45, 45, 45, 45, 45, 45, 45, 45, 45, 45, 45, 45, 45, 45, 45, 45, 45, 45, 45, 45, 45, 45, 45, 45, 45, 45, 45, 45, 45, 45, 45, 45, 45, 45, 45, 45, 45, 45])), (.reg 3)], none, (some (2, true))⟩, o_ (.pick (.reg 2) (.reg 4) (.cst (.bool false))), ⟨.mov (.reg 5), (some 18), none⟩])
     (.cond (.loc 18)
      (.seq (.region [o_ (.mov (.loc 5)), o_ (.slice .str (.cst (.str [45, 45, 45, 45, 45, 45, 45, 45, 45, 45, 45, 45, 45, 45, 45, 45, 45, 45, 45, 45, 45, 45, 45, 45, 45, 45, 45, 45, 45, 45, 45, 45, 45, 45, 45, 45, 45, 45, 45, 45, 45, 45, 45, 45, 45, 45, 45, 45, 45, 45, 45, 45, 45, 45, 45, 45, 45, 45, 45, 45, 45, 45, 45, 45, 45, 45, 45, 45, 45, 45, 45, 45, 45, 45, 45, 45, 45, 45, 45, 45, 45, 45, 45, 45, 45, 45, 45, 45, 45, 45, 45, 45, 45, 45, 45, 45, 45, 45, 45, 45, 45, 45, 45, 45, 45, 45, 45, 45, 45, 45, 45, 45, 45, 45, 45, 45, 45, 45, 45, 45, 45, 45, 45, 45, 45, 45, 45, 45])) none (some (.reg 0)) none), ⟨.mov (.reg 1), (some 2), none⟩])
      .ret)
      (.seq (.region [o_ (.mov (.loc 5)), o_ (.bin .leq (.reg 0) (.cst (.int .i64 64))), o_ (.mov (.reg 1)), ⟨.mov (.loc 0), none, (some (2, true))⟩, ⟨.call true false 70 [(.cst (.str [48, 48, 48, 48, 48, 48, 48, 48, 48, 48, 48, 48, 48, 48, 48, 48, 48, 48, 48, 48, 48, 48, 48, 48, 48, 48, 48, 48, 48, 48, 48, 48, 48, 48, 48, 48, 48, 48, 48, 48, 48, 48, 48, 48, 48, 48, 48, 48, 48, 48, 48, 48, 48, 48, 48, 48, 48, 48, 48, 48, 48, 48, 48, 48])), (.reg 3)], none, (some (2, true))⟩, o_ (.pick (.reg 2) (.reg 4) (.cst (.bool false))), ⟨.mov (.reg 5), (some 19), none⟩])
      (.cond (.loc 19)
       (.seq (.region [o_ (.mov (.loc 5)), o_ (.slice .str (.cst (.str [48, 48, 48, 48, 48, 48, 48, 48, 48, 48, 48, 48, 48, 48, 48, 48, 48, 48, 48, 48, 48, 48, 48, 48, 48, 48, 48, 48, 48, 48, 48, 48, 48, 48, 48, 48, 48, 48, 48, 48, 48, 48, 48, 48, 48, 48, 48, 48, 48, 48, 48, 48, 48, 48, 48, 48, 48, 48, 48, 48, 48, 48, 48, 48])) none (some (.reg 0)) none), ⟨.mov (.reg 1), (some 2), none⟩])
       .ret)
       (.seq (.region [o_ (.mov (.loc 5)), o_ (.bin .leq (.reg 0) (.cst (.int .i64 128))), o_ (.mov (.reg 1)), ⟨.mov (.loc 0), none, (some (2, true))⟩, ⟨.call true false 70 [(.cst (.str [61, 61, 61, 61, 61, 61, 61, 61, 61, 61, 61, 61, 61, 61, 61, 61, 61, 61, 61, 61, 61, 61, 61, 61, 61, 61, 61, 61, 61, 61, 61, 61, 61, 61, 61, 61, 61, 61, 61, 61, 61, 61, 61, 61, 61, 61, 61, 61, 61, 61, 61, 61, 61, 61, 61, 61, 61, 61, 61, 61, 61, 61, 61, 61, 61, 61, 61, 61, 61, 61, 61, 61, 61, 61, 61, 61, 61, 61, 61, 61, 61, 61, 61, 61, 61, 61, 61, 61, 61, 61, 61, 61, 61, 61, 61, 61, 61, 61, 61, 61, 61, 61, 61, 61, 61, 61, 61, 61, 61, 61, 61, 61, 61, 61, 61, 61, 61, 61, 61, 61, 61, 61, 61, 61, 61, 61, 61, 61])), (.reg 3)], none, (some (2, true))⟩, o_ (.pick (.reg 2) (.reg 4) (.cst (.bool false))), ⟨.mov (.reg 5), (some 20), none⟩])
       (.cond (.loc 20)
        (.seq (.region [o_ (.mov (.loc 5)), o_ (.slice .str (.cst (.str [61, 61, 61, 61, 61, 61, 61, 61, 61, 61, 61, 61, 61, 61, 61, 61, 61, 61, 61, 61, 61, 61, 61, 61, 61, 61, 61, 61, 61, 61, 61, 61, 61, 61, 61, 61, 61, 61, 61, 61, 61, 61, 61, 61, 61, 61, 61, 61, 61, 61, 61, 61, 61, 61, 61, 61, 61, 61, 61, 61, 61, 61, 61, 61, 61, 61, 61, 61, 61, 61, 61, 61, 61, 61, 61, 61, 61, 61, 61, 61, 61, 61, 61, 61, 61, 61, 61, 61, 61, 61, 61, 61, 61, 61, 61, 61, 61, 61, 61, 61, 61, 61, 61, 61, 61, 61, 61, 61, 61, 61, 61, 61, 61, 61, 61, 61, 61, 61, 61, 61, 61, 61, 61, 61, 61, 61, 61, 61])) none (some (.reg 0)) none), ⟨.mov (.reg 1), (some 2), none⟩])
        .ret)
        (.seq (.region [o_ (.mov (.loc 5)), o_ (.bin .leq (.reg 0) (.cst (.int .i64 64))), o_ (.mov (.reg 1)), ⟨.mov (.loc 0), none, (some (2, true))⟩, ⟨.call true false 70 [(.cst (.str [9, 9, 9, 9, 9, 9, 9, 9, 9, 9, 9, 9, 9, 9, 9, 9, 9, 9, 9, 9, 9, 9, 9, 9, 9, 9, 9, 9, 9, 9, 9, 9, 9, 9, 9, 9, 9, 9, 9, 9, 9, 9, 9, 9, 9, 9, 9, 9, 9, 9, 9, 9, 9, 9, 9, 9, 9, 9, 9, 9, 9, 9, 9, 9])), (.reg 3)], none, (some (2, true))⟩, o_ (.pick (.reg 2) (.reg 4) (.cst (.bool false))), ⟨.mov (.reg 5), (some 21), none⟩])
        (.cond (.loc 21)
         (.seq (.region [o_ (.mov (.loc 5)), o_ (.slice .str (.cst (.str [9, 9, 9, 9, 9, 9, 9, 9, 9, 9, 9, 9, 9, 9, 9, 9, 9, 9, 9, 9, 9, 9, 9, 9, 9, 9, 9, 9, 9, 9, 9, 9, 9, 9, 9, 9, 9, 9, 9, 9, 9, 9, 9, 9, 9, 9, 9, 9, 9, 9, 9, 9, 9, 9, 9, 9, 9, 9, 9, 9, 9, 9, 9, 9])) none (some (.reg 0)) none), ⟨.mov (.reg 1), (some 2), none⟩])
         .ret)
         .skip)))))))))))
   .skip))))
 (.seq (.region [o_ (.mov (.loc 5)), ⟨.mov (.reg 0), (some 6), none⟩])
 (.seq (.seq (.region [o_ (.mov (.loc 5)), ⟨.bin .gtr (.reg 0) (.cst (.int .i64 8192)), (some 22), none⟩])
 (.cond (.loc 22)
  (.seq (.region [o_ (.mov (.loc 0)), o_ (.len .str (.reg 0)), o_ (.bin .quo (.cst (.int .i64 8192)) (.reg 1)), o_ (.mov (.loc 0)), o_ (.len .str (.reg 3)), o_ (.bin .mul (.reg 2) (.reg 4)), ⟨.mov (.reg 5), (some 6), none⟩])
  (.seq (.region [o_ (.mov (.loc 6)), ⟨.bin .eql (.reg 0) (.cst (.int .i64 0)), (some 23), none⟩])
  (.cond (.loc 23)
   (.region [o_ (.mov (.loc 0)), o_ (.len .str (.reg 0)), ⟨.mov (.reg 1), (some 6), none⟩])
   .skip)))
  .skip))
 (.seq (.region [⟨.allocH 108 [.nilp, (.sl .nil [])], (some 7), none⟩])
 (.seq (.region [o_ (.mov (.loc 5)), o_ (.call false false 71 [(.loc 7), (.reg 0)])])
 (.seq (.region [o_ (.mov (.loc 0)), o_ (.call false false 72 [(.loc 7), (.reg 0)])])
 (.seq (.block 3
  (.loop t47L0))
 (.seq (.region [o_ (.prim 74 [(.loc 7)]), ⟨.mov (.reg 0), (some 2), none⟩])
 .ret)))))))))))))))⟩
theorem c47 : compFunc Tryd.prog opts a47 Tryd.f47 = some t47 := by kernel_rfl
def a48 : Ann := { slots := [0, 2, 3, 9], lb := [], mu := [], trunc := [], draws := [(3, ⟨[0, 0, 0, 0, 0, 0, 48, 112, 0, 0, 768, 1792, 4083, 8179, 16383, 32767], [0, 1, 2, 3, 4, 5, 6, 7, 8, 9, 10, 11, 12], [(13, [], [14]), (15, [], [])]⟩)] }
def t48L0 : TCode := (.seq (.seq (.region [o_ (.mov (.loc 1)), o_ (.mov (.loc 2)), ⟨.bin .lss (.reg 0) (.reg 1), (some 3), none⟩])
   (.cond (.loc 3)
    .skip
    (.exit 0)))
   (.seq (.block 1
    (.draw [0, 1, 2, 3, 4, 5, 6, 7, 8, 9, 10, 11, 12] [(13, [], [14]), (15, [], [])] [o_ (.mov (.loc 0)), o_ (.mov (.loc 1)), o_ (.mov (.loc 0)), o_ (.mov (.loc 2)), o_ (.mov (.loc 0)), o_ (.mov (.loc 2)), o_ (.indexAddrS 1 (.reg 4) (.reg 5)), o_ (.load1 (.reg 6)), o_ (.mov (.loc 0)), o_ (.mov (.loc 1)), o_ (.indexAddrS 1 (.reg 8) (.reg 9)), o_ (.load1 (.reg 10)), o_ (.indexAddrS 1 (.reg 0) (.reg 1)), o_ (.store 1 (.reg 12) (.reg 7)), o_ (.indexAddrS 1 (.reg 2) (.reg 3)), o_ (.store 1 (.reg 14) (.reg 11))]))
   (.region [o_ (.mov (.loc 1)), o_ (.bin .add (.reg 0) (.cst (.int .i64 1))), o_ (.mov (.loc 2)), o_ (.bin .sub (.reg 2) (.cst (.int .i64 1))), ⟨.mov (.reg 1), (some 1), none⟩, ⟨.mov (.reg 3), (some 2), none⟩])))
def t48 : TFunc := ⟨1, 4, [],
 (.seq (.region [o_ (.mov (.loc 0)), o_ (.len .sl (.reg 0)), o_ (.bin .sub (.reg 1) (.cst (.int .i64 1))), ⟨.mov (.cst (.int .i64 0)), (some 1), none⟩, ⟨.mov (.reg 2), (some 2), none⟩])
 (.block 0
  (.loop t48L0)))⟩
theorem c48 : compFunc Tryd.prog opts a48 Tryd.f48 = some t48 := by kernel_rfl
def a49 : Ann := { slots := [0, 1, 4, 5, 7, 8, 10, 12, 13, 15, 22, 29, 39, 40, 41, 42, 49, 63, 64, 65, 66], lb := [], mu := [], trunc := [], draws := [] }
def t49L0 : TCode := (.seq (.region [⟨.bin .lss (.loc 19) (.loc 18), (some 20), none⟩])
   (.seq (.cond (.loc 20)
    .skip
    (.exit 3))
   (.seq (.block 4
    (.seq (.region [o_ (.indexAddrS 1 (.loc 17) (.loc 19)), o_ (.load1 (.reg 0)), ⟨.mov (.reg 1), (some 6), none⟩])
    (.seq (.region [o_ (.mov (.loc 1)), o_ (.call false false 72 [(.loc 5), (.reg 0)])])
    (.region [o_ (.mov (.loc 6)), o_ (.call false false 72 [(.loc 5), (.reg 0)])]))))
   (.region [o_ (.bin .add (.loc 19) (.cst (.int .i64 1))), ⟨.mov (.reg 0), (some 19), none⟩]))))
def t49L1 : TCode := (.seq (.region [⟨.bin .lss (.loc 14) (.loc 13), (some 15), none⟩])
   (.seq (.cond (.loc 15)
    .skip
    (.exit 1))
   (.seq (.block 2
    (.seq (.region [o_ (.indexAddrS 1 (.loc 12) (.loc 14)), o_ (.load1 (.reg 0)), ⟨.mov (.reg 1), (some 4), none⟩])
    (.seq (.seq (.region [o_ (.mov (.loc 4)), o_ (.len .str (.reg 0)), o_ (.mov (.loc 3)), o_ (.bin .sub (.cst (.int .i64 9223372036854775807)) (.reg 2)), ⟨.bin .gtr (.reg 1) (.reg 3), (some 16), none⟩])
    (.cond (.loc 16)
     (.region [o_ (.bad), o_ (.bad)])
     .skip))
    (.region [o_ (.mov (.loc 3)), o_ (.mov (.loc 4)), o_ (.len .str (.reg 1)), o_ (.bin .add (.reg 0) (.reg 2)), ⟨.mov (.reg 3), (some 3), none⟩]))))
   (.region [o_ (.bin .add (.loc 14) (.cst (.int .i64 1))), ⟨.mov (.reg 0), (some 14), none⟩]))))
def t49 : TFunc := ⟨2, 21, [.loc 2],
 (.seq (.region [⟨.mov (.cst (.str [])), (some 2), none⟩])
 (.seq (.seq (.region [o_ (.mov (.loc 0)), ⟨.len .sl (.reg 0), (some 7), none⟩])
 (.block 0
  (.seq (.region [o_ (.bin .eql (.loc 7) (.cst (.int .i64 0))), ⟨.mov (.reg 0), (some 8), none⟩])
  (.cond (.loc 8)
   (.seq (.region [⟨.mov (.cst (.str [])), (some 2), none⟩])
   .ret)
   (.seq (.region [o_ (.bin .eql (.loc 7) (.cst (.int .i64 1))), ⟨.mov (.reg 0), (some 9), none⟩])
   (.cond (.loc 9)
    (.seq (.region [o_ (.mov (.loc 0)), o_ (.indexAddrS 1 (.reg 0) (.cst (.int .i64 0))), o_ (.load1 (.reg 1)), ⟨.mov (.reg 2), (some 2), none⟩])
    .ret)
    .skip))))))
 (.seq (.region [⟨.mov (.cst (.int .i64 0)), (some 3), none⟩])
 (.seq (.seq (.region [o_ (.mov (.loc 1)), o_ (.len .str (.reg 0)), ⟨.bin .gtr (.reg 1) (.cst (.int .i64 0)), (some 10), none⟩])
 (.cond (.loc 10)
  (.seq (.seq (.region [o_ (.mov (.loc 1)), o_ (.len .str (.reg 0)), o_ (.mov (.loc 0)), o_ (.len .sl (.reg 2)), o_ (.bin .sub (.reg 3) (.cst (.int .i64 1))), o_ (.bin .quo (.cst (.int .i64 9223372036854775807)) (.reg 4)), ⟨.bin .geq (.reg 1) (.reg 5), (some 11), none⟩])
  (.cond (.loc 11)
   (.region [o_ (.bad), o_ (.bad)])
   .skip))
  (.region [o_ (.mov (.loc 3)), o_ (.mov (.loc 1)), o_ (.len .str (.reg 1)), o_ (.mov (.loc 0)), o_ (.len .sl (.reg 3)), o_ (.bin .sub (.reg 4) (.cst (.int .i64 1))), o_ (.bin .mul (.reg 2) (.reg 5)), o_ (.bin .add (.reg 0) (.reg 6)), ⟨.mov (.reg 7), (some 3), none⟩]))
  .skip))
 (.seq (.seq (.region [⟨.mov (.loc 0), (some 12), none⟩, ⟨.len .sl (.reg 0), (some 13), none⟩, ⟨.mov (.cst (.int .i64 0)), (some 14), none⟩])
 (.block 1
  (.loop t49L1)))
 (.seq (.region [⟨.allocH 108 [.nilp, (.sl .nil [])], (some 5), none⟩])
 (.seq (.region [o_ (.mov (.loc 3)), o_ (.call false false 71 [(.loc 5), (.reg 0)])])
 (.seq (.region [o_ (.mov (.loc 0)), o_ (.indexAddrS 1 (.reg 0) (.cst (.int .i64 0))), o_ (.load1 (.reg 1)), o_ (.call false false 72 [(.loc 5), (.reg 2)])])
 (.seq (.seq (.region [o_ (.mov (.loc 0)), ⟨.slice (.sl 1) (.reg 0) (some (.cst (.int .i64 1))) none none, (some 17), none⟩, ⟨.len .sl (.reg 1), (some 18), none⟩, ⟨.mov (.cst (.int .i64 0)), (some 19), none⟩])
 (.block 3
  (.loop t49L0)))
 (.seq (.region [o_ (.prim 74 [(.loc 5)]), ⟨.mov (.reg 0), (some 2), none⟩])
 .ret))))))))))⟩
theorem c49 : compFunc Tryd.prog opts a49 Tryd.f49 = some t49 := by kernel_rfl
def a50 : Ann := { slots := [0, 2, 4], lb := [], mu := [(3, 2)], trunc := [], draws := [] }
def t50 : TFunc := ⟨1, 3, [.loc 1],
 (.seq (.region [⟨.mov (.cst (.sl .nil [])), (some 1), none⟩])
 (.seq (.seq (.region [o_ (.mov (.loc 0)), ⟨.eqB false .sl (.reg 0) (.cst (.sl .nil [])), (some 2), none⟩])
 (.cond (.loc 2)
  (.seq (.region [⟨.mov (.cst (.sl .nil [])), (some 1), none⟩])
  .ret)
  .skip))
 (.seq (.region [o_ (.lit false [(.int .u16 0)] 0 []), o_ (.mov (.loc 0)), o_ (.append true 1 2 55 (.reg 0) (.reg 1)), ⟨.mov (.reg 2), (some 1), none⟩])
 .ret)))⟩
theorem c50 : compFunc Tryd.prog opts a50 Tryd.f50 = some t50 := by kernel_rfl
def a51 : Ann := { slots := [0, 1, 4, 5, 6, 11], lb := [4], mu := [], trunc := [], draws := [] }
def t51L0 : TCode := (.seq (.seq (.region [o_ (.mov (.loc 4)), ⟨.bin .geq (.reg 0) (.cst (.int .i64 0)), (some 5), none⟩])
   (.cond (.loc 5)
    .skip
    (.exit 0)))
   (.seq (.block 1
    (.region [o_ (.mov (.loc 3)), o_ (.mov (.loc 1)), o_ (.mov (.loc 4)), o_ (.indexAddrS 1 (.reg 1) (.reg 2)), o_ (.load1 (.reg 3)), o_ (.conv (.toInt .i64) (.reg 4)), o_ (.call true false 60 [(.reg 0), (.cst (.int .i64 65536)), (.reg 5)]), ⟨.mov (.reg 6), (some 3), none⟩]))
   (.region [o_ (.mov (.loc 4)), o_ (.bin .sub (.reg 0) (.cst (.int .i64 1))), ⟨.mov (.reg 1), (some 4), none⟩])))
def t51 : TFunc := ⟨2, 6, [.cell 2 2 true],
 (.seq (.region [o_ (.allocL 2 [(.bool false), (.sl .nil [])])])
 (.seq (.region [⟨.mov (.cst (.sl .nil [])), (some 3), none⟩])
 (.seq (.seq (.region [o_ (.mov (.loc 1)), o_ (.len .sl (.reg 0)), o_ (.bin .sub (.reg 1) (.cst (.int .i64 1))), ⟨.mov (.reg 2), (some 4), none⟩])
 (.block 0
  (.loop t51L0)))
 (.seq (.region [o_ (.mov (.loc 0)), o_ (.mov (.loc 3)), o_ (.call true false 43 [(.reg 0), (.reg 1)]), o_ (.store 2 (.loc 2) (.reg 2))])
 .ret))))⟩
theorem c51 : compFunc Tryd.prog opts a51 Tryd.f51 = some t51 := by kernel_rfl
def a53 : Ann := { slots := [0, 1, 4, 5, 6, 12, 13, 14], lb := [], mu := [(6, 4)], trunc := [], draws := [] }
def t53L0 : TCode := (.seq (.region [⟨.bin .lss (.loc 6) (.loc 5), (some 7), none⟩])
   (.seq (.cond (.loc 7)
    .skip
    (.exit 0))
   (.seq (.block 1
    (.seq (.region [o_ (.mov (.loc 6)), ⟨.mov (.reg 0), (some 4), none⟩])
    (.seq (.region [o_ (.mov (.loc 3)), o_ (.mov (.loc 0)), o_ (.mov (.loc 4)), o_ (.call true false 76 [(.reg 1), (.reg 2)]), o_ (.mov (.loc 1)), o_ (.mov (.loc 4)), o_ (.call true false 76 [(.reg 4), (.reg 5)]), o_ (.bin .add (.reg 3) (.reg 6)), o_ (.bin .add (.reg 0) (.reg 7)), ⟨.mov (.reg 8), (some 3), none⟩])
    (.seq (.region [o_ (.mov (.loc 2)), o_ (.mov (.loc 3)), o_ (.conv (.toInt .u16) (.reg 1)), o_ (.lit false [(.int .u16 0)] 1 [(0, (.reg 2))]), o_ (.append true 1 2 55 (.reg 0) (.reg 3)), ⟨.mov (.reg 4), (some 2), none⟩])
    (.region [o_ (.mov (.loc 3)), o_ (.bin .shr (.reg 0) (.cst (.int .u64 16))), ⟨.mov (.reg 1), (some 3), none⟩])))))
   (.region [o_ (.bin .add (.loc 6) (.cst (.int .i64 1))), ⟨.mov (.reg 0), (some 6), none⟩]))))
def t53 : TFunc := ⟨2, 8, [.loc 2],
 (.seq (.region [⟨.mov (.cst (.sl .nil [])), (some 2), none⟩])
 (.seq (.region [⟨.mov (.cst (.int .u32 0)), (some 3), none⟩])
 (.seq (.seq (.region [o_ (.mov (.loc 0)), o_ (.len .sl (.reg 0)), o_ (.mov (.loc 1)), o_ (.len .sl (.reg 2)), o_ (.minmax true [(.reg 1), (.reg 3)]), ⟨.bin .add (.reg 4) (.cst (.int .i64 1)), (some 5), none⟩, ⟨.mov (.cst (.int .i64 0)), (some 6), none⟩])
 (.block 0
  (.loop t53L0)))
 (.seq (.region [o_ (.mov (.loc 2)), ⟨.mov (.reg 0), (some 2), none⟩])
 .ret))))⟩
theorem c53 : compFunc Tryd.prog opts a53 Tryd.f53 = some t53 := by kernel_rfl
def a54 : Ann := { slots := [0, 1, 4, 5, 6, 17, 23, 34], lb := [], mu := [], trunc := [], draws := [(8, ⟨[0, 0, 3, 7, 0, 0, 48, 112, 255], [0, 1, 2, 3, 4, 5, 6, 7, 8], []⟩), (9, ⟨[0, 0, 3, 7, 0, 0, 48, 112, 255, 511], [0, 1, 2, 3, 4, 5, 6, 7], [(8, [], [9])]⟩)] }
def t54L0 : TCode := (.seq (.seq (.region [o_ (.mov (.loc 4)), ⟨.bin .geq (.reg 0) (.cst (.int .i64 0)), (some 6), none⟩])
   (.cond (.loc 6)
    .skip
    (.exit 0)))
   (.seq (.block 1
    (.seq (.draw [0, 1, 2, 3, 4, 5, 6, 7, 8] [] [o_ (.mov (.loc 0)), o_ (.mov (.loc 4)), o_ (.indexAddrS 1 (.reg 0) (.reg 1)), o_ (.load1 (.reg 2)), o_ (.mov (.loc 1)), o_ (.mov (.loc 4)), o_ (.indexAddrS 1 (.reg 4) (.reg 5)), o_ (.load1 (.reg 6)), ⟨.bin .neq (.reg 3) (.reg 7), (some 7), none⟩])
    (.cond (.loc 7)
     (.seq (.draw [0, 1, 2, 3, 4, 5, 6, 7] [(8, [], [9])] [o_ (.mov (.loc 0)), o_ (.mov (.loc 4)), o_ (.indexAddrS 1 (.reg 0) (.reg 1)), o_ (.load1 (.reg 2)), o_ (.mov (.loc 1)), o_ (.mov (.loc 4)), o_ (.indexAddrS 1 (.reg 4) (.reg 5)), o_ (.load1 (.reg 6)), o_ (.call true false 78 [(.reg 3), (.reg 7)]), ⟨.mov (.reg 8), (some 2), none⟩])
     .ret)
     .skip)))
   (.region [o_ (.mov (.loc 4)), o_ (.bin .sub (.reg 0) (.cst (.int .i64 1))), ⟨.mov (.reg 1), (some 4), none⟩])))
def t54 : TFunc := ⟨2, 8, [.loc 2],
 (.seq (.region [⟨.mov (.cst (.int .i64 0)), (some 2), none⟩])
 (.seq (.region [o_ (.mov (.loc 0)), o_ (.call false false 40 [(.reg 0)]), o_ (.mov (.loc 1)), o_ (.call false false 40 [(.reg 2)]), ⟨.mov (.reg 1), (some 0), none⟩, ⟨.mov (.reg 3), (some 1), none⟩])
 (.seq (.seq (.region [o_ (.mov (.loc 0)), o_ (.len .sl (.reg 0)), o_ (.mov (.loc 1)), o_ (.len .sl (.reg 2)), o_ (.call true false 77 [(.reg 1), (.reg 3)]), ⟨.mov (.reg 4), (some 3), none⟩])
 (.seq (.region [o_ (.mov (.loc 3)), ⟨.bin .neq (.reg 0) (.cst (.int .i64 0)), (some 5), none⟩])
 (.cond (.loc 5)
  (.seq (.region [o_ (.mov (.loc 3)), ⟨.mov (.reg 0), (some 2), none⟩])
  .ret)
  .skip)))
 (.seq (.seq (.region [o_ (.mov (.loc 0)), o_ (.len .sl (.reg 0)), o_ (.bin .sub (.reg 1) (.cst (.int .i64 1))), ⟨.mov (.reg 2), (some 4), none⟩])
 (.block 0
  (.loop t54L0)))
 (.seq (.region [⟨.mov (.cst (.int .i64 0)), (some 2), none⟩])
 .ret)))))⟩
theorem c54 : compFunc Tryd.prog opts a54 Tryd.f54 = some t54 := by kernel_rfl
def a55 : Ann := { slots := [0, 1, 4, 5, 6, 7, 9, 10, 11], lb := [], mu := [(6, 4)], trunc := [], draws := [] }
def t55L0 : TCode := (.seq (.region [⟨.bin .lss (.loc 7) (.loc 6), (some 8), none⟩])
   (.seq (.cond (.loc 8)
    .skip
    (.exit 0))
   (.seq (.block 1
    (.seq (.region [o_ (.mov (.loc 7)), ⟨.mov (.reg 0), (some 4), none⟩])
    (.seq (.region [o_ (.mov (.loc 0)), o_ (.mov (.loc 4)), o_ (.call true false 76 [(.reg 0), (.reg 1)]), o_ (.bin .add (.cst (.int .u32 65536)) (.reg 2)), o_ (.mov (.loc 1)), o_ (.mov (.loc 4)), o_ (.call true false 76 [(.reg 4), (.reg 5)]), o_ (.bin .sub (.reg 3) (.reg 6)), o_ (.mov (.loc 3)), o_ (.bin .sub (.reg 7) (.reg 8)), ⟨.mov (.reg 9), (some 5), none⟩])
    (.seq (.region [o_ (.mov (.loc 2)), o_ (.mov (.loc 5)), o_ (.conv (.toInt .u16) (.reg 1)), o_ (.lit false [(.int .u16 0)] 1 [(0, (.reg 2))]), o_ (.append true 1 2 55 (.reg 0) (.reg 3)), ⟨.mov (.reg 4), (some 2), none⟩])
    (.region [o_ (.mov (.loc 5)), o_ (.bin .shr (.reg 0) (.cst (.int .u64 16))), o_ (.bin .sub (.cst (.int .u32 1)) (.reg 1)), ⟨.mov (.reg 2), (some 3), none⟩])))))
   (.region [o_ (.bin .add (.loc 7) (.cst (.int .i64 1))), ⟨.mov (.reg 0), (some 7), none⟩]))))
def t55 : TFunc := ⟨2, 9, [.loc 2],
 (.seq (.region [⟨.mov (.cst (.sl .nil [])), (some 2), none⟩])
 (.seq (.region [⟨.mov (.cst (.int .u32 0)), (some 3), none⟩])
 (.seq (.seq (.region [o_ (.mov (.loc 0)), ⟨.len .sl (.reg 0), (some 6), none⟩, ⟨.mov (.cst (.int .i64 0)), (some 7), none⟩])
 (.block 0
  (.loop t55L0)))
 (.seq (.region [o_ (.mov (.loc 2)), ⟨.mov (.reg 0), (some 2), none⟩])
 .ret))))⟩
theorem c55 : compFunc Tryd.prog opts a55 Tryd.f55 = some t55 := by kernel_rfl
def a56 : Ann := { slots := [0, 1, 4, 5, 10, 15, 20, 31, 40], lb := [], mu := [], trunc := [], draws := [(8, ⟨[0, 0, 3, 7, 0, 0, 48, 112, 255], [0, 1, 2, 3, 4, 5, 6, 7, 8], []⟩), (9, ⟨[0, 0, 3, 7, 0, 0, 48, 112, 255], [0, 1, 2, 3, 4, 5, 6, 7, 8], []⟩)] }
def t56L0 : TCode := (.seq (.seq (.region [o_ (.mov (.loc 3)), ⟨.bin .geq (.reg 0) (.cst (.int .i64 0)), (some 6), none⟩])
   (.cond (.loc 6)
    .skip
    (.exit 0)))
   (.seq (.block 1
    (.seq (.draw [0, 1, 2, 3, 4, 5, 6, 7, 8] [] [o_ (.mov (.loc 0)), o_ (.mov (.loc 3)), o_ (.indexAddrS 1 (.reg 0) (.reg 1)), o_ (.load1 (.reg 2)), o_ (.mov (.loc 1)), o_ (.mov (.loc 3)), o_ (.indexAddrS 1 (.reg 4) (.reg 5)), o_ (.load1 (.reg 6)), ⟨.bin .neq (.reg 3) (.reg 7), (some 7), none⟩])
    (.cond (.loc 7)
     (.seq (.seq (.draw [0, 1, 2, 3, 4, 5, 6, 7, 8] [] [o_ (.mov (.loc 0)), o_ (.mov (.loc 3)), o_ (.indexAddrS 1 (.reg 0) (.reg 1)), o_ (.load1 (.reg 2)), o_ (.mov (.loc 1)), o_ (.mov (.loc 3)), o_ (.indexAddrS 1 (.reg 4) (.reg 5)), o_ (.load1 (.reg 6)), ⟨.bin .lss (.reg 3) (.reg 7), (some 8), none⟩])
     (.cond (.loc 8)
      (.seq (.region [⟨.mov (.cst (.int .i64 (-1))), (some 2), none⟩])
      .ret)
      .skip))
     (.seq (.region [⟨.mov (.cst (.int .i64 1)), (some 2), none⟩])
     .ret))
     .skip)))
   (.region [o_ (.mov (.loc 3)), o_ (.bin .sub (.reg 0) (.cst (.int .i64 1))), ⟨.mov (.reg 1), (some 3), none⟩])))
def t56 : TFunc := ⟨2, 9, [.loc 2],
 (.seq (.region [⟨.mov (.cst (.int .i64 0)), (some 2), none⟩])
 (.seq (.seq (.region [o_ (.mov (.loc 0)), o_ (.len .sl (.reg 0)), o_ (.mov (.loc 1)), o_ (.len .sl (.reg 2)), ⟨.bin .neq (.reg 1) (.reg 3), (some 4), none⟩])
 (.cond (.loc 4)
  (.seq (.seq (.region [o_ (.mov (.loc 0)), o_ (.len .sl (.reg 0)), o_ (.mov (.loc 1)), o_ (.len .sl (.reg 2)), ⟨.bin .lss (.reg 1) (.reg 3), (some 5), none⟩])
  (.cond (.loc 5)
   (.seq (.region [⟨.mov (.cst (.int .i64 (-1))), (some 2), none⟩])
   .ret)
   .skip))
  (.seq (.region [⟨.mov (.cst (.int .i64 1)), (some 2), none⟩])
  .ret))
  .skip))
 (.seq (.seq (.region [o_ (.mov (.loc 0)), o_ (.len .sl (.reg 0)), o_ (.bin .sub (.reg 1) (.cst (.int .i64 1))), ⟨.mov (.reg 2), (some 3), none⟩])
 (.block 0
  (.loop t56L0)))
 (.seq (.region [⟨.mov (.cst (.int .i64 0)), (some 2), none⟩])
 .ret))))⟩
theorem c56 : compFunc Tryd.prog opts a56 Tryd.f56 = some t56 := by kernel_rfl
def a57 : Ann := { slots := [0, 1, 4, 5, 6, 7, 21], lb := [], mu := [], trunc := [], draws := [] }
def t57L0 : TCode := (.seq (.seq (.region [o_ (.mov (.loc 5)), o_ (.mov (.loc 0)), o_ (.len .sl (.reg 1)), o_ (.bin .lss (.reg 0) (.reg 2)), o_ (.mov (.reg 3)), ⟨.mov (.loc 5), none, (some (4, false))⟩, ⟨.mov (.loc 1), none, (some (4, false))⟩, ⟨.len .sl (.reg 6), none, (some (4, false))⟩, ⟨.bin .lss (.reg 5) (.reg 7), none, (some (4, false))⟩, o_ (.pick (.reg 4) (.cst (.bool true)) (.reg 8)), o_ (.mov (.reg 9)), ⟨.mov (.loc 4), none, (some (10, false))⟩, ⟨.bin .gtr (.reg 11) (.cst (.int .i64 0)), none, (some (10, false))⟩, ⟨.pick (.reg 10) (.cst (.bool true)) (.reg 12), (some 6), none⟩])
   (.cond (.loc 6)
    .skip
    (.exit 0)))
   (.seq (.block 1
    (.seq (.region [o_ (.mov (.loc 4)), o_ (.mov (.loc 0)), o_ (.mov (.loc 5)), o_ (.call true false 79 [(.reg 1), (.reg 2)]), o_ (.bin .add (.reg 0) (.reg 3)), o_ (.mov (.loc 1)), o_ (.mov (.loc 5)), o_ (.call true false 79 [(.reg 5), (.reg 6)]), o_ (.bin .add (.reg 4) (.reg 7)), ⟨.mov (.reg 8), (some 4), none⟩])
    (.seq (.region [o_ (.mov (.loc 3)), o_ (.mov (.loc 4)), o_ (.bin .rem (.reg 1) (.cst (.int .i64 10))), o_ (.lit false [(.int .i64 0)] 1 [(0, (.reg 2))]), o_ (.append false 1 8 3 (.reg 0) (.reg 3)), ⟨.mov (.reg 4), (some 3), none⟩])
    (.region [o_ (.mov (.loc 4)), o_ (.bin .quo (.reg 0) (.cst (.int .i64 10))), ⟨.mov (.reg 1), (some 4), none⟩]))))
   (.region [o_ (.mov (.loc 5)), o_ (.bin .add (.reg 0) (.cst (.int .i64 1))), ⟨.mov (.reg 1), (some 5), none⟩])))
def t57 : TFunc := ⟨2, 7, [.loc 2],
 (.seq (.region [⟨.mov (.cst (.sl .nil [])), (some 2), none⟩])
 (.seq (.region [⟨.mov (.cst (.sl .nil [])), (some 3), none⟩])
 (.seq (.region [⟨.mov (.cst (.int .i64 0)), (some 4), none⟩])
 (.seq (.seq (.region [⟨.mov (.cst (.int .i64 0)), (some 5), none⟩])
 (.block 0
  (.loop t57L0)))
 (.seq (.region [o_ (.mov (.loc 3)), ⟨.mov (.reg 0), (some 2), none⟩])
 .ret)))))⟩
theorem c57 : compFunc Tryd.prog opts a57 Tryd.f57 = some t57 := by kernel_rfl
def a58 : Ann := { slots := [0, 1, 4, 5, 6, 7, 8, 12, 25], lb := [], mu := [], trunc := [], draws := [] }
def t58L0 : TCode := (.seq (.seq (.region [o_ (.mov (.loc 5)), o_ (.mov (.loc 0)), o_ (.len .sl (.reg 1)), ⟨.bin .lss (.reg 0) (.reg 2), (some 7), none⟩])
   (.cond (.loc 7)
    .skip
    (.exit 0)))
   (.seq (.block 1
    (.seq (.region [o_ (.mov (.loc 0)), o_ (.mov (.loc 5)), o_ (.call true false 79 [(.reg 0), (.reg 1)]), o_ (.mov (.loc 1)), o_ (.mov (.loc 5)), o_ (.call true false 79 [(.reg 3), (.reg 4)]), o_ (.bin .sub (.reg 2) (.reg 5)), o_ (.mov (.loc 4)), o_ (.bin .sub (.reg 6) (.reg 7)), ⟨.mov (.reg 8), (some 6), none⟩])
    (.seq (.region [⟨.mov (.cst (.int .i64 0)), (some 4), none⟩])
    (.seq (.seq (.region [o_ (.mov (.loc 6)), ⟨.bin .lss (.reg 0) (.cst (.int .i64 0)), (some 8), none⟩])
    (.cond (.loc 8)
     (.seq (.region [o_ (.mov (.loc 6)), o_ (.bin .add (.reg 0) (.cst (.int .i64 10))), ⟨.mov (.reg 1), (some 6), none⟩])
     (.region [⟨.mov (.cst (.int .i64 1)), (some 4), none⟩]))
     .skip))
    (.region [o_ (.mov (.loc 3)), o_ (.mov (.loc 6)), o_ (.lit false [(.int .i64 0)] 1 [(0, (.reg 1))]), o_ (.append false 1 8 3 (.reg 0) (.reg 2)), ⟨.mov (.reg 3), (some 3), none⟩])))))
   (.region [o_ (.mov (.loc 5)), o_ (.bin .add (.reg 0) (.cst (.int .i64 1))), ⟨.mov (.reg 1), (some 5), none⟩])))
def t58 : TFunc := ⟨2, 9, [.loc 2],
 (.seq (.region [⟨.mov (.cst (.sl .nil [])), (some 2), none⟩])
 (.seq (.region [⟨.mov (.cst (.sl .nil [])), (some 3), none⟩])
 (.seq (.region [⟨.mov (.cst (.int .i64 0)), (some 4), none⟩])
 (.seq (.seq (.region [⟨.mov (.cst (.int .i64 0)), (some 5), none⟩])
 (.block 0
  (.loop t58L0)))
 (.seq (.region [o_ (.mov (.loc 3)), o_ (.call true false 62 [(.reg 0)]), ⟨.mov (.reg 1), (some 2), none⟩])
 .ret)))))⟩
theorem c58 : compFunc Tryd.prog opts a58 Tryd.f58 = some t58 := by kernel_rfl
def a59 : Ann := { slots := [0, 1, 2], lb := [2, 1], mu := [], trunc := [], draws := [] }
def t59 : TFunc := ⟨1, 3, [.cell 2 2 true],
 (.seq (.region [o_ (.boxL 1 (.loc 0)), o_ (.allocL 2 [(.bool false), (.sl .nil [])])])
 (.seq (.region [o_ (.fieldAddr 0 (.loc 1)), o_ (.load1 (.reg 0)), o_ (.un .not (.reg 1)), o_ (.fieldAddr 1 (.loc 1)), o_ (.load1 (.reg 3)), o_ (.call true false 43 [(.reg 2), (.reg 4)]), o_ (.store 2 (.loc 2) (.reg 5))])
 .ret))⟩
theorem c59 : compFunc Tryd.prog opts a59 Tryd.f59 = some t59 := by kernel_rfl
def a60 : Ann := { slots := [0, 1, 2, 6, 7, 8, 12, 31], lb := [], mu := [], trunc := [], draws := [] }
def t60L0 : TCode := (.seq (.seq (.region [o_ (.mov (.loc 2)), ⟨.bin .gtr (.reg 0) (.cst (.int .i64 0)), (some 7), none⟩])
   (.cond (.loc 7)
    .skip
    (.exit 2)))
   (.block 3
    (.seq (.region [o_ (.mov (.loc 4)), o_ (.mov (.loc 2)), o_ (.bin .rem (.reg 1) (.cst (.int .i64 10))), o_ (.lit false [(.int .i64 0)] 1 [(0, (.reg 2))]), o_ (.append false 1 8 3 (.reg 0) (.reg 3)), ⟨.mov (.reg 4), (some 4), none⟩])
    (.region [o_ (.mov (.loc 2)), o_ (.bin .quo (.reg 0) (.cst (.int .i64 10))), ⟨.mov (.reg 1), (some 2), none⟩]))))
def t60L1 : TCode := (.seq (.seq (.region [o_ (.mov (.loc 5)), o_ (.mov (.loc 0)), o_ (.len .sl (.reg 1)), ⟨.bin .lss (.reg 0) (.reg 2), (some 6), none⟩])
   (.cond (.loc 6)
    .skip
    (.exit 0)))
   (.seq (.block 1
    (.seq (.region [o_ (.mov (.loc 2)), o_ (.mov (.loc 0)), o_ (.mov (.loc 5)), o_ (.indexAddrS 1 (.reg 1) (.reg 2)), o_ (.load1 (.reg 3)), o_ (.mov (.loc 1)), o_ (.bin .mul (.reg 4) (.reg 5)), o_ (.bin .add (.reg 0) (.reg 6)), ⟨.mov (.reg 7), (some 2), none⟩])
    (.seq (.region [o_ (.mov (.loc 4)), o_ (.mov (.loc 2)), o_ (.bin .rem (.reg 1) (.cst (.int .i64 10))), o_ (.lit false [(.int .i64 0)] 1 [(0, (.reg 2))]), o_ (.append false 1 8 3 (.reg 0) (.reg 3)), ⟨.mov (.reg 4), (some 4), none⟩])
    (.region [o_ (.mov (.loc 2)), o_ (.bin .quo (.reg 0) (.cst (.int .i64 10))), ⟨.mov (.reg 1), (some 2), none⟩]))))
   (.region [o_ (.mov (.loc 5)), o_ (.bin .add (.reg 0) (.cst (.int .i64 1))), ⟨.mov (.reg 1), (some 5), none⟩])))
def t60 : TFunc := ⟨3, 8, [.loc 3],
 (.seq (.region [⟨.mov (.cst (.sl .nil [])), (some 3), none⟩])
 (.seq (.region [⟨.mov (.cst (.sl .nil [])), (some 4), none⟩])
 (.seq (.seq (.region [⟨.mov (.cst (.int .i64 0)), (some 5), none⟩])
 (.block 0
  (.loop t60L1)))
 (.seq (.block 2
  (.loop t60L0))
 (.seq (.region [o_ (.mov (.loc 4)), ⟨.mov (.reg 0), (some 3), none⟩])
 .ret)))))⟩
theorem c60 : compFunc Tryd.prog opts a60 Tryd.f60 = some t60 := by kernel_rfl
def a61 : Ann := { slots := [0, 1, 4, 5, 6, 7, 8, 9, 10, 11, 12, 13, 22, 46, 87], lb := [], mu := [], trunc := [], draws := [(4, ⟨[0, 0, 2, 7, 0, 0, 32, 127, 255, 511, 1023], [0, 1, 2, 4, 5, 6], [(3, [], []), (7, [], []), (8, [], [9, 10])]⟩), (10, ⟨[0, 0, 0, 6, 15, 31, 63, 127, 0, 0, 0, 1536, 3584, 7936, 16128, 32512, 65535, 131071], [0, 1, 2, 3, 4, 5, 6, 7, 8, 9, 10, 11, 12, 13, 14, 15, 16, 17], []⟩), (12, ⟨[0, 0, 3, 7, 0, 0, 0, 0, 192, 448, 1008, 2047, 4095], [0, 1, 4, 5, 6, 7, 8, 9, 10], [(2, [10], []), (3, [10], []), (11, [], [12])]⟩), (14, ⟨[0, 0, 0, 0, 12, 28, 63, 0, 0, 384, 896, 2047, 4095], [0, 1, 2, 3, 4, 5, 6, 7, 8], [(9, [6], []), (10, [6], []), (11, [], [12])]⟩)] }
def t61L0 : TCode := (.seq (.seq (.draw [0, 1, 4, 5, 6, 7, 8, 9, 10] [(2, [10], []), (3, [10], []), (11, [], [12])] [o_ (.mov (.loc 6)), o_ (.mov (.loc 10)), o_ (.call false false 41 [(.reg 0), (.reg 1), (.cst (.int .u32 0))]), o_ (.call false false 40 [(.reg 2)]), o_ (.mov (.loc 5)), o_ (.mov (.loc 8)), o_ (.mov (.loc 8)), o_ (.mov (.loc 7)), o_ (.bin .add (.reg 6) (.reg 7)), o_ (.bin .add (.reg 8) (.cst (.int .i64 1))), o_ (.slice (.sl 1) (.reg 4) (some (.reg 5)) (some (.reg 9)) none), o_ (.call true false 54 [(.reg 3), (.reg 10)]), ⟨.bin .gtr (.reg 11) (.cst (.int .i64 0)), (some 14), none⟩])
      (.cond (.loc 14)
       .skip
       (.exit 4)))
      (.block 5
       (.region [o_ (.mov (.loc 10)), o_ (.bin .sub (.reg 0) (.cst (.int .u32 1))), ⟨.mov (.reg 1), (some 10), none⟩])))
def t61L1 : TCode := (.seq (.seq (.region [o_ (.mov (.loc 8)), ⟨.bin .geq (.reg 0) (.cst (.int .i64 0)), (some 13), none⟩])
   (.cond (.loc 13)
    .skip
    (.exit 2)))
   (.seq (.block 3
    (.seq (.draw [0, 1, 2, 3, 4, 5, 6, 7, 8, 9, 10, 11, 12, 13, 14, 15, 16, 17] [] [o_ (.mov (.loc 5)), o_ (.mov (.loc 8)), o_ (.mov (.loc 7)), o_ (.bin .add (.reg 1) (.reg 2)), o_ (.indexAddrS 1 (.reg 0) (.reg 3)), o_ (.load1 (.reg 4)), o_ (.conv (.toInt .u32) (.reg 5)), o_ (.bin .shl (.reg 6) (.cst (.int .u64 16))), o_ (.mov (.loc 5)), o_ (.mov (.loc 8)), o_ (.mov (.loc 7)), o_ (.bin .add (.reg 9) (.reg 10)), o_ (.bin .sub (.reg 11) (.cst (.int .i64 1))), o_ (.indexAddrS 1 (.reg 8) (.reg 12)), o_ (.load1 (.reg 13)), o_ (.conv (.toInt .u32) (.reg 14)), o_ (.bin .or (.reg 7) (.reg 15)), ⟨.mov (.reg 16), (some 9), none⟩])
    (.seq (.region [o_ (.mov (.loc 9)), o_ (.mov (.loc 6)), o_ (.mov (.loc 7)), o_ (.bin .sub (.reg 2) (.cst (.int .i64 1))), o_ (.indexAddrS 1 (.reg 1) (.reg 3)), o_ (.load1 (.reg 4)), o_ (.conv (.toInt .u32) (.reg 5)), o_ (.bin .quo (.reg 0) (.reg 6)), o_ (.minmax false [(.reg 7), (.cst (.int .u32 65535))]), ⟨.mov (.reg 8), (some 10), none⟩])
    (.seq (.block 4
     (.loop t61L0))
    (.seq (.draw [0, 1, 2, 3, 4, 5, 6, 7, 8] [(9, [6], []), (10, [6], []), (11, [], [12])] [o_ (.mov (.loc 5)), o_ (.mov (.loc 8)), o_ (.mov (.loc 8)), o_ (.mov (.loc 7)), o_ (.bin .add (.reg 2) (.reg 3)), o_ (.bin .add (.reg 4) (.cst (.int .i64 1))), o_ (.slice (.sl 1) (.reg 0) (some (.reg 1)) (some (.reg 5)) none), o_ (.mov (.loc 6)), o_ (.mov (.loc 10)), o_ (.call false false 41 [(.reg 7), (.reg 8), (.cst (.int .u32 0))]), o_ (.call false false 40 [(.reg 9)]), o_ (.call false false 55 [(.reg 6), (.reg 10)]), ⟨.mov (.reg 11), (some 11), none⟩])
    (.seq (.region [o_ (.mov (.loc 5)), o_ (.mov (.loc 8)), o_ (.mov (.loc 8)), o_ (.mov (.loc 7)), o_ (.bin .add (.reg 2) (.reg 3)), o_ (.bin .add (.reg 4) (.cst (.int .i64 1))), o_ (.slice (.sl 1) (.reg 0) (some (.reg 1)) (some (.reg 5)) none), o_ (.mov (.loc 11)), o_ (.copy 1 (.reg 6) (.reg 7))])
    (.region [o_ (.mov (.loc 2)), o_ (.mov (.loc 8)), o_ (.mov (.loc 10)), o_ (.conv (.toInt .u16) (.reg 2)), o_ (.indexAddrS 1 (.reg 0) (.reg 1)), o_ (.store 1 (.reg 4) (.reg 3))])))))))
   (.region [o_ (.mov (.loc 8)), o_ (.bin .sub (.reg 0) (.cst (.int .i64 1))), ⟨.mov (.reg 1), (some 8), none⟩])))
def t61L2 : TCode := (.seq (.seq (.region [o_ (.mov (.loc 1)), o_ (.mov (.loc 1)), o_ (.len .sl (.reg 1)), o_ (.bin .sub (.reg 2) (.cst (.int .i64 1))), o_ (.indexAddrS 1 (.reg 0) (.reg 3)), o_ (.load1 (.reg 4)), o_ (.mov (.loc 4)), o_ (.bin .shl (.reg 5) (.reg 6)), ⟨.bin .lss (.reg 7) (.cst (.int .u16 32768)), (some 12), none⟩])
   (.cond (.loc 12)
    .skip
    (.exit 0)))
   (.block 1
    (.region [o_ (.mov (.loc 4)), o_ (.bin .add (.reg 0) (.cst (.int .i64 1))), ⟨.mov (.reg 1), (some 4), none⟩])))
def t61 : TFunc := ⟨2, 15, [.loc 2, .loc 3],
 (.seq (.region [⟨.mov (.cst (.sl .nil [])), (some 2), none⟩, ⟨.mov (.cst (.sl .nil [])), (some 3), none⟩])
 (.seq (.region [⟨.mov (.cst (.int .i64 0)), (some 4), none⟩])
 (.seq (.block 0
  (.loop t61L2))
 (.seq (.draw [0, 1, 2, 4, 5, 6] [(3, [], []), (7, [], []), (8, [], [9, 10])] [o_ (.mov (.loc 0)), o_ (.mov (.loc 4)), o_ (.bin .shl (.cst (.int .u32 1)) (.reg 1)), o_ (.call false false 41 [(.reg 0), (.reg 2), (.cst (.int .u32 0))]), o_ (.mov (.loc 1)), o_ (.mov (.loc 4)), o_ (.bin .shl (.cst (.int .u32 1)) (.reg 5)), o_ (.call false false 41 [(.reg 4), (.reg 6), (.cst (.int .u32 0))]), o_ (.call false false 40 [(.reg 7)]), ⟨.mov (.reg 3), (some 5), none⟩, ⟨.mov (.reg 8), (some 6), none⟩])
 (.seq (.region [o_ (.mov (.loc 6)), o_ (.len .sl (.reg 0)), ⟨.mov (.reg 1), (some 7), none⟩])
 (.seq (.region [o_ (.mov (.loc 5)), o_ (.len .sl (.reg 0)), o_ (.mov (.loc 7)), o_ (.bin .sub (.reg 1) (.reg 2)), o_ (.minmax true [(.cst (.int .i64 0)), (.reg 3)]), o_ (.mkSlice [(.int .u16 0)] 2 (.reg 4) (.reg 4)), ⟨.mov (.reg 5), (some 2), none⟩])
 (.seq (.seq (.region [o_ (.mov (.loc 2)), o_ (.len .sl (.reg 0)), o_ (.bin .sub (.reg 1) (.cst (.int .i64 1))), ⟨.mov (.reg 2), (some 8), none⟩])
 (.block 2
  (.loop t61L1)))
 (.seq (.region [o_ (.mov (.loc 5)), o_ (.mov (.loc 4)), o_ (.bin .shl (.cst (.int .u32 1)) (.reg 1)), o_ (.call false false 45 [(.reg 0), (.reg 2)]), o_ (.mov (.reg 3)), o_ (.extract 0 (.reg 4)), o_ (.extract 1 (.reg 4)), ⟨.mov (.reg 5), (some 3), none⟩])
 (.seq (.region [o_ (.mov (.loc 2)), o_ (.mov (.loc 3)), ⟨.mov (.reg 0), (some 2), none⟩, ⟨.mov (.reg 1), (some 3), none⟩])
 .ret)))))))))⟩
theorem c61 : compFunc Tryd.prog opts a61 Tryd.f61 = some t61 := by kernel_rfl
def a62 : Ann := { slots := [0, 2, 3, 15], lb := [], mu := [], trunc := [], draws := [] }
def t62L0 : TCode := (.seq (.seq (.region [o_ (.mov (.loc 2)), o_ (.bin .gtr (.reg 0) (.cst (.int .i64 0))), o_ (.mov (.reg 1)), ⟨.mov (.loc 0), none, (some (2, true))⟩, ⟨.mov (.loc 2), none, (some (2, true))⟩, ⟨.bin .sub (.reg 4) (.cst (.int .i64 1)), none, (some (2, true))⟩, ⟨.indexAddrS 1 (.reg 3) (.reg 5), none, (some (2, true))⟩, ⟨.load1 (.reg 6), none, (some (2, true))⟩, ⟨.bin .eql (.reg 7) (.cst (.int .i64 0)), none, (some (2, true))⟩, ⟨.pick (.reg 2) (.reg 8) (.cst (.bool false)), (some 3), none⟩])
   (.cond (.loc 3)
    .skip
    (.exit 0)))
   (.block 1
    (.region [o_ (.mov (.loc 2)), o_ (.bin .sub (.reg 0) (.cst (.int .i64 1))), ⟨.mov (.reg 1), (some 2), none⟩])))
def t62 : TFunc := ⟨1, 4, [.loc 1],
 (.seq (.region [⟨.mov (.cst (.sl .nil [])), (some 1), none⟩])
 (.seq (.region [o_ (.mov (.loc 0)), o_ (.len .sl (.reg 0)), ⟨.mov (.reg 1), (some 2), none⟩])
 (.seq (.block 0
  (.loop t62L0))
 (.seq (.region [o_ (.mov (.loc 0)), o_ (.mov (.loc 2)), o_ (.slice (.sl 1) (.reg 0) none (some (.reg 1)) none), ⟨.mov (.reg 2), (some 1), none⟩])
 .ret))))⟩
theorem c62 : compFunc Tryd.prog opts a62 Tryd.f62 = some t62 := by kernel_rfl
def a63 : Ann := { slots := [0, 1, 4, 13], lb := [], mu := [], trunc := [], draws := [] }
def t63L0 : TCode := (.seq (.seq (.region [o_ (.mov (.loc 0)), o_ (.len .str (.reg 0)), o_ (.bin .gtr (.reg 1) (.cst (.int .i64 0))), o_ (.mov (.reg 2)), ⟨.mov (.loc 0), none, (some (3, true))⟩, ⟨.indexS (.reg 4) (.cst (.int .i64 0)), none, (some (3, true))⟩, ⟨.mov (.loc 1), none, (some (3, true))⟩, ⟨.bin .eql (.reg 5) (.reg 6), none, (some (3, true))⟩, ⟨.pick (.reg 3) (.reg 7) (.cst (.bool false)), (some 3), none⟩])
   (.cond (.loc 3)
    .skip
    (.exit 0)))
   (.block 1
    (.region [o_ (.mov (.loc 0)), o_ (.slice .str (.reg 0) (some (.cst (.int .i64 1))) none none), ⟨.mov (.reg 1), (some 0), none⟩])))
def t63 : TFunc := ⟨2, 4, [.loc 2],
 (.seq (.region [⟨.mov (.cst (.str [])), (some 2), none⟩])
 (.seq (.block 0
  (.loop t63L0))
 (.seq (.region [o_ (.mov (.loc 0)), ⟨.mov (.reg 0), (some 2), none⟩])
 .ret)))⟩
theorem c63 : compFunc Tryd.prog opts a63 Tryd.f63 = some t63 := by kernel_rfl
def a64 : Ann := { slots := [0, 2, 3, 4, 5, 9, 16], lb := [2], mu := [], trunc := [], draws := [] }
def t64L0 : TCode := (.seq (.seq (.region [o_ (.mov (.loc 3)), o_ (.mov (.loc 0)), o_ (.len .str (.reg 1)), ⟨.bin .lss (.reg 0) (.reg 2), (some 5), none⟩])
   (.cond (.loc 5)
    .skip
    (.exit 0)))
   (.seq (.block 1
    (.seq (.region [o_ (.mov (.loc 0)), o_ (.mov (.loc 3)), o_ (.indexS (.reg 0) (.reg 1)), ⟨.mov (.reg 2), (some 4), none⟩])
    (.seq (.seq (.region [o_ (.mov (.loc 4)), ⟨.bin .geq (.reg 0) (.cst (.int .u8 128)), (some 6), none⟩])
    (.cond (.loc 6)
     (.seq (.region [o_ (.loadN 256 (.loc 1)), o_ (.store 256 (.loc 1) (.reg 0)), ⟨.mov (.cst (.bool false)), (some 2), none⟩])
     .ret)
     .skip))
    (.region [o_ (.mov (.loc 4)), o_ (.indexAddrA 256 1 (.loc 1) (.reg 0)), o_ (.store 1 (.reg 1) (.cst (.bool true)))]))))
   (.region [o_ (.mov (.loc 3)), o_ (.bin .add (.reg 0) (.cst (.int .i64 1))), ⟨.mov (.reg 1), (some 3), none⟩])))
def t64 : TFunc := ⟨1, 7, [.cell 1 256 true, .loc 2],
 (.seq (.region [o_ (.allocL 1 [(.bool false), (.bool false), (.bool false), (.bool false), (.bool false), (.bool false), (.bool false), (.bool false), (.bool false), (.bool false), (.bool false), (.bool false), (.bool false), (.bool false), (.bool false), (.bool false), (.bool false), (.bool false), (.bool false), (.bool false), (.bool false), (.bool false), (.bool false), (.bool false), (.bool false), (.bool false), (.bool false), (.bool false), (.bool false), (.bool false), (.bool false), (.bool false), (.bool false), (.bool false), (.bool false), (.bool false), (.bool false), (.bool false), (.bool false), (.bool false), (.bool false), (.bool false), (.bool false), (.bool false), (.bool false), (.bool false), (.bool false), (.bool false), (.bool false), (.bool false), (.bool false), (.bool false), (.bool false), (.bool false), (.bool false), (.bool false), (.bool false), (.bool false), (.bool false), (.bool false), (.bool false), (.bool false), (.bool false), (.bool false), (.bool false), (.bool false), (.bool false), (.bool false), (.bool false), (.bool false), (.bool false), (.bool false), (.bool false), (.bool false), (.bool false), (.bool false), (.bool false), (.bool false), (.bool false), (.bool false), (.bool false), (.bool false), (.bool false), (.bool false), (.bool false), (.bool false), (.bool false), (.bool false), (.bool false), (.bool false), (.bool false), (.bool false), (.bool false), (.bool false), (.bool false), (.bool false), (.bool false), (.bool false), (.bool false), (.bool false), (.bool false), (.bool false), (.bool false), (.bool false), (.bool false), (.bool false), (.bool false), (.bool false), (.bool false), (.bool false), (.bool false), (.bool false), (.bool false), (.bool false), (.bool false), (.bool false), (.bool false), (.bool false), (.bool false), (.bool false), (.bool false), (.bool false), (.bool false), (.bool false), (.bool false), (.bool false), (.bool false), (.bool false), (.bool false), (.bool false), (.bool false), (.bool false), (.bool false), (.bool false), (.bool false), (.bool false), (.bool false), (.bool false), (.bool false), (.bool false), (.bool false), (.bool false), (.bool false), (.bool false), (.bool false), (.bool false), (.bool false), (.bool false), (.bool false), (.bool false), (.bool false), (.bool false), (.bool false), (.bool false), (.bool false), (.bool false), (.bool false), (.bool false), (.bool false), (.bool false), (.bool false), (.bool false), (.bool false), (.bool false), (.bool false), (.bool false), (.bool false), (.bool false), (.bool false), (.bool false), (.bool false), (.bool false), (.bool false), (.bool false), (.bool false), (.bool false), (.bool false), (.bool false), (.bool false), (.bool false), (.bool false), (.bool false), (.bool false), (.bool false), (.bool false), (.bool false), (.bool false), (.bool false), (.bool false), (.bool false), (.bool false), (.bool false), (.bool false), (.bool false), (.bool false), (.bool false), (.bool false), (.bool false), (.bool false), (.bool false), (.bool false), (.bool false), (.bool false), (.bool false), (.bool false), (.bool false), (.bool false), (.bool false), (.bool false), (.bool false), (.bool false), (.bool false), (.bool false), (.bool false), (.bool false), (.bool false), (.bool false), (.bool false), (.bool false), (.bool false), (.bool false), (.bool false), (.bool false), (.bool false), (.bool false), (.bool false), (.bool false), (.bool false), (.bool false), (.bool false), (.bool false), (.bool false), (.bool false), (.bool false), (.bool false), (.bool false), (.bool false), (.bool false), (.bool false), (.bool false), (.bool false), (.bool false), (.bool false), (.bool false), (.bool false), (.bool false), (.bool false), (.bool false), (.bool false), (.bool false), (.bool false), (.bool false), (.bool false), (.bool false), (.bool false), (.bool false)]), ⟨.mov (.cst (.bool false)), (some 2), none⟩])
 (.seq (.seq (.region [⟨.mov (.cst (.int .i64 0)), (some 3), none⟩])
 (.block 0
  (.loop t64L0)))
 (.seq (.region [o_ (.loadN 256 (.loc 1)), o_ (.store 256 (.loc 1) (.reg 0)), ⟨.mov (.cst (.bool true)), (some 2), none⟩])
 .ret)))⟩
theorem c64 : compFunc Tryd.prog opts a64 Tryd.f64 = some t64 := by kernel_rfl
def a65 : Ann := { slots := [0, 1, 4, 7, 12], lb := [], mu := [], trunc := [], draws := [] }
def t65L0 : TCode := (.seq (.seq (.region [o_ (.mov (.loc 0)), o_ (.len .str (.reg 0)), ⟨.bin .gtr (.reg 1) (.cst (.int .i64 0)), (some 3), none⟩])
   (.cond (.loc 3)
    .skip
    (.exit 0)))
   (.block 1
    (.seq (.seq (.region [o_ (.mov (.loc 1)), o_ (.mov (.loc 0)), o_ (.indexS (.reg 1) (.cst (.int .i64 0))), o_ (.call false false 80 [(.reg 0), (.reg 2)]), ⟨.un .not (.reg 3), (some 4), none⟩])
    (.cond (.loc 4)
     (.exit 0)
     .skip))
    (.region [o_ (.mov (.loc 0)), o_ (.slice .str (.reg 0) (some (.cst (.int .i64 1))) none none), ⟨.mov (.reg 1), (some 0), none⟩]))))
def t65 : TFunc := ⟨2, 5, [.loc 2],
 (.seq (.region [⟨.mov (.cst (.str [])), (some 2), none⟩])
 (.seq (.block 0
  (.loop t65L0))
 (.seq (.region [o_ (.mov (.loc 0)), ⟨.mov (.reg 0), (some 2), none⟩])
 .ret)))⟩
theorem c65 : compFunc Tryd.prog opts a65 Tryd.f65 = some t65 := by kernel_rfl
def a66 : Ann := { slots := [0, 1, 4, 5, 6, 9, 18], lb := [], mu := [], trunc := [], draws := [] }
def t66L0 : TCode := (.seq (.seq (.region [o_ (.mov (.loc 0)), o_ (.len .str (.reg 0)), ⟨.bin .gtr (.reg 1) (.cst (.int .i64 0)), (some 5), none⟩])
   (.cond (.loc 5)
    .skip
    (.exit 0)))
   (.block 1
    (.seq (.region [o_ (.mov (.loc 0)), o_ (.call true false 81 [(.reg 0)]), o_ (.mov (.reg 1)), o_ (.extract 0 (.reg 2)), o_ (.extract 1 (.reg 2)), ⟨.mov (.reg 3), (some 3), none⟩, ⟨.mov (.reg 4), (some 4), none⟩])
    (.seq (.seq (.region [o_ (.mov (.loc 1)), o_ (.mov (.loc 3)), o_ (.call true false 82 [(.reg 0), (.reg 1)]), ⟨.un .not (.reg 2), (some 6), none⟩])
    (.cond (.loc 6)
     (.exit 0)
     .skip))
    (.region [o_ (.mov (.loc 0)), o_ (.mov (.loc 4)), o_ (.slice .str (.reg 0) (some (.reg 1)) none none), ⟨.mov (.reg 2), (some 0), none⟩])))))
def t66 : TFunc := ⟨2, 7, [.loc 2],
 (.seq (.region [⟨.mov (.cst (.str [])), (some 2), none⟩])
 (.seq (.block 0
  (.loop t66L0))
 (.seq (.region [o_ (.mov (.loc 0)), ⟨.mov (.reg 0), (some 2), none⟩])
 .ret)))⟩
theorem c66 : compFunc Tryd.prog opts a66 Tryd.f66 = some t66 := by kernel_rfl
def a67 : Ann := { slots := [0, 2, 3, 4, 5, 6, 14], lb := [], mu := [], trunc := [], draws := [] }
def t67L0 : TCode := (.seq (.seq (.region [o_ (.mov (.loc 5)), ⟨.bin .geq (.reg 0) (.cst (.int .i64 0)), (some 6), none⟩])
   (.cond (.loc 6)
    .skip
    (.exit 0)))
   (.seq (.block 1
    (.seq (.region [o_ (.mov (.loc 4)), o_ (.bin .mul (.cst (.int .i64 10)) (.reg 0)), o_ (.mov (.loc 0)), o_ (.mov (.loc 5)), o_ (.indexAddrS 1 (.reg 2) (.reg 3)), o_ (.load1 (.reg 4)), o_ (.bin .add (.reg 1) (.reg 5)), ⟨.mov (.reg 6), (some 4), none⟩])
    (.seq (.region [o_ (.mov (.loc 3)), o_ (.mov (.loc 5)), o_ (.mov (.loc 4)), o_ (.bin .quo (.reg 2) (.cst (.int .i64 65536))), o_ (.indexAddrS 1 (.reg 0) (.reg 1)), o_ (.store 1 (.reg 4) (.reg 3))])
    (.region [o_ (.mov (.loc 4)), o_ (.bin .rem (.reg 0) (.cst (.int .i64 65536))), ⟨.mov (.reg 1), (some 4), none⟩]))))
   (.region [o_ (.mov (.loc 5)), o_ (.bin .sub (.reg 0) (.cst (.int .i64 1))), ⟨.mov (.reg 1), (some 5), none⟩])))
def t67 : TFunc := ⟨1, 7, [.loc 1, .loc 2],
 (.seq (.region [⟨.mov (.cst (.sl .nil [])), (some 1), none⟩, ⟨.mov (.cst (.int .i64 0)), (some 2), none⟩])
 (.seq (.region [o_ (.mov (.loc 0)), o_ (.len .sl (.reg 0)), o_ (.mkSlice [(.int .i64 0)] 8 (.reg 1) (.reg 1)), ⟨.mov (.reg 2), (some 3), none⟩])
 (.seq (.region [⟨.mov (.cst (.int .i64 0)), (some 4), none⟩])
 (.seq (.seq (.region [o_ (.mov (.loc 0)), o_ (.len .sl (.reg 0)), o_ (.bin .sub (.reg 1) (.cst (.int .i64 1))), ⟨.mov (.reg 2), (some 5), none⟩])
 (.block 0
  (.loop t67L0)))
 (.seq (.region [o_ (.mov (.loc 3)), o_ (.call true false 62 [(.reg 0)]), o_ (.mov (.loc 4)), ⟨.mov (.reg 1), (some 1), none⟩, ⟨.mov (.reg 2), (some 2), none⟩])
 .ret)))))⟩
theorem c67 : compFunc Tryd.prog opts a67 Tryd.f67 = some t67 := by kernel_rfl
def a68 : Ann := { slots := [0, 2], lb := [], mu := [], trunc := [], draws := [] }
def t68 : TFunc := ⟨1, 2, [.loc 1],
 (.seq (.region [⟨.mov (.cst (.str [])), (some 1), none⟩])
 (.seq (.region [o_ (.mov (.loc 0)), o_ (.call true false 83 [(.reg 0), (.cst (.int .i64 10))]), ⟨.mov (.reg 1), (some 1), none⟩])
 .ret))⟩
theorem c68 : compFunc Tryd.prog opts a68 Tryd.f68 = some t68 := by kernel_rfl
def a69 : Ann := { slots := [0, 1, 4, 5, 6, 7, 8, 9], lb := [], mu := [], trunc := [], draws := [] }
def t69 : TFunc := ⟨2, 8, [.loc 2, .loc 3],
 (.seq (.region [⟨.mov (.cst (.int .u64 0)), (some 2), none⟩, ⟨.mov (.cst (.int .u64 0)), (some 3), none⟩])
 (.seq (.cond (.cst (.bool false))
  (.seq (.region [o_ (.mov (.loc 0)), o_ (.conv (.toInt .u32) (.reg 0)), o_ (.mov (.loc 1)), o_ (.conv (.toInt .u32) (.reg 2)), o_ (.call true false 84 [(.reg 1), (.reg 3)]), o_ (.mov (.reg 4)), o_ (.extract 0 (.reg 5)), o_ (.extract 1 (.reg 5)), ⟨.mov (.reg 6), (some 4), none⟩, ⟨.mov (.reg 7), (some 5), none⟩])
  (.seq (.region [o_ (.mov (.loc 4)), o_ (.conv (.toInt .u64) (.reg 0)), o_ (.mov (.loc 5)), o_ (.conv (.toInt .u64) (.reg 2)), ⟨.mov (.reg 1), (some 2), none⟩, ⟨.mov (.reg 3), (some 3), none⟩])
  .ret))
  .skip)
 (.seq (.region [o_ (.mov (.loc 0)), o_ (.mov (.loc 1)), o_ (.call true false 85 [(.reg 0), (.reg 1)]), o_ (.mov (.reg 2)), o_ (.extract 0 (.reg 3)), o_ (.extract 1 (.reg 3)), ⟨.mov (.reg 4), (some 6), none⟩, ⟨.mov (.reg 5), (some 7), none⟩])
 (.seq (.region [o_ (.mov (.loc 6)), o_ (.mov (.loc 7)), ⟨.mov (.reg 0), (some 2), none⟩, ⟨.mov (.reg 1), (some 3), none⟩])
 .ret))))⟩
theorem c69 : compFunc Tryd.prog opts a69 Tryd.f69 = some t69 := by kernel_rfl
def a70 : Ann := { slots := [0, 1, 4], lb := [], mu := [], trunc := [], draws := [] }
def t70 : TFunc := ⟨2, 3, [.loc 2],
 (.seq (.region [⟨.mov (.cst (.bool false)), (some 2), none⟩])
 (.seq (.region [o_ (.mov (.loc 0)), o_ (.mov (.loc 1)), o_ (.call true false 86 [(.reg 0), (.reg 1)]), ⟨.mov (.reg 2), (some 2), none⟩])
 .ret))⟩
theorem c70 : compFunc Tryd.prog opts a70 Tryd.f70 = some t70 := by kernel_rfl
def a71 : Ann := { slots := [0, 1, 7, 21], lb := [], mu := [], trunc := [], draws := [(3, ⟨[0, 1, 3, 7, 15, 0, 32, 96, 224, 480, 1023, 0, 4095], [0, 1, 2, 3, 4, 5, 6, 7, 8, 9, 10, 11, 12], []⟩)] }
def t71 : TFunc := ⟨2, 4, [],
 (.seq (.region [o_ (.mov (.loc 0)), o_ (.prim 87 [(.reg 0)])])
 (.seq (.seq (.region [o_ (.mov (.loc 1)), ⟨.bin .lss (.reg 0) (.cst (.int .i64 0)), (some 2), none⟩])
 (.cond (.loc 2)
  (.region [o_ (.bad), o_ (.bad)])
  .skip))
 (.seq (.draw [0, 1, 2, 3, 4, 5, 6, 7, 8, 9, 10, 11, 12] [] [o_ (.mov (.loc 0)), o_ (.nilCheck (.reg 0)), o_ (.fieldAddr 1 (.reg 1)), o_ (.load1 (.reg 2)), o_ (.cap (.reg 3)), o_ (.mov (.loc 0)), o_ (.nilCheck (.reg 5)), o_ (.fieldAddr 1 (.reg 6)), o_ (.load1 (.reg 7)), o_ (.len .sl (.reg 8)), o_ (.bin .sub (.reg 4) (.reg 9)), o_ (.mov (.loc 1)), ⟨.bin .lss (.reg 10) (.reg 11), (some 3), none⟩])
 (.cond (.loc 3)
  (.region [o_ (.mov (.loc 0)), o_ (.mov (.loc 1)), o_ (.call false false 88 [(.reg 0), (.reg 1)])])
  .skip))))⟩
theorem c71 : compFunc Tryd.prog opts a71 Tryd.f71 = some t71 := by kernel_rfl
def a72 : Ann := { slots := [0, 1, 4, 5], lb := [], mu := [], trunc := [], draws := [] }
def t72 : TFunc := ⟨2, 4, [.loc 2, .loc 3],
 (.seq (.region [⟨.mov (.cst (.int .i64 0)), (some 2), none⟩, ⟨.mov (.cst .nili), (some 3), none⟩])
 (.seq (.region [o_ (.mov (.loc 0)), o_ (.prim 87 [(.reg 0)])])
 (.seq (.region [o_ (.mov (.loc 0)), o_ (.mov (.loc 0)), o_ (.nilCheck (.reg 1)), o_ (.fieldAddr 1 (.reg 2)), o_ (.load1 (.reg 3)), o_ (.mov (.loc 1)), o_ (.append false 1 1 5 (.reg 4) (.reg 5)), o_ (.nilCheck (.reg 0)), o_ (.fieldAddr 1 (.reg 7)), o_ (.store 1 (.reg 8) (.reg 6))])
 (.seq (.region [o_ (.mov (.loc 1)), o_ (.len .str (.reg 0)), ⟨.mov (.reg 1), (some 2), none⟩, ⟨.mov (.cst .nili), (some 3), none⟩])
 .ret))))⟩
theorem c72 : compFunc Tryd.prog opts a72 Tryd.f72 = some t72 := by kernel_rfl
def a73 : Ann := { slots := [0, 2], lb := [], mu := [], trunc := [], draws := [] }
def t73 : TFunc := ⟨1, 2, [.loc 1],
 (.seq (.region [⟨.mov (.cst (.int .i64 0)), (some 1), none⟩])
 (.seq (.region [o_ (.mov (.loc 0)), o_ (.nilCheck (.reg 0)), o_ (.fieldAddr 1 (.reg 1)), o_ (.load1 (.reg 2)), o_ (.len .sl (.reg 3)), ⟨.mov (.reg 4), (some 1), none⟩])
 .ret))⟩
theorem c73 : compFunc Tryd.prog opts a73 Tryd.f73 = some t73 := by kernel_rfl
def a76 : Ann := { slots := [0, 1, 4, 8], lb := [], mu := [], trunc := [], draws := [] }
def t76 : TFunc := ⟨2, 4, [.loc 2],
 (.seq (.region [⟨.mov (.cst (.int .u32 0)), (some 2), none⟩])
 (.seq (.seq (.region [o_ (.mov (.loc 1)), o_ (.mov (.loc 0)), o_ (.len .sl (.reg 1)), ⟨.bin .geq (.reg 0) (.reg 2), (some 3), none⟩])
 (.cond (.loc 3)
  (.seq (.region [⟨.mov (.cst (.int .u32 0)), (some 2), none⟩])
  .ret)
  .skip))
 (.seq (.region [o_ (.mov (.loc 0)), o_ (.mov (.loc 1)), o_ (.indexAddrS 1 (.reg 0) (.reg 1)), o_ (.load1 (.reg 2)), o_ (.conv (.toInt .u32) (.reg 3)), ⟨.mov (.reg 4), (some 2), none⟩])
 .ret)))⟩
theorem c76 : compFunc Tryd.prog opts a76 Tryd.f76 = some t76 := by kernel_rfl
def a77 : Ann := { slots := [0, 1, 4, 5, 6, 11, 12, 13, 16, 19], lb := [], mu := [], trunc := [], draws := [] }
def t77 : TFunc := ⟨2, 10, [.loc 2],
 (.seq (.region [⟨.mov (.cst (.int .i64 0)), (some 2), none⟩])
 (.seq (.region [o_ (.mov (.loc 0)), o_ (.call true false 89 [(.reg 0)]), ⟨.mov (.reg 1), (some 3), none⟩])
 (.seq (.region [o_ (.mov (.loc 1)), o_ (.call true false 89 [(.reg 0)]), ⟨.mov (.reg 1), (some 4), none⟩])
 (.seq (.seq (.region [⟨.mov (.loc 3), (some 5), none⟩])
 (.cond (.loc 5)
  (.seq (.seq (.region [⟨.mov (.loc 4), (some 6), none⟩])
  (.cond (.loc 6)
   (.seq (.region [⟨.mov (.cst (.int .i64 0)), (some 2), none⟩])
   .ret)
   .skip))
  (.seq (.region [⟨.mov (.cst (.int .i64 (-1))), (some 2), none⟩])
  .ret))
  .skip))
 (.seq (.seq (.region [⟨.mov (.loc 4), (some 7), none⟩])
 (.cond (.loc 7)
  (.seq (.region [⟨.mov (.cst (.int .i64 1)), (some 2), none⟩])
  .ret)
  .skip))
 (.seq (.seq (.region [o_ (.mov (.loc 0)), o_ (.mov (.loc 1)), ⟨.bin .lss (.reg 0) (.reg 1), (some 8), none⟩])
 (.cond (.loc 8)
  (.seq (.region [⟨.mov (.cst (.int .i64 (-1))), (some 2), none⟩])
  .ret)
  .skip))
 (.seq (.seq (.region [o_ (.mov (.loc 0)), o_ (.mov (.loc 1)), ⟨.bin .gtr (.reg 0) (.reg 1), (some 9), none⟩])
 (.cond (.loc 9)
  (.seq (.region [⟨.mov (.cst (.int .i64 1)), (some 2), none⟩])
  .ret)
  .skip))
 (.seq (.region [⟨.mov (.cst (.int .i64 0)), (some 2), none⟩])
 .ret))))))))⟩
theorem c77 : compFunc Tryd.prog opts a77 Tryd.f77 = some t77 := by kernel_rfl
def a78 : Ann := { slots := [0, 1, 4, 5, 6, 11, 12, 13, 16, 19], lb := [], mu := [], trunc := [], draws := [] }
def t78 : TFunc := ⟨2, 10, [.loc 2],
 (.seq (.region [⟨.mov (.cst (.int .i64 0)), (some 2), none⟩])
 (.seq (.region [o_ (.mov (.loc 0)), o_ (.call true false 90 [(.reg 0)]), ⟨.mov (.reg 1), (some 3), none⟩])
 (.seq (.region [o_ (.mov (.loc 1)), o_ (.call true false 90 [(.reg 0)]), ⟨.mov (.reg 1), (some 4), none⟩])
 (.seq (.seq (.region [⟨.mov (.loc 3), (some 5), none⟩])
 (.cond (.loc 5)
  (.seq (.seq (.region [⟨.mov (.loc 4), (some 6), none⟩])
  (.cond (.loc 6)
   (.seq (.region [⟨.mov (.cst (.int .i64 0)), (some 2), none⟩])
   .ret)
   .skip))
  (.seq (.region [⟨.mov (.cst (.int .i64 (-1))), (some 2), none⟩])
  .ret))
  .skip))
 (.seq (.seq (.region [⟨.mov (.loc 4), (some 7), none⟩])
 (.cond (.loc 7)
  (.seq (.region [⟨.mov (.cst (.int .i64 1)), (some 2), none⟩])
  .ret)
  .skip))
 (.seq (.seq (.region [o_ (.mov (.loc 0)), o_ (.mov (.loc 1)), ⟨.bin .lss (.reg 0) (.reg 1), (some 8), none⟩])
 (.cond (.loc 8)
  (.seq (.region [⟨.mov (.cst (.int .i64 (-1))), (some 2), none⟩])
  .ret)
  .skip))
 (.seq (.seq (.region [o_ (.mov (.loc 0)), o_ (.mov (.loc 1)), ⟨.bin .gtr (.reg 0) (.reg 1), (some 9), none⟩])
 (.cond (.loc 9)
  (.seq (.region [⟨.mov (.cst (.int .i64 1)), (some 2), none⟩])
  .ret)
  .skip))
 (.seq (.region [⟨.mov (.cst (.int .i64 0)), (some 2), none⟩])
 .ret))))))))⟩
theorem c78 : compFunc Tryd.prog opts a78 Tryd.f78 = some t78 := by kernel_rfl
def a79 : Ann := { slots := [0, 1, 4, 8], lb := [], mu := [], trunc := [], draws := [] }
def t79 : TFunc := ⟨2, 4, [.loc 2],
 (.seq (.region [⟨.mov (.cst (.int .i64 0)), (some 2), none⟩])
 (.seq (.seq (.region [o_ (.mov (.loc 1)), o_ (.mov (.loc 0)), o_ (.len .sl (.reg 1)), ⟨.bin .lss (.reg 0) (.reg 2), (some 3), none⟩])
 (.cond (.loc 3)
  (.seq (.region [o_ (.mov (.loc 0)), o_ (.mov (.loc 1)), o_ (.indexAddrS 1 (.reg 0) (.reg 1)), o_ (.load1 (.reg 2)), ⟨.mov (.reg 3), (some 2), none⟩])
  .ret)
  .skip))
 (.seq (.region [⟨.mov (.cst (.int .i64 0)), (some 2), none⟩])
 .ret)))⟩
theorem c79 : compFunc Tryd.prog opts a79 Tryd.f79 = some t79 := by kernel_rfl
def a80 : Ann := { slots := [0, 1, 4], lb := [], mu := [], trunc := [], draws := [] }
def t80 : TFunc := ⟨2, 3, [.loc 2],
 (.seq (.region [⟨.mov (.cst (.bool false)), (some 2), none⟩])
 (.seq (.region [o_ (.mov (.loc 0)), o_ (.mov (.loc 1)), o_ (.nilCheck (.reg 0)), o_ (.indexAddrA 256 1 (.reg 2) (.reg 1)), o_ (.load1 (.reg 3)), ⟨.mov (.reg 4), (some 2), none⟩])
 .ret))⟩
theorem c80 : compFunc Tryd.prog opts a80 Tryd.f80 = some t80 := by kernel_rfl
def a81 : Ann := { slots := [0, 2, 3, 10], lb := [], mu := [], trunc := [], draws := [] }
def t81 : TFunc := ⟨1, 4, [.loc 1, .loc 2],
 (.seq (.region [⟨.mov (.cst (.int .i32 0)), (some 1), none⟩, ⟨.mov (.cst (.int .i64 0)), (some 2), none⟩])
 (.seq (.seq (.region [o_ (.mov (.loc 0)), o_ (.bin .neq (.reg 0) (.cst (.str []))), o_ (.mov (.reg 1)), ⟨.mov (.loc 0), none, (some (2, true))⟩, ⟨.indexS (.reg 3) (.cst (.int .i64 0)), none, (some (2, true))⟩, ⟨.bin .lss (.reg 4) (.cst (.int .u8 128)), none, (some (2, true))⟩, ⟨.pick (.reg 2) (.reg 5) (.cst (.bool false)), (some 3), none⟩])
 (.cond (.loc 3)
  (.seq (.region [o_ (.mov (.loc 0)), o_ (.indexS (.reg 0) (.cst (.int .i64 0))), o_ (.conv (.toInt .i32) (.reg 1)), ⟨.mov (.reg 2), (some 1), none⟩, ⟨.mov (.cst (.int .i64 1)), (some 2), none⟩])
  .ret)
  (.region [o_ (.mov (.loc 0)), o_ (.call true false 91 [(.reg 0)]), o_ (.mov (.reg 1)), o_ (.extract 0 (.reg 2)), o_ (.extract 1 (.reg 2)), ⟨.mov (.reg 3), (some 1), none⟩, ⟨.mov (.reg 4), (some 2), none⟩])))
 .ret))⟩
theorem c81 : compFunc Tryd.prog opts a81 Tryd.f81 = some t81 := by kernel_rfl
def a82 : Ann := { slots := [0, 1, 4], lb := [], mu := [], trunc := [], draws := [] }
def t82 : TFunc := ⟨2, 3, [.loc 2],
 (.seq (.region [⟨.mov (.cst (.bool false)), (some 2), none⟩])
 (.seq (.region [o_ (.mov (.loc 0)), o_ (.mov (.loc 1)), o_ (.call true false 92 [(.reg 0), (.reg 1)]), o_ (.bin .geq (.reg 2) (.cst (.int .i64 0))), ⟨.mov (.reg 3), (some 2), none⟩])
 .ret))⟩
theorem c82 : compFunc Tryd.prog opts a82 Tryd.f82 = some t82 := by kernel_rfl
def a83 : Ann := { slots := [0, 1, 4, 5, 6, 7, 9, 11, 17, 23, 34], lb := [], mu := [], trunc := [], draws := [] }
def t83 : TFunc := ⟨2, 11, [.loc 2],
 (.seq (.region [⟨.mov (.cst (.str [])), (some 2), none⟩])
 (.seq (.seq (.region [o_ (.mov (.loc 1)), ⟨.bin .eql (.reg 0) (.cst (.int .i64 10)), (some 7), none⟩])
 (.cond (.loc 7)
  (.seq (.seq (.region [o_ (.mov (.loc 0)), o_ (.bin .leq (.cst (.int .i64 0)) (.reg 0)), o_ (.mov (.reg 1)), ⟨.mov (.loc 0), none, (some (2, true))⟩, ⟨.bin .lss (.reg 3) (.cst (.int .i64 100)), none, (some (2, true))⟩, ⟨.pick (.reg 2) (.reg 4) (.cst (.bool false)), (some 8), none⟩])
  (.cond (.loc 8)
   (.seq (.region [o_ (.mov (.loc 0)), o_ (.call true false 93 [(.reg 0)]), ⟨.mov (.reg 1), (some 2), none⟩])
   .ret)
   .skip))
  (.seq (.region [⟨.allocH 134 [(.int .u8 0), (.int .u8 0), (.int .u8 0), (.int .u8 0), (.int .u8 0), (.int .u8 0), (.int .u8 0), (.int .u8 0), (.int .u8 0), (.int .u8 0), (.int .u8 0), (.int .u8 0), (.int .u8 0), (.int .u8 0), (.int .u8 0), (.int .u8 0), (.int .u8 0), (.int .u8 0), (.int .u8 0), (.int .u8 0), (.int .u8 0), (.int .u8 0), (.int .u8 0), (.int .u8 0)], (some 3), none⟩])
  (.seq (.region [o_ (.mov (.loc 0)), o_ (.conv (.toInt .u64) (.reg 0)), ⟨.mov (.reg 1), (some 4), none⟩])
  (.seq (.seq (.region [o_ (.mov (.loc 0)), ⟨.bin .lss (.reg 0) (.cst (.int .i64 0)), (some 9), none⟩])
  (.cond (.loc 9)
   (.region [o_ (.mov (.loc 4)), o_ (.un .neg (.reg 0)), ⟨.mov (.reg 1), (some 4), none⟩])
   .skip))
  (.seq (.region [o_ (.mov (.loc 4)), o_ (.call true false 94 [(.reg 0)]), ⟨.mov (.reg 1), (some 5), none⟩])
  (.seq (.region [o_ (.mov (.loc 5)), o_ (.bin .add (.cst (.int .i64 1)) (.reg 0)), o_ (.slice (.arr 24 1) (.loc 3) (some (.cst (.int .i64 1))) (some (.reg 1)) none), o_ (.mov (.loc 4)), o_ (.call false false 95 [(.reg 2), (.reg 3)])])
  (.seq (.seq (.region [o_ (.mov (.loc 0)), ⟨.bin .lss (.reg 0) (.cst (.int .i64 0)), (some 10), none⟩])
  (.cond (.loc 10)
   (.seq (.region [o_ (.indexAddrA 24 1 (.loc 3) (.cst (.int .i64 0))), o_ (.store 1 (.reg 0) (.cst (.int .u8 45)))])
   (.seq (.region [o_ (.mov (.loc 5)), o_ (.bin .add (.cst (.int .i64 1)) (.reg 0)), o_ (.slice (.arr 24 1) (.loc 3) none (some (.reg 1)) none), o_ (.conv .bytesStr (.reg 2)), ⟨.mov (.reg 3), (some 2), none⟩])
   .ret))
   .skip))
  (.seq (.region [o_ (.mov (.loc 5)), o_ (.bin .add (.cst (.int .i64 1)) (.reg 0)), o_ (.slice (.arr 24 1) (.loc 3) (some (.cst (.int .i64 1))) (some (.reg 1)) none), o_ (.conv .bytesStr (.reg 2)), ⟨.mov (.reg 3), (some 2), none⟩])
  .ret))))))))
  .skip))
 (.seq (.region [o_ (.mov (.loc 0)), o_ (.conv (.toInt .u64) (.reg 0)), o_ (.mov (.loc 1)), o_ (.mov (.loc 0)), o_ (.bin .lss (.reg 3) (.cst (.int .i64 0))), o_ (.call true false 96 [(.cst (.sl .nil [])), (.reg 1), (.reg 2), (.reg 4), (.cst (.bool false))]), o_ (.mov (.reg 5)), o_ (.extract 0 (.reg 6)), o_ (.extract 1 (.reg 6)), o_ (.mov (.reg 7)), ⟨.mov (.reg 8), (some 6), none⟩])
 (.seq (.region [o_ (.mov (.loc 6)), ⟨.mov (.reg 0), (some 2), none⟩])
 .ret))))⟩
theorem c83 : compFunc Tryd.prog opts a83 Tryd.f83 = some t83 := by kernel_rfl
def a84 : Ann := { slots := [0, 1, 4, 5, 6], lb := [], mu := [], trunc := [], draws := [] }
def t84 : TFunc := ⟨2, 5, [.loc 2, .loc 3],
 (.seq (.region [⟨.mov (.cst (.int .u32 0)), (some 2), none⟩, ⟨.mov (.cst (.int .u32 0)), (some 3), none⟩])
 (.seq (.region [o_ (.mov (.loc 0)), o_ (.conv (.toInt .u64) (.reg 0)), o_ (.mov (.loc 1)), o_ (.conv (.toInt .u64) (.reg 2)), o_ (.bin .mul (.reg 1) (.reg 3)), ⟨.mov (.reg 4), (some 4), none⟩])
 (.seq (.region [o_ (.mov (.loc 4)), o_ (.bin .shr (.reg 0) (.cst (.int .u64 32))), o_ (.conv (.toInt .u32) (.reg 1)), o_ (.mov (.loc 4)), o_ (.conv (.toInt .u32) (.reg 3)), ⟨.mov (.reg 2), (some 2), none⟩, ⟨.mov (.reg 4), (some 3), none⟩])
 .ret)))⟩
theorem c84 : compFunc Tryd.prog opts a84 Tryd.f84 = some t84 := by kernel_rfl
def a85 : Ann := { slots := [0, 1, 4, 5, 6, 7, 8, 9, 10, 11, 12, 13], lb := [], mu := [], trunc := [], draws := [] }
def t85 : TFunc := ⟨2, 12, [.loc 2, .loc 3],
 (.seq (.region [⟨.mov (.cst (.int .u64 0)), (some 2), none⟩, ⟨.mov (.cst (.int .u64 0)), (some 3), none⟩])
 (.seq (.region [o_ (.mov (.loc 0)), o_ (.bin .and (.reg 0) (.cst (.int .u64 4294967295))), ⟨.mov (.reg 1), (some 4), none⟩])
 (.seq (.region [o_ (.mov (.loc 0)), o_ (.bin .shr (.reg 0) (.cst (.int .u64 32))), ⟨.mov (.reg 1), (some 5), none⟩])
 (.seq (.region [o_ (.mov (.loc 1)), o_ (.bin .and (.reg 0) (.cst (.int .u64 4294967295))), ⟨.mov (.reg 1), (some 6), none⟩])
 (.seq (.region [o_ (.mov (.loc 1)), o_ (.bin .shr (.reg 0) (.cst (.int .u64 32))), ⟨.mov (.reg 1), (some 7), none⟩])
 (.seq (.region [o_ (.mov (.loc 4)), o_ (.mov (.loc 6)), o_ (.bin .mul (.reg 0) (.reg 1)), ⟨.mov (.reg 2), (some 8), none⟩])
 (.seq (.region [o_ (.mov (.loc 5)), o_ (.mov (.loc 6)), o_ (.bin .mul (.reg 0) (.reg 1)), o_ (.mov (.loc 8)), o_ (.bin .shr (.reg 3) (.cst (.int .u64 32))), o_ (.bin .add (.reg 2) (.reg 4)), ⟨.mov (.reg 5), (some 9), none⟩])
 (.seq (.region [o_ (.mov (.loc 9)), o_ (.bin .and (.reg 0) (.cst (.int .u64 4294967295))), ⟨.mov (.reg 1), (some 10), none⟩])
 (.seq (.region [o_ (.mov (.loc 9)), o_ (.bin .shr (.reg 0) (.cst (.int .u64 32))), ⟨.mov (.reg 1), (some 11), none⟩])
 (.seq (.region [o_ (.mov (.loc 10)), o_ (.mov (.loc 4)), o_ (.mov (.loc 7)), o_ (.bin .mul (.reg 1) (.reg 2)), o_ (.bin .add (.reg 0) (.reg 3)), ⟨.mov (.reg 4), (some 10), none⟩])
 (.seq (.region [o_ (.mov (.loc 5)), o_ (.mov (.loc 7)), o_ (.bin .mul (.reg 0) (.reg 1)), o_ (.mov (.loc 11)), o_ (.bin .add (.reg 2) (.reg 3)), o_ (.mov (.loc 10)), o_ (.bin .shr (.reg 5) (.cst (.int .u64 32))), o_ (.bin .add (.reg 4) (.reg 6)), ⟨.mov (.reg 7), (some 2), none⟩])
 (.seq (.region [o_ (.mov (.loc 0)), o_ (.mov (.loc 1)), o_ (.bin .mul (.reg 0) (.reg 1)), ⟨.mov (.reg 2), (some 3), none⟩])
 .ret))))))))))))⟩
theorem c85 : compFunc Tryd.prog opts a85 Tryd.f85 = some t85 := by kernel_rfl
def a86 : Ann := { slots := [0, 1, 4], lb := [], mu := [], trunc := [], draws := [] }
def t86 : TFunc := ⟨2, 3, [.loc 2],
 (.seq (.region [⟨.mov (.cst (.bool false)), (some 2), none⟩])
 (.seq (.region [o_ (.mov (.loc 0)), o_ (.len .str (.reg 0)), o_ (.mov (.loc 1)), o_ (.len .str (.reg 2)), o_ (.bin .geq (.reg 1) (.reg 3)), o_ (.mov (.reg 4)), ⟨.mov (.loc 0), none, (some (5, true))⟩, ⟨.mov (.loc 1), none, (some (5, true))⟩, ⟨.len .str (.reg 7), none, (some (5, true))⟩, ⟨.slice .str (.reg 6) none (some (.reg 8)) none, none, (some (5, true))⟩, ⟨.mov (.loc 1), none, (some (5, true))⟩, ⟨.bin .eql (.reg 9) (.reg 10), none, (some (5, true))⟩, o_ (.pick (.reg 5) (.reg 11) (.cst (.bool false))), ⟨.mov (.reg 12), (some 2), none⟩])
 .ret))⟩
theorem c86 : compFunc Tryd.prog opts a86 Tryd.f86 = some t86 := by kernel_rfl
def a88 : Ann := { slots := [0, 1, 4], lb := [], mu := [], trunc := [], draws := [(0, ⟨[0, 1, 3, 7, 15, 31, 0, 127, 255, 0, 512, 1536, 3584, 7680, 16383, 32767], [0, 1, 2, 3, 4, 5, 6, 7, 9, 10, 11, 12, 13], [(8, [12, 13], [14, 15])]⟩)] }
def t88 : TFunc := ⟨2, 3, [],
 (.seq (.draw [0, 1, 2, 3, 4, 5, 6, 7, 9, 10, 11, 12, 13] [(8, [12, 13], [14, 15])] [o_ (.mov (.loc 0)), o_ (.nilCheck (.reg 0)), o_ (.fieldAddr 1 (.reg 1)), o_ (.load1 (.reg 2)), o_ (.cap (.reg 3)), o_ (.bin .mul (.cst (.int .i64 2)) (.reg 4)), o_ (.mov (.loc 1)), o_ (.bin .add (.reg 5) (.reg 6)), o_ (.prim 98 [(.reg 7)]), o_ (.mov (.loc 0)), o_ (.nilCheck (.reg 9)), o_ (.fieldAddr 1 (.reg 10)), o_ (.load1 (.reg 11)), o_ (.len .sl (.reg 12)), o_ (.slice (.sl 1) (.reg 8) none (some (.reg 13)) none), ⟨.mov (.reg 14), (some 2), none⟩])
 (.seq (.region [o_ (.mov (.loc 2)), o_ (.mov (.loc 0)), o_ (.nilCheck (.reg 1)), o_ (.fieldAddr 1 (.reg 2)), o_ (.load1 (.reg 3)), o_ (.copy 1 (.reg 0) (.reg 4))])
 (.region [o_ (.mov (.loc 0)), o_ (.mov (.loc 2)), o_ (.nilCheck (.reg 0)), o_ (.fieldAddr 1 (.reg 2)), o_ (.store 1 (.reg 3) (.reg 1))])))⟩
theorem c88 : compFunc Tryd.prog opts a88 Tryd.f88 = some t88 := by kernel_rfl
def a89 : Ann := { slots := [0, 2], lb := [], mu := [], trunc := [], draws := [] }
def t89 : TFunc := ⟨1, 2, [.loc 1],
 (.seq (.region [⟨.mov (.cst (.bool false)), (some 1), none⟩])
 (.seq (.region [o_ (.mov (.loc 0)), o_ (.mov (.loc 0)), o_ (.bin .neq (.reg 0) (.reg 1)), ⟨.mov (.reg 2), (some 1), none⟩])
 .ret))⟩
theorem c89 : compFunc Tryd.prog opts a89 Tryd.f89 = some t89 := by kernel_rfl
def a90 : Ann := { slots := [0, 2], lb := [], mu := [], trunc := [], draws := [] }
def t90 : TFunc := ⟨1, 2, [.loc 1],
 (.seq (.region [⟨.mov (.cst (.bool false)), (some 1), none⟩])
 (.seq (.region [o_ (.mov (.loc 0)), o_ (.mov (.loc 0)), o_ (.bin .neq (.reg 0) (.reg 1)), ⟨.mov (.reg 2), (some 1), none⟩])
 .ret))⟩
theorem c90 : compFunc Tryd.prog opts a90 Tryd.f90 = some t90 := by kernel_rfl
def a91 : Ann := { slots := [0, 2, 3, 4, 5, 6, 7, 8, 9, 10, 11, 12, 16, 23, 45, 57, 59, 75, 77, 98], lb := [9], mu := [], trunc := [], draws := [] }
def t91 : TFunc := ⟨1, 20, [.loc 1, .loc 2],
 (.seq (.region [⟨.mov (.cst (.int .i32 0)), (some 1), none⟩, ⟨.mov (.cst (.int .i64 0)), (some 2), none⟩])
 (.seq (.region [o_ (.mov (.loc 0)), o_ (.len .str (.reg 0)), ⟨.mov (.reg 1), (some 3), none⟩])
 (.seq (.seq (.region [o_ (.mov (.loc 3)), ⟨.bin .lss (.reg 0) (.cst (.int .i64 1)), (some 12), none⟩])
 (.cond (.loc 12)
  (.seq (.region [⟨.mov (.cst (.int .i32 65533)), (some 1), none⟩, ⟨.mov (.cst (.int .i64 0)), (some 2), none⟩])
  .ret)
  .skip))
 (.seq (.region [o_ (.mov (.loc 0)), o_ (.indexS (.reg 0) (.cst (.int .i64 0))), ⟨.mov (.reg 1), (some 4), none⟩])
 (.seq (.region [o_ (.mov (.loc 4)), o_ (.indexAddrA 256 1 (.glob 0) (.reg 0)), o_ (.load1 (.reg 1)), ⟨.mov (.reg 2), (some 5), none⟩])
 (.seq (.seq (.region [o_ (.mov (.loc 5)), ⟨.bin .geq (.reg 0) (.cst (.int .u8 240)), (some 13), none⟩])
 (.cond (.loc 13)
  (.seq (.region [o_ (.mov (.loc 5)), o_ (.conv (.toInt .i32) (.reg 0)), o_ (.bin .shl (.reg 1) (.cst (.int .u64 31))), o_ (.bin .shr (.reg 2) (.cst (.int .u64 31))), ⟨.mov (.reg 3), (some 6), none⟩])
  (.seq (.region [o_ (.mov (.loc 0)), o_ (.indexS (.reg 0) (.cst (.int .i64 0))), o_ (.conv (.toInt .i32) (.reg 1)), o_ (.mov (.loc 6)), o_ (.bin .andNot (.reg 2) (.reg 3)), o_ (.mov (.loc 6)), o_ (.bin .and (.cst (.int .i32 65533)) (.reg 5)), o_ (.bin .or (.reg 4) (.reg 6)), ⟨.mov (.reg 7), (some 1), none⟩, ⟨.mov (.cst (.int .i64 1)), (some 2), none⟩])
  .ret))
  .skip))
 (.seq (.region [o_ (.mov (.loc 5)), o_ (.bin .and (.reg 0) (.cst (.int .u8 7))), o_ (.conv (.toInt .i64) (.reg 1)), ⟨.mov (.reg 2), (some 7), none⟩])
 (.seq (.region [o_ (.mov (.loc 5)), o_ (.bin .shr (.reg 0) (.cst (.int .u64 4))), o_ (.indexAddrA 16 2 (.glob 1) (.reg 1)), o_ (.loadN 2 (.reg 2)), o_ (.allocL 8 [(.int .u8 0), (.int .u8 0)]), o_ (.store 2 (.reg 4) (.reg 3))])
 (.seq (.seq (.region [o_ (.mov (.loc 3)), o_ (.mov (.loc 7)), ⟨.bin .lss (.reg 0) (.reg 1), (some 14), none⟩])
 (.cond (.loc 14)
  (.seq (.region [⟨.mov (.cst (.int .i32 65533)), (some 1), none⟩, ⟨.mov (.cst (.int .i64 1)), (some 2), none⟩])
  .ret)
  .skip))
 (.seq (.region [o_ (.mov (.loc 0)), o_ (.indexS (.reg 0) (.cst (.int .i64 1))), ⟨.mov (.reg 1), (some 9), none⟩])
 (.seq (.seq (.region [o_ (.mov (.loc 9)), o_ (.fieldAddr 0 (.loc 8)), o_ (.load1 (.reg 1)), o_ (.bin .lss (.reg 0) (.reg 2)), o_ (.mov (.reg 3)), ⟨.fieldAddr 1 (.loc 8), none, (some (4, false))⟩, ⟨.load1 (.reg 5), none, (some (4, false))⟩, ⟨.mov (.loc 9), none, (some (4, false))⟩, ⟨.bin .lss (.reg 6) (.reg 7), none, (some (4, false))⟩, ⟨.pick (.reg 4) (.cst (.bool true)) (.reg 8), (some 15), none⟩])
 (.cond (.loc 15)
  (.seq (.region [⟨.mov (.cst (.int .i32 65533)), (some 1), none⟩, ⟨.mov (.cst (.int .i64 1)), (some 2), none⟩])
  .ret)
  .skip))
 (.seq (.seq (.region [o_ (.mov (.loc 7)), ⟨.bin .leq (.reg 0) (.cst (.int .i64 2)), (some 16), none⟩])
 (.cond (.loc 16)
  (.seq (.region [o_ (.mov (.loc 4)), o_ (.bin .and (.reg 0) (.cst (.int .u8 31))), o_ (.conv (.toInt .i32) (.reg 1)), o_ (.bin .shl (.reg 2) (.cst (.int .u64 6))), o_ (.mov (.loc 9)), o_ (.bin .and (.reg 4) (.cst (.int .u8 63))), o_ (.conv (.toInt .i32) (.reg 5)), o_ (.bin .or (.reg 3) (.reg 6)), ⟨.mov (.reg 7), (some 1), none⟩, ⟨.mov (.cst (.int .i64 2)), (some 2), none⟩])
  .ret)
  .skip))
 (.seq (.region [o_ (.mov (.loc 0)), o_ (.indexS (.reg 0) (.cst (.int .i64 2))), ⟨.mov (.reg 1), (some 10), none⟩])
 (.seq (.seq (.region [o_ (.mov (.loc 10)), o_ (.bin .lss (.reg 0) (.cst (.int .u8 128))), o_ (.mov (.reg 1)), ⟨.mov (.loc 10), none, (some (2, false))⟩, ⟨.bin .lss (.cst (.int .u8 191)) (.reg 3), none, (some (2, false))⟩, ⟨.pick (.reg 2) (.cst (.bool true)) (.reg 4), (some 17), none⟩])
 (.cond (.loc 17)
  (.seq (.region [⟨.mov (.cst (.int .i32 65533)), (some 1), none⟩, ⟨.mov (.cst (.int .i64 1)), (some 2), none⟩])
  .ret)
  .skip))
 (.seq (.seq (.region [o_ (.mov (.loc 7)), ⟨.bin .leq (.reg 0) (.cst (.int .i64 3)), (some 18), none⟩])
 (.cond (.loc 18)
  (.seq (.region [o_ (.mov (.loc 4)), o_ (.bin .and (.reg 0) (.cst (.int .u8 15))), o_ (.conv (.toInt .i32) (.reg 1)), o_ (.bin .shl (.reg 2) (.cst (.int .u64 12))), o_ (.mov (.loc 9)), o_ (.bin .and (.reg 4) (.cst (.int .u8 63))), o_ (.conv (.toInt .i32) (.reg 5)), o_ (.bin .shl (.reg 6) (.cst (.int .u64 6))), o_ (.bin .or (.reg 3) (.reg 7)), o_ (.mov (.loc 10)), o_ (.bin .and (.reg 9) (.cst (.int .u8 63))), o_ (.conv (.toInt .i32) (.reg 10)), o_ (.bin .or (.reg 8) (.reg 11)), ⟨.mov (.reg 12), (some 1), none⟩, ⟨.mov (.cst (.int .i64 3)), (some 2), none⟩])
  .ret)
  .skip))
 (.seq (.region [o_ (.mov (.loc 0)), o_ (.indexS (.reg 0) (.cst (.int .i64 3))), ⟨.mov (.reg 1), (some 11), none⟩])
 (.seq (.seq (.region [o_ (.mov (.loc 11)), o_ (.bin .lss (.reg 0) (.cst (.int .u8 128))), o_ (.mov (.reg 1)), ⟨.mov (.loc 11), none, (some (2, false))⟩, ⟨.bin .lss (.cst (.int .u8 191)) (.reg 3), none, (some (2, false))⟩, ⟨.pick (.reg 2) (.cst (.bool true)) (.reg 4), (some 19), none⟩])
 (.cond (.loc 19)
  (.seq (.region [⟨.mov (.cst (.int .i32 65533)), (some 1), none⟩, ⟨.mov (.cst (.int .i64 1)), (some 2), none⟩])
  .ret)
  .skip))
 (.seq (.region [o_ (.mov (.loc 4)), o_ (.bin .and (.reg 0) (.cst (.int .u8 7))), o_ (.conv (.toInt .i32) (.reg 1)), o_ (.bin .shl (.reg 2) (.cst (.int .u64 18))), o_ (.mov (.loc 9)), o_ (.bin .and (.reg 4) (.cst (.int .u8 63))), o_ (.conv (.toInt .i32) (.reg 5)), o_ (.bin .shl (.reg 6) (.cst (.int .u64 12))), o_ (.bin .or (.reg 3) (.reg 7)), o_ (.mov (.loc 10)), o_ (.bin .and (.reg 9) (.cst (.int .u8 63))), o_ (.conv (.toInt .i32) (.reg 10)), o_ (.bin .shl (.reg 11) (.cst (.int .u64 6))), o_ (.bin .or (.reg 8) (.reg 12)), o_ (.mov (.loc 11)), o_ (.bin .and (.reg 14) (.cst (.int .u8 63))), o_ (.conv (.toInt .i32) (.reg 15)), o_ (.bin .or (.reg 13) (.reg 16)), ⟨.mov (.reg 17), (some 1), none⟩, ⟨.mov (.cst (.int .i64 4)), (some 2), none⟩])
 .ret))))))))))))))))))⟩
theorem c91 : compFunc Tryd.prog opts a91 Tryd.f91 = some t91 := by kernel_rfl
def a92 : Ann := { slots := [0, 1, 4, 5, 6, 7, 8, 9, 10, 11, 12, 13, 14, 15, 16, 26, 33, 43, 51, 64, 98, 108, 124, 139, 143, 156, 160, 171, 175, 176, 177, 181, 183], lb := [], mu := [], trunc := [], draws := [(6, ⟨[0, 0, 3, 0, 0, 24, 63], [0, 1, 2, 3, 4, 5, 6], []⟩), (7, ⟨[0, 0, 2, 7, 0, 0, 48, 127, 255], [0, 1, 2, 3, 4, 5, 6], [(7, [], [8])]⟩), (14, ⟨[0, 0, 0, 6, 15, 0, 0, 0, 192, 480, 1023], [0, 1, 2, 3, 4, 5, 6, 7, 8, 9, 10], []⟩), (31, ⟨[0, 0, 0, 6, 15, 0, 0, 0, 192, 480, 1023], [0, 1, 2, 3, 4, 5, 6, 7, 8, 9, 10], []⟩)] }
def t92L0 : TCode := (.seq (.region [⟨.nextS (.loc 28), (some 29), none⟩, ⟨.extract 0 (.reg 0), (some 30), none⟩])
      (.seq (.cond (.loc 30)
       .skip
       (.exit 9))
      (.block 10
       (.seq (.region [o_ (.extract 1 (.loc 29)), o_ (.extract 2 (.loc 29)), ⟨.mov (.reg 0), (some 3), none⟩, ⟨.mov (.reg 1), (some 4), none⟩])
       (.seq (.region [o_ (.mov (.loc 4)), ⟨.bin .eql (.reg 0) (.cst (.int .i32 65533)), (some 31), none⟩])
       (.cond (.loc 31)
        (.seq (.region [o_ (.mov (.loc 3)), ⟨.mov (.reg 0), (some 2), none⟩])
        .ret)
        .skip))))))
def t92 : TFunc := ⟨2, 33, [.loc 2],
 (.seq (.region [⟨.mov (.cst (.int .i64 0)), (some 2), none⟩])
 (.block 0
  (.seq (.region [o_ (.mov (.loc 1)), o_ (.bin .leq (.cst (.int .i32 0)) (.reg 0)), o_ (.mov (.reg 1)), ⟨.mov (.loc 1), none, (some (2, true))⟩, ⟨.bin .lss (.reg 3) (.cst (.int .i32 128)), none, (some (2, true))⟩, o_ (.pick (.reg 2) (.reg 4) (.cst (.bool false))), ⟨.mov (.reg 5), (some 26), none⟩])
  (.cond (.loc 26)
   (.seq (.region [o_ (.mov (.loc 0)), o_ (.mov (.loc 1)), o_ (.conv (.toInt .u8) (.reg 1)), o_ (.call true false 99 [(.reg 0), (.reg 2)]), ⟨.mov (.reg 3), (some 2), none⟩])
   .ret)
   (.seq (.region [o_ (.mov (.loc 1)), o_ (.bin .eql (.reg 0) (.cst (.int .i32 65533))), ⟨.mov (.reg 1), (some 27), none⟩])
   (.cond (.loc 27)
    (.seq (.seq (.region [o_ (.mov (.loc 0)), ⟨.range true (.reg 0), (some 28), none⟩])
    (.block 9
     (.loop t92L0)))
    (.seq (.region [⟨.mov (.cst (.int .i64 (-1))), (some 2), none⟩])
    .ret))
    (.seq (.region [o_ (.mov (.loc 1)), o_ (.call true false 100 [(.reg 0)]), o_ (.un .not (.reg 1)), ⟨.mov (.reg 2), (some 32), none⟩])
    (.cond (.loc 32)
     (.seq (.region [⟨.mov (.cst (.int .i64 (-1))), (some 2), none⟩])
     .ret)
     .bad))))))))⟩
theorem c92 : compFunc Tryd.prog opts a92 Tryd.f92 = some t92 := by kernel_rfl
def a93 : Ann := { slots := [0, 2, 4], lb := [], mu := [], trunc := [], draws := [] }
def t93 : TFunc := ⟨1, 3, [.loc 1],
 (.seq (.region [⟨.mov (.cst (.str [])), (some 1), none⟩])
 (.seq (.seq (.region [o_ (.mov (.loc 0)), ⟨.bin .lss (.reg 0) (.cst (.int .i64 10)), (some 2), none⟩])
 (.cond (.loc 2)
  (.seq (.region [o_ (.mov (.loc 0)), o_ (.mov (.loc 0)), o_ (.bin .add (.reg 1) (.cst (.int .i64 1))), o_ (.slice .str (.cst (.str [48, 49, 50, 51, 52, 53, 54, 55, 56, 57, 97, 98, 99, 100, 101, 102, 103, 104, 105, 106, 107, 108, 109, 110, 111, 112, 113, 114, 115, 116, 117, 118, 119, 120, 121, 122])) (some (.reg 0)) (some (.reg 2)) none), ⟨.mov (.reg 3), (some 1), none⟩])
  .ret)
  .skip))
 (.seq (.region [o_ (.mov (.loc 0)), o_ (.bin .mul (.reg 0) (.cst (.int .i64 2))), o_ (.mov (.loc 0)), o_ (.bin .mul (.reg 2) (.cst (.int .i64 2))), o_ (.bin .add (.reg 3) (.cst (.int .i64 2))), o_ (.slice .str (.cst (.str [48, 48, 48, 49, 48, 50, 48, 51, 48, 52, 48, 53, 48, 54, 48, 55, 48, 56, 48, 57, 49, 48, 49, 49, 49, 50, 49, 51, 49, 52, 49, 53, 49, 54, 49, 55, 49, 56, 49, 57, 50, 48, 50, 49, 50, 50, 50, 51, 50, 52, 50, 53, 50, 54, 50, 55, 50, 56, 50, 57, 51, 48, 51, 49, 51, 50, 51, 51, 51, 52, 51, 53, 51, 54, 51, 55, 51, 56, 51, 57, 52, 48, 52, 49, 52, 50, 52, 51, 52, 52, 52, 53, 52, 54, 52, 55, 52, 56, 52, 57, 53, 48, 53, 49, 53, 50, 53, 51, 53, 52, 53, 53, 53, 54, 53, 55, 53, 56, 53, 57, 54, 48, 54, 49, 54, 50, 54, 51, 54, 52, 54, 53, 54, 54, 54, 55, 54, 56, 54, 57, 55, 48, 55, 49, 55, 50, 55, 51, 55, 52, 55, 53, 55, 54, 55, 55, 55, 56, 55, 57, 56, 48, 56, 49, 56, 50, 56, 51, 56, 52, 56, 53, 56, 54, 56, 55, 56, 56, 56, 57, 57, 48, 57, 49, 57, 50, 57, 51, 57, 52, 57, 53, 57, 54, 57, 55, 57, 56, 57, 57])) (some (.reg 1)) (some (.reg 4)) none), ⟨.mov (.reg 5), (some 1), none⟩])
 .ret)))⟩
theorem c93 : compFunc Tryd.prog opts a93 Tryd.f93 = some t93 := by kernel_rfl
def a94 : Ann := { slots := [0, 2, 3], lb := [], mu := [], trunc := [], draws := [] }
def t94 : TFunc := ⟨1, 3, [.loc 1],
 (.seq (.region [⟨.mov (.cst (.int .i64 0)), (some 1), none⟩])
 (.seq (.region [o_ (.mov (.loc 0)), o_ (.call true false 104 [(.reg 0)]), o_ (.call true false 103 [(.reg 1)]), ⟨.mov (.reg 2), (some 2), none⟩])
 (.seq (.region [o_ (.mov (.loc 2)), o_ (.mov (.loc 0)), o_ (.mov (.loc 2)), o_ (.indexAddrA 20 1 (.glob 2) (.reg 2)), o_ (.load1 (.reg 3)), o_ (.bin .geq (.reg 1) (.reg 4)), o_ (.call true false 105 [(.reg 5)]), o_ (.bin .add (.reg 0) (.reg 6)), ⟨.mov (.reg 7), (some 1), none⟩])
 .ret)))⟩
theorem c94 : compFunc Tryd.prog opts a94 Tryd.f94 = some t94 := by kernel_rfl
def a95 : Ann := { slots := [0, 1, 4, 5, 6, 7, 8, 9, 10, 11, 12, 13, 14, 15, 16, 20, 99, 139, 161], lb := [], mu := [], trunc := [], draws := [(7, ⟨[0, 0, 2, 0, 0, 16, 0, 64, 192, 0, 512, 455, 2503, 8191, 16383], [0, 1, 2, 3, 4, 5, 6, 7, 8, 9, 10, 11], [(12, [], [13]), (14, [], [])]⟩), (8, ⟨[0, 0, 2, 0, 0, 16, 0, 64, 192, 0, 512, 455, 2503, 8191, 16383], [0, 1, 2, 3, 4, 5, 6, 7, 8, 9, 10, 11], [(12, [], [13]), (14, [], [])]⟩), (9, ⟨[0, 0, 2, 0, 0, 16, 0, 64, 192, 0, 512, 455, 2503, 8191, 16383], [0, 1, 2, 3, 4, 5, 6, 7, 8, 9, 10, 11], [(12, [], [13]), (14, [], [])]⟩), (10, ⟨[0, 0, 2, 0, 0, 16, 0, 64, 192, 0, 512, 455, 2503, 8191, 16383], [0, 1, 2, 3, 4, 5, 6, 7, 8, 9, 10, 11], [(12, [], [13]), (14, [], [])]⟩), (17, ⟨[0, 0, 2, 0, 0, 16, 0, 64, 192, 0, 512, 455, 2503, 8191, 16383], [0, 1, 2, 3, 4, 5, 6, 7, 8, 9, 10, 11], [(12, [], [13]), (14, [], [])]⟩), (18, ⟨[0, 0, 2, 0, 0, 16, 0, 64, 192, 0, 512, 455, 2503, 8191, 16383], [0, 1, 2, 3, 4, 5, 6, 7, 8, 9, 10, 11], [(12, [], [13]), (14, [], [])]⟩), (23, ⟨[0, 0, 2, 0, 0, 16, 0, 64, 192, 0, 512, 455, 2503, 8191, 16383], [0, 1, 2, 3, 4, 5, 6, 7, 8, 9, 10, 11], [(12, [], [13]), (14, [], [])]⟩)] }
def t95L0 : TCode := (.seq (.seq (.region [o_ (.mov (.loc 2)), ⟨.bin .geq (.reg 0) (.cst (.int .i64 8)), (some 15), none⟩])
   (.cond (.loc 15)
    .skip
    (.exit 0)))
   (.block 1
    (.seq (.region [o_ (.mov (.loc 1)), o_ (.bin .rem (.reg 0) (.cst (.int .u64 100000000))), o_ (.conv (.toInt .u32) (.reg 1)), ⟨.mov (.reg 2), (some 3), none⟩])
    (.seq (.region [o_ (.mov (.loc 1)), o_ (.bin .quo (.reg 0) (.cst (.int .u64 100000000))), ⟨.mov (.reg 1), (some 1), none⟩])
    (.seq (.region [o_ (.mov (.loc 3)), o_ (.bin .quo (.reg 0) (.cst (.int .u32 10000))), o_ (.mov (.loc 3)), o_ (.bin .rem (.reg 2) (.cst (.int .u32 10000))), ⟨.mov (.reg 1), (some 4), none⟩, ⟨.mov (.reg 3), (some 5), none⟩])
    (.seq (.region [o_ (.mov (.loc 5)), o_ (.bin .quo (.reg 0) (.cst (.int .u32 100))), o_ (.bin .mul (.reg 1) (.cst (.int .u32 2))), o_ (.mov (.loc 5)), o_ (.bin .rem (.reg 3) (.cst (.int .u32 100))), o_ (.bin .mul (.reg 4) (.cst (.int .u32 2))), ⟨.mov (.reg 2), (some 6), none⟩, ⟨.mov (.reg 5), (some 7), none⟩])
    (.seq (.region [o_ (.mov (.loc 4)), o_ (.bin .quo (.reg 0) (.cst (.int .u32 100))), o_ (.bin .mul (.reg 1) (.cst (.int .u32 2))), o_ (.mov (.loc 4)), o_ (.bin .rem (.reg 3) (.cst (.int .u32 100))), o_ (.bin .mul (.reg 4) (.cst (.int .u32 2))), ⟨.mov (.reg 2), (some 8), none⟩, ⟨.mov (.reg 5), (some 9), none⟩])
    (.seq (.draw [0, 1, 2, 3, 4, 5, 6, 7, 8, 9, 10, 11] [(12, [], [13]), (14, [], [])] [o_ (.mov (.loc 0)), o_ (.mov (.loc 2)), o_ (.bin .sub (.reg 1) (.cst (.int .i64 1))), o_ (.mov (.loc 0)), o_ (.mov (.loc 2)), o_ (.bin .sub (.reg 4) (.cst (.int .i64 2))), o_ (.mov (.loc 7)), o_ (.bin .add (.reg 6) (.cst (.int .u32 1))), o_ (.indexS (.cst (.str [48, 48, 48, 49, 48, 50, 48, 51, 48, 52, 48, 53, 48, 54, 48, 55, 48, 56, 48, 57, 49, 48, 49, 49, 49, 50, 49, 51, 49, 52, 49, 53, 49, 54, 49, 55, 49, 56, 49, 57, 50, 48, 50, 49, 50, 50, 50, 51, 50, 52, 50, 53, 50, 54, 50, 55, 50, 56, 50, 57, 51, 48, 51, 49, 51, 50, 51, 51, 51, 52, 51, 53, 51, 54, 51, 55, 51, 56, 51, 57, 52, 48, 52, 49, 52, 50, 52, 51, 52, 52, 52, 53, 52, 54, 52, 55, 52, 56, 52, 57, 53, 48, 53, 49, 53, 50, 53, 51, 53, 52, 53, 53, 53, 54, 53, 55, 53, 56, 53, 57, 54, 48, 54, 49, 54, 50, 54, 51, 54, 52, 54, 53, 54, 54, 54, 55, 54, 56, 54, 57, 55, 48, 55, 49, 55, 50, 55, 51, 55, 52, 55, 53, 55, 54, 55, 55, 55, 56, 55, 57, 56, 48, 56, 49, 56, 50, 56, 51, 56, 52, 56, 53, 56, 54, 56, 55, 56, 56, 56, 57, 57, 48, 57, 49, 57, 50, 57, 51, 57, 52, 57, 53, 57, 54, 57, 55, 57, 56, 57, 57])) (.reg 7)), o_ (.mov (.loc 7)), o_ (.indexS (.cst (.str [48, 48, 48, 49, 48, 50, 48, 51, 48, 52, 48, 53, 48, 54, 48, 55, 48, 56, 48, 57, 49, 48, 49, 49, 49, 50, 49, 51, 49, 52, 49, 53, 49, 54, 49, 55, 49, 56, 49, 57, 50, 48, 50, 49, 50, 50, 50, 51, 50, 52, 50, 53, 50, 54, 50, 55, 50, 56, 50, 57, 51, 48, 51, 49, 51, 50, 51, 51, 51, 52, 51, 53, 51, 54, 51, 55, 51, 56, 51, 57, 52, 48, 52, 49, 52, 50, 52, 51, 52, 52, 52, 53, 52, 54, 52, 55, 52, 56, 52, 57, 53, 48, 53, 49, 53, 50, 53, 51, 53, 52, 53, 53, 53, 54, 53, 55, 53, 56, 53, 57, 54, 48, 54, 49, 54, 50, 54, 51, 54, 52, 54, 53, 54, 54, 54, 55, 54, 56, 54, 57, 55, 48, 55, 49, 55, 50, 55, 51, 55, 52, 55, 53, 55, 54, 55, 55, 55, 56, 55, 57, 56, 48, 56, 49, 56, 50, 56, 51, 56, 52, 56, 53, 56, 54, 56, 55, 56, 56, 56, 57, 57, 48, 57, 49, 57, 50, 57, 51, 57, 52, 57, 53, 57, 54, 57, 55, 57, 56, 57, 57])) (.reg 9)), o_ (.indexAddrS 1 (.reg 0) (.reg 2)), o_ (.store 1 (.reg 11) (.reg 8)), o_ (.indexAddrS 1 (.reg 3) (.reg 5)), o_ (.store 1 (.reg 13) (.reg 10))])
    (.seq (.draw [0, 1, 2, 3, 4, 5, 6, 7, 8, 9, 10, 11] [(12, [], [13]), (14, [], [])] [o_ (.mov (.loc 0)), o_ (.mov (.loc 2)), o_ (.bin .sub (.reg 1) (.cst (.int .i64 3))), o_ (.mov (.loc 0)), o_ (.mov (.loc 2)), o_ (.bin .sub (.reg 4) (.cst (.int .i64 4))), o_ (.mov (.loc 6)), o_ (.bin .add (.reg 6) (.cst (.int .u32 1))), o_ (.indexS (.cst (.str [48, 48, 48, 49, 48, 50, 48, 51, 48, 52, 48, 53, 48, 54, 48, 55, 48, 56, 48, 57, 49, 48, 49, 49, 49, 50, 49, 51, 49, 52, 49, 53, 49, 54, 49, 55, 49, 56, 49, 57, 50, 48, 50, 49, 50, 50, 50, 51, 50, 52, 50, 53, 50, 54, 50, 55, 50, 56, 50, 57, 51, 48, 51, 49, 51, 50, 51, 51, 51, 52, 51, 53, 51, 54, 51, 55, 51, 56, 51, 57, 52, 48, 52, 49, 52, 50, 52, 51, 52, 52, 52, 53, 52, 54, 52, 55, 52, 56, 52, 57, 53, 48, 53, 49, 53, 50, 53, 51, 53, 52, 53, 53, 53, 54, 53, 55, 53, 56, 53, 57, 54, 48, 54, 49, 54, 50, 54, 51, 54, 52, 54, 53, 54, 54, 54, 55, 54, 56, 54, 57, 55, 48, 55, 49, 55, 50, 55, 51, 55, 52, 55, 53, 55, 54, 55, 55, 55, 56, 55, 57, 56, 48, 56, 49, 56, 50, 56, 51, 56, 52, 56, 53, 56, 54, 56, 55, 56, 56, 56, 57, 57, 48, 57, 49, 57, 50, 57, 51, 57, 52, 57, 53, 57, 54, 57, 55, 57, 56, 57, 57])) (.reg 7)), o_ (.mov (.loc 6)), o_ (.indexS (.cst (.str [48, 48, 48, 49, 48, 50, 48, 51, 48, 52, 48, 53, 48, 54, 48, 55, 48, 56, 48, 57, 49, 48, 49, 49, 49, 50, 49, 51, 49, 52, 49, 53, 49, 54, 49, 55, 49, 56, 49, 57, 50, 48, 50, 49, 50, 50, 50, 51, 50, 52, 50, 53, 50, 54, 50, 55, 50, 56, 50, 57, 51, 48, 51, 49, 51, 50, 51, 51, 51, 52, 51, 53, 51, 54, 51, 55, 51, 56, 51, 57, 52, 48, 52, 49, 52, 50, 52, 51, 52, 52, 52, 53, 52, 54, 52, 55, 52, 56, 52, 57, 53, 48, 53, 49, 53, 50, 53, 51, 53, 52, 53, 53, 53, 54, 53, 55, 53, 56, 53, 57, 54, 48, 54, 49, 54, 50, 54, 51, 54, 52, 54, 53, 54, 54, 54, 55, 54, 56, 54, 57, 55, 48, 55, 49, 55, 50, 55, 51, 55, 52, 55, 53, 55, 54, 55, 55, 55, 56, 55, 57, 56, 48, 56, 49, 56, 50, 56, 51, 56, 52, 56, 53, 56, 54, 56, 55, 56, 56, 56, 57, 57, 48, 57, 49, 57, 50, 57, 51, 57, 52, 57, 53, 57, 54, 57, 55, 57, 56, 57, 57])) (.reg 9)), o_ (.indexAddrS 1 (.reg 0) (.reg 2)), o_ (.store 1 (.reg 11) (.reg 8)), o_ (.indexAddrS 1 (.reg 3) (.reg 5)), o_ (.store 1 (.reg 13) (.reg 10))])
    (.seq (.draw [0, 1, 2, 3, 4, 5, 6, 7, 8, 9, 10, 11] [(12, [], [13]), (14, [], [])] [o_ (.mov (.loc 0)), o_ (.mov (.loc 2)), o_ (.bin .sub (.reg 1) (.cst (.int .i64 5))), o_ (.mov (.loc 0)), o_ (.mov (.loc 2)), o_ (.bin .sub (.reg 4) (.cst (.int .i64 6))), o_ (.mov (.loc 9)), o_ (.bin .add (.reg 6) (.cst (.int .u32 1))), o_ (.indexS (.cst (.str [48, 48, 48, 49, 48, 50, 48, 51, 48, 52, 48, 53, 48, 54, 48, 55, 48, 56, 48, 57, 49, 48, 49, 49, 49, 50, 49, 51, 49, 52, 49, 53, 49, 54, 49, 55, 49, 56, 49, 57, 50, 48, 50, 49, 50, 50, 50, 51, 50, 52, 50, 53, 50, 54, 50, 55, 50, 56, 50, 57, 51, 48, 51, 49, 51, 50, 51, 51, 51, 52, 51, 53, 51, 54, 51, 55, 51, 56, 51, 57, 52, 48, 52, 49, 52, 50, 52, 51, 52, 52, 52, 53, 52, 54, 52, 55, 52, 56, 52, 57, 53, 48, 53, 49, 53, 50, 53, 51, 53, 52, 53, 53, 53, 54, 53, 55, 53, 56, 53, 57, 54, 48, 54, 49, 54, 50, 54, 51, 54, 52, 54, 53, 54, 54, 54, 55, 54, 56, 54, 57, 55, 48, 55, 49, 55, 50, 55, 51, 55, 52, 55, 53, 55, 54, 55, 55, 55, 56, 55, 57, 56, 48, 56, 49, 56, 50, 56, 51, 56, 52, 56, 53, 56, 54, 56, 55, 56, 56, 56, 57, 57, 48, 57, 49, 57, 50, 57, 51, 57, 52, 57, 53, 57, 54, 57, 55, 57, 56, 57, 57])) (.reg 7)), o_ (.mov (.loc 9)), o_ (.indexS (.cst (.str [48, 48, 48, 49, 48, 50, 48, 51, 48, 52, 48, 53, 48, 54, 48, 55, 48, 56, 48, 57, 49, 48, 49, 49, 49, 50, 49, 51, 49, 52, 49, 53, 49, 54, 49, 55, 49, 56, 49, 57, 50, 48, 50, 49, 50, 50, 50, 51, 50, 52, 50, 53, 50, 54, 50, 55, 50, 56, 50, 57, 51, 48, 51, 49, 51, 50, 51, 51, 51, 52, 51, 53, 51, 54, 51, 55, 51, 56, 51, 57, 52, 48, 52, 49, 52, 50, 52, 51, 52, 52, 52, 53, 52, 54, 52, 55, 52, 56, 52, 57, 53, 48, 53, 49, 53, 50, 53, 51, 53, 52, 53, 53, 53, 54, 53, 55, 53, 56, 53, 57, 54, 48, 54, 49, 54, 50, 54, 51, 54, 52, 54, 53, 54, 54, 54, 55, 54, 56, 54, 57, 55, 48, 55, 49, 55, 50, 55, 51, 55, 52, 55, 53, 55, 54, 55, 55, 55, 56, 55, 57, 56, 48, 56, 49, 56, 50, 56, 51, 56, 52, 56, 53, 56, 54, 56, 55, 56, 56, 56, 57, 57, 48, 57, 49, 57, 50, 57, 51, 57, 52, 57, 53, 57, 54, 57, 55, 57, 56, 57, 57])) (.reg 9)), o_ (.indexAddrS 1 (.reg 0) (.reg 2)), o_ (.store 1 (.reg 11) (.reg 8)), o_ (.indexAddrS 1 (.reg 3) (.reg 5)), o_ (.store 1 (.reg 13) (.reg 10))])
    (.seq (.draw [0, 1, 2, 3, 4, 5, 6, 7, 8, 9, 10, 11] [(12, [], [13]), (14, [], [])] [o_ (.mov (.loc 0)), o_ (.mov (.loc 2)), o_ (.bin .sub (.reg 1) (.cst (.int .i64 7))), o_ (.mov (.loc 0)), o_ (.mov (.loc 2)), o_ (.bin .sub (.reg 4) (.cst (.int .i64 8))), o_ (.mov (.loc 8)), o_ (.bin .add (.reg 6) (.cst (.int .u32 1))), o_ (.indexS (.cst (.str [48, 48, 48, 49, 48, 50, 48, 51, 48, 52, 48, 53, 48, 54, 48, 55, 48, 56, 48, 57, 49, 48, 49, 49, 49, 50, 49, 51, 49, 52, 49, 53, 49, 54, 49, 55, 49, 56, 49, 57, 50, 48, 50, 49, 50, 50, 50, 51, 50, 52, 50, 53, 50, 54, 50, 55, 50, 56, 50, 57, 51, 48, 51, 49, 51, 50, 51, 51, 51, 52, 51, 53, 51, 54, 51, 55, 51, 56, 51, 57, 52, 48, 52, 49, 52, 50, 52, 51, 52, 52, 52, 53, 52, 54, 52, 55, 52, 56, 52, 57, 53, 48, 53, 49, 53, 50, 53, 51, 53, 52, 53, 53, 53, 54, 53, 55, 53, 56, 53, 57, 54, 48, 54, 49, 54, 50, 54, 51, 54, 52, 54, 53, 54, 54, 54, 55, 54, 56, 54, 57, 55, 48, 55, 49, 55, 50, 55, 51, 55, 52, 55, 53, 55, 54, 55, 55, 55, 56, 55, 57, 56, 48, 56, 49, 56, 50, 56, 51, 56, 52, 56, 53, 56, 54, 56, 55, 56, 56, 56, 57, 57, 48, 57, 49, 57, 50, 57, 51, 57, 52, 57, 53, 57, 54, 57, 55, 57, 56, 57, 57])) (.reg 7)), o_ (.mov (.loc 8)), o_ (.indexS (.cst (.str [48, 48, 48, 49, 48, 50, 48, 51, 48, 52, 48, 53, 48, 54, 48, 55, 48, 56, 48, 57, 49, 48, 49, 49, 49, 50, 49, 51, 49, 52, 49, 53, 49, 54, 49, 55, 49, 56, 49, 57, 50, 48, 50, 49, 50, 50, 50, 51, 50, 52, 50, 53, 50, 54, 50, 55, 50, 56, 50, 57, 51, 48, 51, 49, 51, 50, 51, 51, 51, 52, 51, 53, 51, 54, 51, 55, 51, 56, 51, 57, 52, 48, 52, 49, 52, 50, 52, 51, 52, 52, 52, 53, 52, 54, 52, 55, 52, 56, 52, 57, 53, 48, 53, 49, 53, 50, 53, 51, 53, 52, 53, 53, 53, 54, 53, 55, 53, 56, 53, 57, 54, 48, 54, 49, 54, 50, 54, 51, 54, 52, 54, 53, 54, 54, 54, 55, 54, 56, 54, 57, 55, 48, 55, 49, 55, 50, 55, 51, 55, 52, 55, 53, 55, 54, 55, 55, 55, 56, 55, 57, 56, 48, 56, 49, 56, 50, 56, 51, 56, 52, 56, 53, 56, 54, 56, 55, 56, 56, 56, 57, 57, 48, 57, 49, 57, 50, 57, 51, 57, 52, 57, 53, 57, 54, 57, 55, 57, 56, 57, 57])) (.reg 9)), o_ (.indexAddrS 1 (.reg 0) (.reg 2)), o_ (.store 1 (.reg 11) (.reg 8)), o_ (.indexAddrS 1 (.reg 3) (.reg 5)), o_ (.store 1 (.reg 13) (.reg 10))])
    (.region [o_ (.mov (.loc 2)), o_ (.bin .sub (.reg 0) (.cst (.int .i64 8))), ⟨.mov (.reg 1), (some 2), none⟩]))))))))))))
def t95 : TFunc := ⟨2, 19, [],
 (.seq (.region [o_ (.mov (.loc 0)), o_ (.len .sl (.reg 0)), ⟨.mov (.reg 1), (some 2), none⟩])
 (.seq (.block 0
  (.loop t95L0))
 (.seq (.region [o_ (.mov (.loc 1)), o_ (.conv (.toInt .u32) (.reg 0)), ⟨.mov (.reg 1), (some 10), none⟩])
 (.seq (.seq (.region [o_ (.mov (.loc 2)), ⟨.bin .geq (.reg 0) (.cst (.int .i64 4)), (some 16), none⟩])
 (.cond (.loc 16)
  (.seq (.region [o_ (.mov (.loc 10)), o_ (.bin .rem (.reg 0) (.cst (.int .u32 10000))), ⟨.mov (.reg 1), (some 11), none⟩])
  (.seq (.region [o_ (.mov (.loc 10)), o_ (.bin .quo (.reg 0) (.cst (.int .u32 10000))), ⟨.mov (.reg 1), (some 10), none⟩])
  (.seq (.region [o_ (.mov (.loc 11)), o_ (.bin .quo (.reg 0) (.cst (.int .u32 100))), o_ (.bin .mul (.reg 1) (.cst (.int .u32 2))), o_ (.mov (.loc 11)), o_ (.bin .rem (.reg 3) (.cst (.int .u32 100))), o_ (.bin .mul (.reg 4) (.cst (.int .u32 2))), ⟨.mov (.reg 2), (some 12), none⟩, ⟨.mov (.reg 5), (some 13), none⟩])
  (.seq (.draw [0, 1, 2, 3, 4, 5, 6, 7, 8, 9, 10, 11] [(12, [], [13]), (14, [], [])] [o_ (.mov (.loc 0)), o_ (.mov (.loc 2)), o_ (.bin .sub (.reg 1) (.cst (.int .i64 1))), o_ (.mov (.loc 0)), o_ (.mov (.loc 2)), o_ (.bin .sub (.reg 4) (.cst (.int .i64 2))), o_ (.mov (.loc 13)), o_ (.bin .add (.reg 6) (.cst (.int .u32 1))), o_ (.indexS (.cst (.str [48, 48, 48, 49, 48, 50, 48, 51, 48, 52, 48, 53, 48, 54, 48, 55, 48, 56, 48, 57, 49, 48, 49, 49, 49, 50, 49, 51, 49, 52, 49, 53, 49, 54, 49, 55, 49, 56, 49, 57, 50, 48, 50, 49, 50, 50, 50, 51, 50, 52, 50, 53, 50, 54, 50, 55, 50, 56, 50, 57, 51, 48, 51, 49, 51, 50, 51, 51, 51, 52, 51, 53, 51, 54, 51, 55, 51, 56, 51, 57, 52, 48, 52, 49, 52, 50, 52, 51, 52, 52, 52, 53, 52, 54, 52, 55, 52, 56, 52, 57, 53, 48, 53, 49, 53, 50, 53, 51, 53, 52, 53, 53, 53, 54, 53, 55, 53, 56, 53, 57, 54, 48, 54, 49, 54, 50, 54, 51, 54, 52, 54, 53, 54, 54, 54, 55, 54, 56, 54, 57, 55, 48, 55, 49, 55, 50, 55, 51, 55, 52, 55, 53, 55, 54, 55, 55, 55, 56, 55, 57, 56, 48, 56, 49, 56, 50, 56, 51, 56, 52, 56, 53, 56, 54, 56, 55, 56, 56, 56, 57, 57, 48, 57, 49, 57, 50, 57, 51, 57, 52, 57, 53, 57, 54, 57, 55, 57, 56, 57, 57])) (.reg 7)), o_ (.mov (.loc 13)), o_ (.indexS (.cst (.str [48, 48, 48, 49, 48, 50, 48, 51, 48, 52, 48, 53, 48, 54, 48, 55, 48, 56, 48, 57, 49, 48, 49, 49, 49, 50, 49, 51, 49, 52, 49, 53, 49, 54, 49, 55, 49, 56, 49, 57, 50, 48, 50, 49, 50, 50, 50, 51, 50, 52, 50, 53, 50, 54, 50, 55, 50, 56, 50, 57, 51, 48, 51, 49, 51, 50, 51, 51, 51, 52, 51, 53, 51, 54, 51, 55, 51, 56, 51, 57, 52, 48, 52, 49, 52, 50, 52, 51, 52, 52, 52, 53, 52, 54, 52, 55, 52, 56, 52, 57, 53, 48, 53, 49, 53, 50, 53, 51, 53, 52, 53, 53, 53, 54, 53, 55, 53, 56, 53, 57, 54, 48, 54, 49, 54, 50, 54, 51, 54, 52, 54, 53, 54, 54, 54, 55, 54, 56, 54, 57, 55, 48, 55, 49, 55, 50, 55, 51, 55, 52, 55, 53, 55, 54, 55, 55, 55, 56, 55, 57, 56, 48, 56, 49, 56, 50, 56, 51, 56, 52, 56, 53, 56, 54, 56, 55, 56, 56, 56, 57, 57, 48, 57, 49, 57, 50, 57, 51, 57, 52, 57, 53, 57, 54, 57, 55, 57, 56, 57, 57])) (.reg 9)), o_ (.indexAddrS 1 (.reg 0) (.reg 2)), o_ (.store 1 (.reg 11) (.reg 8)), o_ (.indexAddrS 1 (.reg 3) (.reg 5)), o_ (.store 1 (.reg 13) (.reg 10))])
  (.seq (.draw [0, 1, 2, 3, 4, 5, 6, 7, 8, 9, 10, 11] [(12, [], [13]), (14, [], [])] [o_ (.mov (.loc 0)), o_ (.mov (.loc 2)), o_ (.bin .sub (.reg 1) (.cst (.int .i64 3))), o_ (.mov (.loc 0)), o_ (.mov (.loc 2)), o_ (.bin .sub (.reg 4) (.cst (.int .i64 4))), o_ (.mov (.loc 12)), o_ (.bin .add (.reg 6) (.cst (.int .u32 1))), o_ (.indexS (.cst (.str [48, 48, 48, 49, 48, 50, 48, 51, 48, 52, 48, 53, 48, 54, 48, 55, 48, 56, 48, 57, 49, 48, 49, 49, 49, 50, 49, 51, 49, 52, 49, 53, 49, 54, 49, 55, 49, 56, 49, 57, 50, 48, 50, 49, 50, 50, 50, 51, 50, 52, 50, 53, 50, 54, 50, 55, 50, 56, 50, 57, 51, 48, 51, 49, 51, 50, 51, 51, 51, 52, 51, 53, 51, 54, 51, 55, 51, 56, 51, 57, 52, 48, 52, 49, 52, 50, 52, 51, 52, 52, 52, 53, 52, 54, 52, 55, 52, 56, 52, 57, 53, 48, 53, 49, 53, 50, 53, 51, 53, 52, 53, 53, 53, 54, 53, 55, 53, 56, 53, 57, 54, 48, 54, 49, 54, 50, 54, 51, 54, 52, 54, 53, 54, 54, 54, 55, 54, 56, 54, 57, 55, 48, 55, 49, 55, 50, 55, 51, 55, 52, 55, 53, 55, 54, 55, 55, 55, 56, 55, 57, 56, 48, 56, 49, 56, 50, 56, 51, 56, 52, 56, 53, 56, 54, 56, 55, 56, 56, 56, 57, 57, 48, 57, 49, 57, 50, 57, 51, 57, 52, 57, 53, 57, 54, 57, 55, 57, 56, 57, 57])) (.reg 7)), o_ (.mov (.loc 12)), o_ (.indexS (.cst (.str [48, 48, 48, 49, 48, 50, 48, 51, 48, 52, 48, 53, 48, 54, 48, 55, 48, 56, 48, 57, 49, 48, 49, 49, 49, 50, 49, 51, 49, 52, 49, 53, 49, 54, 49, 55, 49, 56, 49, 57, 50, 48, 50, 49, 50, 50, 50, 51, 50, 52, 50, 53, 50, 54, 50, 55, 50, 56, 50, 57, 51, 48, 51, 49, 51, 50, 51, 51, 51, 52, 51, 53, 51, 54, 51, 55, 51, 56, 51, 57, 52, 48, 52, 49, 52, 50, 52, 51, 52, 52, 52, 53, 52, 54, 52, 55, 52, 56, 52, 57, 53, 48, 53, 49, 53, 50, 53, 51, 53, 52, 53, 53, 53, 54, 53, 55, 53, 56, 53, 57, 54, 48, 54, 49, 54, 50, 54, 51, 54, 52, 54, 53, 54, 54, 54, 55, 54, 56, 54, 57, 55, 48, 55, 49, 55, 50, 55, 51, 55, 52, 55, 53, 55, 54, 55, 55, 55, 56, 55, 57, 56, 48, 56, 49, 56, 50, 56, 51, 56, 52, 56, 53, 56, 54, 56, 55, 56, 56, 56, 57, 57, 48, 57, 49, 57, 50, 57, 51, 57, 52, 57, 53, 57, 54, 57, 55, 57, 56, 57, 57])) (.reg 9)), o_ (.indexAddrS 1 (.reg 0) (.reg 2)), o_ (.store 1 (.reg 11) (.reg 8)), o_ (.indexAddrS 1 (.reg 3) (.reg 5)), o_ (.store 1 (.reg 13) (.reg 10))])
  (.region [o_ (.mov (.loc 2)), o_ (.bin .sub (.reg 0) (.cst (.int .i64 4))), ⟨.mov (.reg 1), (some 2), none⟩]))))))
  .skip))
 (.seq (.seq (.region [o_ (.mov (.loc 2)), ⟨.bin .geq (.reg 0) (.cst (.int .i64 2)), (some 17), none⟩])
 (.cond (.loc 17)
  (.seq (.region [o_ (.mov (.loc 10)), o_ (.bin .rem (.reg 0) (.cst (.int .u32 100))), o_ (.bin .mul (.reg 1) (.cst (.int .u32 2))), ⟨.mov (.reg 2), (some 14), none⟩])
  (.seq (.region [o_ (.mov (.loc 10)), o_ (.bin .quo (.reg 0) (.cst (.int .u32 100))), ⟨.mov (.reg 1), (some 10), none⟩])
  (.seq (.draw [0, 1, 2, 3, 4, 5, 6, 7, 8, 9, 10, 11] [(12, [], [13]), (14, [], [])] [o_ (.mov (.loc 0)), o_ (.mov (.loc 2)), o_ (.bin .sub (.reg 1) (.cst (.int .i64 1))), o_ (.mov (.loc 0)), o_ (.mov (.loc 2)), o_ (.bin .sub (.reg 4) (.cst (.int .i64 2))), o_ (.mov (.loc 14)), o_ (.bin .add (.reg 6) (.cst (.int .u32 1))), o_ (.indexS (.cst (.str [48, 48, 48, 49, 48, 50, 48, 51, 48, 52, 48, 53, 48, 54, 48, 55, 48, 56, 48, 57, 49, 48, 49, 49, 49, 50, 49, 51, 49, 52, 49, 53, 49, 54, 49, 55, 49, 56, 49, 57, 50, 48, 50, 49, 50, 50, 50, 51, 50, 52, 50, 53, 50, 54, 50, 55, 50, 56, 50, 57, 51, 48, 51, 49, 51, 50, 51, 51, 51, 52, 51, 53, 51, 54, 51, 55, 51, 56, 51, 57, 52, 48, 52, 49, 52, 50, 52, 51, 52, 52, 52, 53, 52, 54, 52, 55, 52, 56, 52, 57, 53, 48, 53, 49, 53, 50, 53, 51, 53, 52, 53, 53, 53, 54, 53, 55, 53, 56, 53, 57, 54, 48, 54, 49, 54, 50, 54, 51, 54, 52, 54, 53, 54, 54, 54, 55, 54, 56, 54, 57, 55, 48, 55, 49, 55, 50, 55, 51, 55, 52, 55, 53, 55, 54, 55, 55, 55, 56, 55, 57, 56, 48, 56, 49, 56, 50, 56, 51, 56, 52, 56, 53, 56, 54, 56, 55, 56, 56, 56, 57, 57, 48, 57, 49, 57, 50, 57, 51, 57, 52, 57, 53, 57, 54, 57, 55, 57, 56, 57, 57])) (.reg 7)), o_ (.mov (.loc 14)), o_ (.indexS (.cst (.str [48, 48, 48, 49, 48, 50, 48, 51, 48, 52, 48, 53, 48, 54, 48, 55, 48, 56, 48, 57, 49, 48, 49, 49, 49, 50, 49, 51, 49, 52, 49, 53, 49, 54, 49, 55, 49, 56, 49, 57, 50, 48, 50, 49, 50, 50, 50, 51, 50, 52, 50, 53, 50, 54, 50, 55, 50, 56, 50, 57, 51, 48, 51, 49, 51, 50, 51, 51, 51, 52, 51, 53, 51, 54, 51, 55, 51, 56, 51, 57, 52, 48, 52, 49, 52, 50, 52, 51, 52, 52, 52, 53, 52, 54, 52, 55, 52, 56, 52, 57, 53, 48, 53, 49, 53, 50, 53, 51, 53, 52, 53, 53, 53, 54, 53, 55, 53, 56, 53, 57, 54, 48, 54, 49, 54, 50, 54, 51, 54, 52, 54, 53, 54, 54, 54, 55, 54, 56, 54, 57, 55, 48, 55, 49, 55, 50, 55, 51, 55, 52, 55, 53, 55, 54, 55, 55, 55, 56, 55, 57, 56, 48, 56, 49, 56, 50, 56, 51, 56, 52, 56, 53, 56, 54, 56, 55, 56, 56, 56, 57, 57, 48, 57, 49, 57, 50, 57, 51, 57, 52, 57, 53, 57, 54, 57, 55, 57, 56, 57, 57])) (.reg 9)), o_ (.indexAddrS 1 (.reg 0) (.reg 2)), o_ (.store 1 (.reg 11) (.reg 8)), o_ (.indexAddrS 1 (.reg 3) (.reg 5)), o_ (.store 1 (.reg 13) (.reg 10))])
  (.region [o_ (.mov (.loc 2)), o_ (.bin .sub (.reg 0) (.cst (.int .i64 2))), ⟨.mov (.reg 1), (some 2), none⟩]))))
  .skip))
 (.seq (.region [o_ (.mov (.loc 2)), ⟨.bin .gtr (.reg 0) (.cst (.int .i64 0)), (some 18), none⟩])
 (.cond (.loc 18)
  (.region [o_ (.mov (.loc 0)), o_ (.mov (.loc 10)), o_ (.bin .add (.cst (.int .u32 48)) (.reg 1)), o_ (.conv (.toInt .u8) (.reg 2)), o_ (.indexAddrS 1 (.reg 0) (.cst (.int .i64 0))), o_ (.store 1 (.reg 4) (.reg 3))])
  .skip)))))))⟩
theorem c95 : compFunc Tryd.prog opts a95 Tryd.f95 = some t95 := by kernel_rfl
end Go.Proofs.YtdbffhgfjmhaiaaDoor
