/- The functions of this seat, compiled for the evaluator TM, a part. By program. Condition: none. -/
import Derived.Test.YtdomjhilmamnpaaGreatDoorTmProg1
set_option maxRecDepth 100000
set_option linter.unusedVariables false
namespace Go.Proofs.YtdomjhilmamnpaaGreatDoor
open Go Go.TM
/-- strconv.FormatInt -/
def a164 : Ann := { slots := [0, 1, 4], lb := [], mu := [], trunc := [], draws := [] }
def t164 : TFunc := ⟨2, 3, [.loc 2],
 (.seq (.region [⟨.mov (.cst (.str [])), (some 2), none⟩])
 (.seq (.region [⟨.mov (.loc 0), none, none⟩, ⟨.mov (.loc 1), none, none⟩, ⟨.call true false 126 [(.reg 0), (.reg 1)], none, none⟩, ⟨.mov (.reg 2), (some 2), none⟩])
 .ret))⟩
theorem c164 : compFunc Tryz.prog opts a164 Tryz.f164 = some t164 := by kernel_rfl
/-- unicode/utf8.AppendRune -/
def a165 : Ann := { slots := [0, 1, 4, 7], lb := [], mu := [], trunc := [], draws := [] }
def t165 : TFunc := ⟨2, 4, [.loc 2],
 (.seq (.region [⟨.mov (.cst (.sl .nil [])), (some 2), none⟩])
 (.seq (.seq (.region [⟨.mov (.loc 1), none, none⟩, ⟨.conv (.toInt .u32) (.reg 0), none, none⟩, ⟨.bin .leq (.reg 1) (.cst (.int .u32 127)), (some 3), none⟩])
 (.cond (.loc 3)
  (.seq (.region [⟨.mov (.loc 0), none, none⟩, ⟨.mov (.loc 1), none, none⟩, ⟨.conv (.toInt .u8) (.reg 1), none, none⟩, ⟨.lit false [(.int .u8 0)] 1 [(0, (.reg 2))], none, none⟩, ⟨.append false 1 1 5 (.reg 0) (.reg 3), none, none⟩, ⟨.mov (.reg 4), (some 2), none⟩])
  .ret)
  .skip))
 (.seq (.region [⟨.mov (.loc 0), none, none⟩, ⟨.mov (.loc 1), none, none⟩, ⟨.call false false 189 [(.reg 0), (.reg 1)], none, none⟩, ⟨.mov (.reg 2), (some 2), none⟩])
 .ret)))⟩
theorem c165 : compFunc Tryz.prog opts a165 Tryz.f165 = some t165 := by kernel_rfl
/-- pennant/datum.quoted -/
def a166 : Ann := { slots := [0, 2, 3, 13, 16, 19], lb := [], mu := [], trunc := [], draws := [] }
def t166 : TFunc := ⟨1, 6, [.loc 1],
 (.seq (.region [⟨.mov (.cst (.str [])), (some 1), none⟩])
 (.seq (.block 0
  (.seq (.region [⟨.mov (.loc 0), none, none⟩, ⟨.bin .eql (.reg 0) (.cst (.int .i32 34)), none, none⟩, ⟨.mov (.reg 1), none, none⟩, ⟨.mov (.loc 0), none, (some (2, false))⟩, ⟨.bin .eql (.reg 3) (.cst (.int .i32 92)), none, (some (2, false))⟩, ⟨.pick (.reg 2) (.cst (.bool true)) (.reg 4), none, none⟩, ⟨.mov (.reg 5), (some 2), none⟩])
  (.cond (.loc 2)
   (.seq (.region [⟨.mov (.loc 0), none, none⟩, ⟨.conv .intStr (.reg 0), none, none⟩, ⟨.bin .add (.cst (.str [92])) (.reg 1), none, none⟩, ⟨.mov (.reg 2), (some 1), none⟩])
   .ret)
   (.seq (.region [⟨.mov (.loc 0), none, none⟩, ⟨.bin .eql (.reg 0) (.cst (.int .i32 10)), none, none⟩, ⟨.mov (.reg 1), (some 3), none⟩])
   (.cond (.loc 3)
    (.seq (.region [⟨.mov (.cst (.str [92, 110])), (some 1), none⟩])
    .ret)
    (.seq (.region [⟨.mov (.loc 0), none, none⟩, ⟨.bin .eql (.reg 0) (.cst (.int .i32 9)), none, none⟩, ⟨.mov (.reg 1), (some 4), none⟩])
    (.cond (.loc 4)
     (.seq (.region [⟨.mov (.cst (.str [92, 116])), (some 1), none⟩])
     .ret)
     (.seq (.region [⟨.mov (.loc 0), none, none⟩, ⟨.bin .lss (.reg 0) (.cst (.int .i32 32)), none, none⟩, ⟨.mov (.reg 1), none, none⟩, ⟨.mov (.loc 0), none, (some (2, false))⟩, ⟨.bin .eql (.reg 3) (.cst (.int .i32 127)), none, (some (2, false))⟩, ⟨.pick (.reg 2) (.cst (.bool true)) (.reg 4), none, none⟩, ⟨.mov (.reg 5), (some 5), none⟩])
     (.cond (.loc 5)
      (.seq (.region [⟨.mov (.loc 0), none, none⟩, ⟨.conv (.toInt .i64) (.reg 0), none, none⟩, ⟨.call true false 164 [(.reg 1), (.cst (.int .i64 16))], none, none⟩, ⟨.bin .add (.cst (.str [92, 120])) (.reg 2), none, none⟩, ⟨.bin .add (.reg 3) (.cst (.str [59])), none, none⟩, ⟨.mov (.reg 4), (some 1), none⟩])
      .ret)
      .skip)))))))))
 (.seq (.region [⟨.mov (.loc 0), none, none⟩, ⟨.conv .intStr (.reg 0), none, none⟩, ⟨.mov (.reg 1), (some 1), none⟩])
 .ret)))⟩
theorem c166 : compFunc Tryz.prog opts a166 Tryz.f166 = some t166 := by kernel_rfl
/-- pennant/datum.Items -/
def a167 : Ann := { slots := [0, 1, 2, 3, 5], lb := [3, 1], mu := [], trunc := [], draws := [(4, ⟨[0, 0, 1, 7], [0, 1, 2], [(3, [], [])]⟩)] }
def t167 : TFunc := ⟨1, 5, [.loc 2, .cell 3 5 true],
 (.seq (.region [⟨.boxL 1 (.loc 0), none, none⟩, ⟨.mov (.cst (.sl .nil [])), (some 2), none⟩, ⟨.allocL 3 [(.int .i64 0), (.int .i64 0), (.str []), (.sl .nil []), (.int .i64 0)], none, none⟩])
 (.seq (.block 0
  (.loop
   (.seq (.seq (.region [⟨.loadN 5 (.loc 1), none, none⟩, ⟨.call false false 82 [(.reg 0)], (some 4), none⟩])
   (.cond (.loc 4)
    .skip
    (.exit 0)))
   (.block 1
    (.seq (.region [⟨.mov (.loc 2), none, none⟩, ⟨.fieldAddr 3 (.loc 1), none, none⟩, ⟨.load1 (.reg 1), none, none⟩, ⟨.indexAddrS 5 (.reg 2) (.cst (.int .i64 0)), none, none⟩, ⟨.loadN 5 (.reg 3), none, none⟩, ⟨.lit false [(.int .i64 0), (.int .i64 0), (.str []), (.sl .nil []), (.int .i64 0)] 1 [(0, (.reg 4))], none, none⟩, ⟨.append false 5 64 39 (.reg 0) (.reg 5), none, none⟩, ⟨.mov (.reg 6), (some 2), none⟩])
    (.region [⟨.fieldAddr 3 (.loc 1), none, none⟩, ⟨.load1 (.reg 0), none, none⟩, ⟨.indexAddrS 5 (.reg 1) (.cst (.int .i64 1)), none, none⟩, ⟨.loadN 5 (.reg 2), none, none⟩, ⟨.store 5 (.loc 1) (.reg 3), none, none⟩]))))))
 (.seq (.draw [0, 1, 2] [(3, [], [])] [⟨.mov (.loc 2), none, none⟩, ⟨.loadN 5 (.loc 1), none, none⟩, ⟨.mov (.reg 0), (some 2), none⟩, ⟨.store 5 (.loc 3) (.reg 1), none, none⟩])
 .ret)))⟩
theorem c167 : compFunc Tryz.prog opts a167 Tryz.f167 = some t167 := by kernel_rfl
/-- internal/stringslite.TrimPrefix -/
def a170 : Ann := { slots := [0, 1, 4, 7], lb := [], mu := [], trunc := [], draws := [] }
def t170 : TFunc := ⟨2, 4, [.loc 2],
 (.seq (.region [⟨.mov (.cst (.str [])), (some 2), none⟩])
 (.seq (.seq (.region [⟨.mov (.loc 0), none, none⟩, ⟨.mov (.loc 1), none, none⟩, ⟨.call true false 190 [(.reg 0), (.reg 1)], (some 3), none⟩])
 (.cond (.loc 3)
  (.seq (.region [⟨.mov (.loc 0), none, none⟩, ⟨.mov (.loc 1), none, none⟩, ⟨.len .str (.reg 1), none, none⟩, ⟨.slice .str (.reg 0) (some (.reg 2)) none none, none, none⟩, ⟨.mov (.reg 3), (some 2), none⟩])
  .ret)
  .skip))
 (.seq (.region [⟨.mov (.loc 0), none, none⟩, ⟨.mov (.reg 0), (some 2), none⟩])
 .ret)))⟩
theorem c170 : compFunc Tryz.prog opts a170 Tryz.f170 = some t170 := by kernel_rfl
/-- strings.IndexFunc -/
def a171 : Ann := { slots := [0, 1, 4], lb := [], mu := [], trunc := [], draws := [] }
def t171 : TFunc := ⟨2, 3, [.loc 2],
 (.seq (.region [⟨.mov (.cst (.int .i64 0)), (some 2), none⟩])
 (.seq (.region [⟨.mov (.loc 0), none, none⟩, ⟨.mov (.loc 1), none, none⟩, ⟨.call false false 191 [(.reg 0), (.reg 1), (.cst (.bool true))], none, none⟩, ⟨.mov (.reg 2), (some 2), none⟩])
 .ret))⟩
theorem c171 : compFunc Tryz.prog opts a171 Tryz.f171 = some t171 := by kernel_rfl
/-- unicode/utf8.DecodeRune -/
def a172 : Ann := { slots := [0, 2, 3, 5, 6, 7, 8, 9, 13], lb := [], mu := [], trunc := [], draws := [] }
def t172 : TFunc := ⟨1, 9, [.loc 1, .loc 2],
 (.seq (.region [⟨.mov (.cst (.int .i32 0)), (some 1), none⟩, ⟨.mov (.cst (.int .i64 0)), (some 2), none⟩])
 (.seq (.seq (.region [⟨.mov (.loc 0), (some 4), none⟩, ⟨.len .sl (.reg 0), (some 5), none⟩, ⟨.mov (.cst (.int .i64 0)), (some 6), none⟩])
 (.block 0
  (.loop
   (.seq (.region [⟨.bin .lss (.loc 6) (.loc 5), (some 7), none⟩])
   (.seq (.cond (.loc 7)
    .skip
    (.exit 0))
   (.seq (.block 1
    (.seq (.region [⟨.indexAddrS 1 (.loc 4) (.loc 6), none, none⟩, ⟨.load1 (.reg 0), none, none⟩, ⟨.mov (.reg 1), (some 3), none⟩])
    (.seq (.seq (.region [⟨.mov (.loc 3), none, none⟩, ⟨.bin .lss (.reg 0) (.cst (.int .u8 128)), (some 8), none⟩])
    (.cond (.loc 8)
     (.seq (.region [⟨.mov (.loc 3), none, none⟩, ⟨.conv (.toInt .i32) (.reg 0), none, none⟩, ⟨.mov (.reg 1), (some 1), none⟩, ⟨.mov (.cst (.int .i64 1)), (some 2), none⟩])
     .ret)
     .skip))
    (.exit 0))))
   (.region [⟨.bin .add (.loc 6) (.cst (.int .i64 1)), none, none⟩, ⟨.mov (.reg 0), (some 6), none⟩])))))))
 (.seq (.region [⟨.mov (.loc 0), none, none⟩, ⟨.call true false 192 [(.reg 0)], none, none⟩, ⟨.mov (.reg 1), none, none⟩, ⟨.extract 0 (.reg 2), none, none⟩, ⟨.extract 1 (.reg 2), none, none⟩, ⟨.mov (.reg 3), (some 1), none⟩, ⟨.mov (.reg 4), (some 2), none⟩])
 .ret)))⟩
theorem c172 : compFunc Tryz.prog opts a172 Tryz.f172 = some t172 := by kernel_rfl
/-- pennant/utf.wrong -/
def a173 : Ann := { slots := [0, 1, 4], lb := [], mu := [], trunc := [], draws := [] }
def t173 : TFunc := ⟨2, 3, [.loc 2],
 (.seq (.region [⟨.mov (.cst (.bool false)), (some 2), none⟩])
 (.seq (.region [⟨.mov (.loc 0), none, none⟩, ⟨.bin .eql (.reg 0) (.cst (.int .i32 65533)), none, none⟩, ⟨.mov (.reg 1), none, none⟩, ⟨.mov (.loc 1), none, (some (2, true))⟩, ⟨.bin .leq (.reg 3) (.cst (.int .i64 1)), none, (some (2, true))⟩, ⟨.pick (.reg 2) (.reg 4) (.cst (.bool false)), none, none⟩, ⟨.mov (.reg 5), (some 2), none⟩])
 .ret))⟩
theorem c173 : compFunc Tryz.prog opts a173 Tryz.f173 = some t173 := by kernel_rfl
/-- slices.insertionSortOrdered[int] -/
def a174 : Ann := { slots := [0, 1, 2, 6, 7, 12, 30], lb := [], mu := [], trunc := [], draws := [(4, ⟨[0, 0, 3, 7, 15, 15, 63, 127, 15, 15, 527, 1807, 3855, 8191, 16383], [0, 1, 2, 3, 4, 5, 6, 7, 8, 9, 10, 11, 12], [(13, [], [14])]⟩), (6, ⟨[0, 0, 0, 0, 8, 0, 0, 64, 224, 480, 0, 0, 3072, 7168, 16355, 32739, 65535, 131071], [0, 1, 2, 3, 4, 5, 6, 7, 8, 9, 10, 11, 12, 13, 14], [(15, [], [16]), (17, [], [])]⟩)] }
def t174 : TFunc := ⟨3, 7, [],
 (.seq (.region [⟨.mov (.loc 1), none, none⟩, ⟨.bin .add (.reg 0) (.cst (.int .i64 1)), none, none⟩, ⟨.mov (.reg 1), (some 3), none⟩])
 (.block 0
  (.loop
   (.seq (.seq (.region [⟨.mov (.loc 3), none, none⟩, ⟨.mov (.loc 2), none, none⟩, ⟨.bin .lss (.reg 0) (.reg 1), (some 5), none⟩])
   (.cond (.loc 5)
    .skip
    (.exit 0)))
   (.seq (.block 1
    (.seq (.region [⟨.mov (.loc 3), none, none⟩, ⟨.mov (.reg 0), (some 4), none⟩])
    (.block 2
     (.loop
      (.seq (.seq (.draw [0, 1, 2, 3, 4, 5, 6, 7, 8, 9, 10, 11, 12] [(13, [], [14])] [⟨.mov (.loc 4), none, none⟩, ⟨.mov (.loc 1), none, none⟩, ⟨.bin .gtr (.reg 0) (.reg 1), none, none⟩, ⟨.mov (.reg 2), none, none⟩, ⟨.mov (.loc 0), none, (some (3, true))⟩, ⟨.mov (.loc 4), none, (some (3, true))⟩, ⟨.indexAddrS 1 (.reg 4) (.reg 5), none, (some (3, true))⟩, ⟨.load1 (.reg 6), none, (some (3, true))⟩, ⟨.mov (.loc 0), none, (some (3, true))⟩, ⟨.mov (.loc 4), none, (some (3, true))⟩, ⟨.bin .sub (.reg 9) (.cst (.int .i64 1)), none, (some (3, true))⟩, ⟨.indexAddrS 1 (.reg 8) (.reg 10), none, (some (3, true))⟩, ⟨.load1 (.reg 11), none, (some (3, true))⟩, ⟨.call true false 180 [(.reg 7), (.reg 12)], none, (some (3, true))⟩, ⟨.pick (.reg 3) (.reg 13) (.cst (.bool false)), (some 6), none⟩])
      (.cond (.loc 6)
       .skip
       (.exit 2)))
      (.seq (.block 3
       (.draw [0, 1, 2, 3, 4, 5, 6, 7, 8, 9, 10, 11, 12, 13, 14] [(15, [], [16]), (17, [], [])] [⟨.mov (.loc 0), none, none⟩, ⟨.mov (.loc 4), none, none⟩, ⟨.mov (.loc 0), none, none⟩, ⟨.mov (.loc 4), none, none⟩, ⟨.bin .sub (.reg 3) (.cst (.int .i64 1)), none, none⟩, ⟨.mov (.loc 0), none, none⟩, ⟨.mov (.loc 4), none, none⟩, ⟨.bin .sub (.reg 6) (.cst (.int .i64 1)), none, none⟩, ⟨.indexAddrS 1 (.reg 5) (.reg 7), none, none⟩, ⟨.load1 (.reg 8), none, none⟩, ⟨.mov (.loc 0), none, none⟩, ⟨.mov (.loc 4), none, none⟩, ⟨.indexAddrS 1 (.reg 10) (.reg 11), none, none⟩, ⟨.load1 (.reg 12), none, none⟩, ⟨.indexAddrS 1 (.reg 0) (.reg 1), none, none⟩, ⟨.store 1 (.reg 14) (.reg 9), none, none⟩, ⟨.indexAddrS 1 (.reg 2) (.reg 4), none, none⟩, ⟨.store 1 (.reg 16) (.reg 13), none, none⟩]))
      (.region [⟨.mov (.loc 4), none, none⟩, ⟨.bin .sub (.reg 0) (.cst (.int .i64 1)), none, none⟩, ⟨.mov (.reg 1), (some 4), none⟩])))))))
   (.region [⟨.mov (.loc 3), none, none⟩, ⟨.bin .add (.reg 0) (.cst (.int .i64 1)), none, none⟩, ⟨.mov (.reg 1), (some 3), none⟩]))))))⟩
theorem c174 : compFunc Tryz.prog opts a174 Tryz.f174 = some t174 := by kernel_rfl
/-- slices.heapSortOrdered[int] -/
def a175 : Ann := { slots := [0, 1, 2, 6, 7, 8, 9, 10, 19, 30], lb := [], mu := [], trunc := [], draws := [(10, ⟨[0, 0, 0, 0, 0, 24, 0, 0, 0, 384, 960, 1984, 0, 0, 12288, 28672, 65475, 131011, 262143, 524287], [0, 1, 2, 3, 4, 5, 6, 7, 8, 9, 10, 11, 12, 13, 14, 15, 16], [(17, [], [18]), (19, [], [])]⟩)] }
def t175 : TFunc := ⟨3, 10, [],
 (.seq (.region [⟨.mov (.loc 1), none, none⟩, ⟨.mov (.reg 0), (some 3), none⟩])
 (.seq (.region [⟨.mov (.cst (.int .i64 0)), (some 4), none⟩])
 (.seq (.region [⟨.mov (.loc 2), none, none⟩, ⟨.mov (.loc 1), none, none⟩, ⟨.bin .sub (.reg 0) (.reg 1), none, none⟩, ⟨.mov (.reg 2), (some 5), none⟩])
 (.seq (.seq (.region [⟨.mov (.loc 5), none, none⟩, ⟨.bin .sub (.reg 0) (.cst (.int .i64 1)), none, none⟩, ⟨.bin .quo (.reg 1) (.cst (.int .i64 2)), none, none⟩, ⟨.mov (.reg 2), (some 6), none⟩])
 (.block 0
  (.loop
   (.seq (.seq (.region [⟨.mov (.loc 6), none, none⟩, ⟨.bin .geq (.reg 0) (.cst (.int .i64 0)), (some 8), none⟩])
   (.cond (.loc 8)
    .skip
    (.exit 0)))
   (.seq (.block 1
    (.region [⟨.mov (.loc 0), none, none⟩, ⟨.mov (.loc 6), none, none⟩, ⟨.mov (.loc 5), none, none⟩, ⟨.mov (.loc 3), none, none⟩, ⟨.call false false 193 [(.reg 0), (.reg 1), (.reg 2), (.reg 3)], none, none⟩]))
   (.region [⟨.mov (.loc 6), none, none⟩, ⟨.bin .sub (.reg 0) (.cst (.int .i64 1)), none, none⟩, ⟨.mov (.reg 1), (some 6), none⟩]))))))
 (.seq (.region [⟨.mov (.loc 5), none, none⟩, ⟨.bin .sub (.reg 0) (.cst (.int .i64 1)), none, none⟩, ⟨.mov (.reg 1), (some 7), none⟩])
 (.block 2
  (.loop
   (.seq (.seq (.region [⟨.mov (.loc 7), none, none⟩, ⟨.bin .geq (.reg 0) (.cst (.int .i64 0)), (some 9), none⟩])
   (.cond (.loc 9)
    .skip
    (.exit 2)))
   (.seq (.block 3
    (.seq (.draw [0, 1, 2, 3, 4, 5, 6, 7, 8, 9, 10, 11, 12, 13, 14, 15, 16] [(17, [], [18]), (19, [], [])] [⟨.mov (.loc 0), none, none⟩, ⟨.mov (.loc 3), none, none⟩, ⟨.mov (.loc 0), none, none⟩, ⟨.mov (.loc 3), none, none⟩, ⟨.mov (.loc 7), none, none⟩, ⟨.bin .add (.reg 3) (.reg 4), none, none⟩, ⟨.mov (.loc 0), none, none⟩, ⟨.mov (.loc 3), none, none⟩, ⟨.mov (.loc 7), none, none⟩, ⟨.bin .add (.reg 7) (.reg 8), none, none⟩, ⟨.indexAddrS 1 (.reg 6) (.reg 9), none, none⟩, ⟨.load1 (.reg 10), none, none⟩, ⟨.mov (.loc 0), none, none⟩, ⟨.mov (.loc 3), none, none⟩, ⟨.indexAddrS 1 (.reg 12) (.reg 13), none, none⟩, ⟨.load1 (.reg 14), none, none⟩, ⟨.indexAddrS 1 (.reg 0) (.reg 1), none, none⟩, ⟨.store 1 (.reg 16) (.reg 11), none, none⟩, ⟨.indexAddrS 1 (.reg 2) (.reg 5), none, none⟩, ⟨.store 1 (.reg 18) (.reg 15), none, none⟩])
    (.region [⟨.mov (.loc 0), none, none⟩, ⟨.mov (.loc 4), none, none⟩, ⟨.mov (.loc 7), none, none⟩, ⟨.mov (.loc 3), none, none⟩, ⟨.call false false 193 [(.reg 0), (.reg 1), (.reg 2), (.reg 3)], none, none⟩])))
   (.region [⟨.mov (.loc 7), none, none⟩, ⟨.bin .sub (.reg 0) (.cst (.int .i64 1)), none, none⟩, ⟨.mov (.reg 1), (some 7), none⟩]))))))))))⟩
theorem c175 : compFunc Tryz.prog opts a175 Tryz.f175 = some t175 := by kernel_rfl
/-- slices.breakPatternsOrdered[int] -/
def a176 : Ann := { slots := [0, 1, 2, 6, 7, 8, 9, 10, 15, 33, 43], lb := [], mu := [], trunc := [], draws := [(10, ⟨[0, 0, 0, 0, 0, 24, 0, 0, 0, 384, 960, 1984, 0, 0, 12288, 28672, 65475, 131011, 262143, 524287], [0, 1, 2, 3, 4, 5, 6, 7, 8, 9, 10, 11, 12, 13, 14, 15, 16], [(17, [], [18]), (19, [], [])]⟩)] }
def t176 : TFunc := ⟨3, 11, [],
 (.seq (.region [⟨.mov (.loc 2), none, none⟩, ⟨.mov (.loc 1), none, none⟩, ⟨.bin .sub (.reg 0) (.reg 1), none, none⟩, ⟨.mov (.reg 2), (some 3), none⟩])
 (.seq (.region [⟨.mov (.loc 3), none, none⟩, ⟨.bin .geq (.reg 0) (.cst (.int .i64 8)), (some 8), none⟩])
 (.cond (.loc 8)
  (.seq (.region [⟨.mov (.loc 3), none, none⟩, ⟨.conv (.toInt .u64) (.reg 0), none, none⟩, ⟨.allocH 203 [(.int .u64 0)], (some 4), none⟩, ⟨.store 1 (.reg 2) (.reg 1), none, none⟩])
  (.seq (.region [⟨.mov (.loc 3), none, none⟩, ⟨.call true false 194 [(.reg 0)], none, none⟩, ⟨.mov (.reg 1), (some 5), none⟩])
  (.seq (.region [⟨.mov (.loc 1), none, none⟩, ⟨.mov (.loc 3), none, none⟩, ⟨.bin .quo (.reg 1) (.cst (.int .i64 4)), none, none⟩, ⟨.bin .mul (.reg 2) (.cst (.int .i64 2)), none, none⟩, ⟨.bin .add (.reg 0) (.reg 3), none, none⟩, ⟨.bin .sub (.reg 4) (.cst (.int .i64 1)), none, none⟩, ⟨.mov (.reg 5), (some 6), none⟩])
  (.block 0
   (.loop
    (.seq (.seq (.region [⟨.mov (.loc 6), none, none⟩, ⟨.mov (.loc 1), none, none⟩, ⟨.mov (.loc 3), none, none⟩, ⟨.bin .quo (.reg 2) (.cst (.int .i64 4)), none, none⟩, ⟨.bin .mul (.reg 3) (.cst (.int .i64 2)), none, none⟩, ⟨.bin .add (.reg 1) (.reg 4), none, none⟩, ⟨.bin .add (.reg 5) (.cst (.int .i64 1)), none, none⟩, ⟨.bin .leq (.reg 0) (.reg 6), (some 9), none⟩])
    (.cond (.loc 9)
     .skip
     (.exit 0)))
    (.seq (.block 1
     (.seq (.region [⟨.call false false 195 [(.loc 4)], none, none⟩, ⟨.mov (.loc 5), none, none⟩, ⟨.bin .sub (.reg 1) (.cst (.int .u64 1)), none, none⟩, ⟨.bin .and (.reg 0) (.reg 2), none, none⟩, ⟨.conv (.toInt .i64) (.reg 3), none, none⟩, ⟨.mov (.reg 4), (some 7), none⟩])
     (.seq (.seq (.region [⟨.mov (.loc 7), none, none⟩, ⟨.mov (.loc 3), none, none⟩, ⟨.bin .geq (.reg 0) (.reg 1), (some 10), none⟩])
     (.cond (.loc 10)
      (.region [⟨.mov (.loc 7), none, none⟩, ⟨.mov (.loc 3), none, none⟩, ⟨.bin .sub (.reg 0) (.reg 1), none, none⟩, ⟨.mov (.reg 2), (some 7), none⟩])
      .skip))
     (.draw [0, 1, 2, 3, 4, 5, 6, 7, 8, 9, 10, 11, 12, 13, 14, 15, 16] [(17, [], [18]), (19, [], [])] [⟨.mov (.loc 0), none, none⟩, ⟨.mov (.loc 6), none, none⟩, ⟨.mov (.loc 0), none, none⟩, ⟨.mov (.loc 1), none, none⟩, ⟨.mov (.loc 7), none, none⟩, ⟨.bin .add (.reg 3) (.reg 4), none, none⟩, ⟨.mov (.loc 0), none, none⟩, ⟨.mov (.loc 1), none, none⟩, ⟨.mov (.loc 7), none, none⟩, ⟨.bin .add (.reg 7) (.reg 8), none, none⟩, ⟨.indexAddrS 1 (.reg 6) (.reg 9), none, none⟩, ⟨.load1 (.reg 10), none, none⟩, ⟨.mov (.loc 0), none, none⟩, ⟨.mov (.loc 6), none, none⟩, ⟨.indexAddrS 1 (.reg 12) (.reg 13), none, none⟩, ⟨.load1 (.reg 14), none, none⟩, ⟨.indexAddrS 1 (.reg 0) (.reg 1), none, none⟩, ⟨.store 1 (.reg 16) (.reg 11), none, none⟩, ⟨.indexAddrS 1 (.reg 2) (.reg 5), none, none⟩, ⟨.store 1 (.reg 18) (.reg 15), none, none⟩]))))
    (.region [⟨.mov (.loc 6), none, none⟩, ⟨.bin .add (.reg 0) (.cst (.int .i64 1)), none, none⟩, ⟨.mov (.reg 1), (some 6), none⟩]))))))))
  .skip)))⟩
theorem c176 : compFunc Tryz.prog opts a176 Tryz.f176 = some t176 := by kernel_rfl
/-- slices.choosePivotOrdered[int] -/
def a177 : Ann := { slots := [0, 1, 2, 6, 7, 8, 9, 10, 11, 12, 32, 34, 49, 51, 54], lb := [], mu := [], trunc := [], draws := [] }
def t177 : TFunc := ⟨3, 15, [.loc 3, .loc 4],
 (.seq (.region [⟨.mov (.cst (.int .i64 0)), (some 3), none⟩, ⟨.mov (.cst (.int .i64 0)), (some 4), none⟩])
 (.seq (.region [⟨.mov (.loc 2), none, none⟩, ⟨.mov (.loc 1), none, none⟩, ⟨.bin .sub (.reg 0) (.reg 1), none, none⟩, ⟨.mov (.reg 2), (some 5), none⟩])
 (.seq (.region [⟨.allocH 4 [(.int .i64 0)], (some 6), none⟩])
 (.seq (.region [⟨.mov (.loc 1), none, none⟩, ⟨.mov (.loc 5), none, none⟩, ⟨.bin .quo (.reg 1) (.cst (.int .i64 4)), none, none⟩, ⟨.bin .mul (.reg 2) (.cst (.int .i64 1)), none, none⟩, ⟨.bin .add (.reg 0) (.reg 3), none, none⟩, ⟨.mov (.reg 4), (some 7), none⟩])
 (.seq (.region [⟨.mov (.loc 1), none, none⟩, ⟨.mov (.loc 5), none, none⟩, ⟨.bin .quo (.reg 1) (.cst (.int .i64 4)), none, none⟩, ⟨.bin .mul (.reg 2) (.cst (.int .i64 2)), none, none⟩, ⟨.bin .add (.reg 0) (.reg 3), none, none⟩, ⟨.mov (.reg 4), (some 8), none⟩])
 (.seq (.region [⟨.mov (.loc 1), none, none⟩, ⟨.mov (.loc 5), none, none⟩, ⟨.bin .quo (.reg 1) (.cst (.int .i64 4)), none, none⟩, ⟨.bin .mul (.reg 2) (.cst (.int .i64 3)), none, none⟩, ⟨.bin .add (.reg 0) (.reg 3), none, none⟩, ⟨.mov (.reg 4), (some 9), none⟩])
 (.seq (.seq (.region [⟨.mov (.loc 5), none, none⟩, ⟨.bin .geq (.reg 0) (.cst (.int .i64 8)), (some 10), none⟩])
 (.cond (.loc 10)
  (.seq (.seq (.region [⟨.mov (.loc 5), none, none⟩, ⟨.bin .geq (.reg 0) (.cst (.int .i64 50)), (some 11), none⟩])
  (.cond (.loc 11)
   (.seq (.region [⟨.mov (.loc 0), none, none⟩, ⟨.mov (.loc 7), none, none⟩, ⟨.call false false 196 [(.reg 0), (.reg 1), (.loc 6)], none, none⟩, ⟨.mov (.reg 2), (some 7), none⟩])
   (.seq (.region [⟨.mov (.loc 0), none, none⟩, ⟨.mov (.loc 8), none, none⟩, ⟨.call false false 196 [(.reg 0), (.reg 1), (.loc 6)], none, none⟩, ⟨.mov (.reg 2), (some 8), none⟩])
   (.region [⟨.mov (.loc 0), none, none⟩, ⟨.mov (.loc 9), none, none⟩, ⟨.call false false 196 [(.reg 0), (.reg 1), (.loc 6)], none, none⟩, ⟨.mov (.reg 2), (some 9), none⟩])))
   .skip))
  (.region [⟨.mov (.loc 0), none, none⟩, ⟨.mov (.loc 7), none, none⟩, ⟨.mov (.loc 8), none, none⟩, ⟨.mov (.loc 9), none, none⟩, ⟨.call false false 197 [(.reg 0), (.reg 1), (.reg 2), (.reg 3), (.loc 6)], none, none⟩, ⟨.mov (.reg 4), (some 8), none⟩]))
  .skip))
 (.seq (.region [⟨.load1 (.loc 6), (some 12), none⟩])
 (.block 0
  (.seq (.region [⟨.bin .eql (.loc 12) (.cst (.int .i64 0)), none, none⟩, ⟨.mov (.reg 0), (some 13), none⟩])
  (.cond (.loc 13)
   (.seq (.region [⟨.mov (.loc 8), none, none⟩, ⟨.mov (.reg 0), (some 3), none⟩, ⟨.mov (.cst (.int .i64 1)), (some 4), none⟩])
   .ret)
   (.seq (.region [⟨.bin .eql (.loc 12) (.cst (.int .i64 12)), none, none⟩, ⟨.mov (.reg 0), (some 14), none⟩])
   (.cond (.loc 14)
    (.seq (.region [⟨.mov (.loc 8), none, none⟩, ⟨.mov (.reg 0), (some 3), none⟩, ⟨.mov (.cst (.int .i64 2)), (some 4), none⟩])
    .ret)
    (.seq (.region [⟨.mov (.loc 8), none, none⟩, ⟨.mov (.reg 0), (some 3), none⟩, ⟨.mov (.cst (.int .i64 0)), (some 4), none⟩])
    .ret))))))))))))))⟩
theorem c177 : compFunc Tryz.prog opts a177 Tryz.f177 = some t177 := by kernel_rfl
/-- slices.reverseRangeOrdered[int] -/
def a178 : Ann := { slots := [0, 1, 2, 6, 7, 13], lb := [], mu := [], trunc := [], draws := [(3, ⟨[0, 0, 0, 0, 0, 0, 48, 112, 0, 0, 768, 1792, 4083, 8179, 16383, 32767], [0, 1, 2, 3, 4, 5, 6, 7, 8, 9, 10, 11, 12], [(13, [], [14]), (15, [], [])]⟩)] }
def t178 : TFunc := ⟨3, 6, [],
 (.seq (.region [⟨.mov (.loc 1), none, none⟩, ⟨.mov (.reg 0), (some 3), none⟩])
 (.seq (.region [⟨.mov (.loc 2), none, none⟩, ⟨.bin .sub (.reg 0) (.cst (.int .i64 1)), none, none⟩, ⟨.mov (.reg 1), (some 4), none⟩])
 (.block 0
  (.loop
   (.seq (.seq (.region [⟨.mov (.loc 3), none, none⟩, ⟨.mov (.loc 4), none, none⟩, ⟨.bin .lss (.reg 0) (.reg 1), (some 5), none⟩])
   (.cond (.loc 5)
    .skip
    (.exit 0)))
   (.block 1
    (.seq (.draw [0, 1, 2, 3, 4, 5, 6, 7, 8, 9, 10, 11, 12] [(13, [], [14]), (15, [], [])] [⟨.mov (.loc 0), none, none⟩, ⟨.mov (.loc 3), none, none⟩, ⟨.mov (.loc 0), none, none⟩, ⟨.mov (.loc 4), none, none⟩, ⟨.mov (.loc 0), none, none⟩, ⟨.mov (.loc 4), none, none⟩, ⟨.indexAddrS 1 (.reg 4) (.reg 5), none, none⟩, ⟨.load1 (.reg 6), none, none⟩, ⟨.mov (.loc 0), none, none⟩, ⟨.mov (.loc 3), none, none⟩, ⟨.indexAddrS 1 (.reg 8) (.reg 9), none, none⟩, ⟨.load1 (.reg 10), none, none⟩, ⟨.indexAddrS 1 (.reg 0) (.reg 1), none, none⟩, ⟨.store 1 (.reg 12) (.reg 7), none, none⟩, ⟨.indexAddrS 1 (.reg 2) (.reg 3), none, none⟩, ⟨.store 1 (.reg 14) (.reg 11), none, none⟩])
    (.seq (.region [⟨.mov (.loc 3), none, none⟩, ⟨.bin .add (.reg 0) (.cst (.int .i64 1)), none, none⟩, ⟨.mov (.reg 1), (some 3), none⟩])
    (.region [⟨.mov (.loc 4), none, none⟩, ⟨.bin .sub (.reg 0) (.cst (.int .i64 1)), none, none⟩, ⟨.mov (.reg 1), (some 4), none⟩])))))))))⟩
theorem c178 : compFunc Tryz.prog opts a178 Tryz.f178 = some t178 := by kernel_rfl
/-- slices.partialInsertionSortOrdered[int] -/
def a179 : Ann := { slots := [0, 1, 2, 6, 7, 8, 9, 10, 14, 32, 37, 41, 61, 65, 78, 98, 103, 116], lb := [], mu := [], trunc := [], draws := [(5, ⟨[0, 0, 3, 7, 15, 15, 63, 127, 15, 15, 527, 1807, 3855, 8191, 16383, 32767], [0, 1, 2, 3, 4, 5, 6, 7, 8, 9, 10, 11, 12], [(13, [], [14, 15])]⟩), (11, ⟨[0, 0, 0, 0, 8, 0, 0, 64, 224, 480, 0, 0, 3072, 7168, 16355, 32739, 65535, 131071], [0, 1, 2, 3, 4, 5, 6, 7, 8, 9, 10, 11, 12, 13, 14], [(15, [], [16]), (17, [], [])]⟩), (16, ⟨[0, 0, 3, 7, 0, 0, 32, 112, 240, 511, 1023], [0, 1, 2, 3, 4, 5, 6, 7, 8], [(9, [], [10])]⟩), (17, ⟨[0, 0, 0, 0, 8, 0, 0, 64, 224, 480, 0, 0, 3072, 7168, 16355, 32739, 65535, 131071], [0, 1, 2, 3, 4, 5, 6, 7, 8, 9, 10, 11, 12, 13, 14], [(15, [], [16]), (17, [], [])]⟩), (22, ⟨[0, 0, 3, 7, 0, 0, 32, 112, 240, 511, 1023], [0, 1, 2, 3, 4, 5, 6, 7, 8], [(9, [], [10])]⟩), (23, ⟨[0, 0, 0, 0, 8, 0, 0, 64, 224, 480, 0, 0, 3072, 7168, 16355, 32739, 65535, 131071], [0, 1, 2, 3, 4, 5, 6, 7, 8, 9, 10, 11, 12, 13, 14], [(15, [], [16]), (17, [], [])]⟩)] }
def t179 : TFunc := ⟨3, 18, [.loc 3],
 (.seq (.region [⟨.mov (.cst (.bool false)), (some 3), none⟩])
 (.seq (.region [⟨.mov (.loc 1), none, none⟩, ⟨.bin .add (.reg 0) (.cst (.int .i64 1)), none, none⟩, ⟨.mov (.reg 1), (some 4), none⟩])
 (.seq (.seq (.region [⟨.mov (.cst (.int .i64 0)), (some 5), none⟩])
 (.block 0
  (.loop
   (.seq (.seq (.region [⟨.mov (.loc 5), none, none⟩, ⟨.bin .lss (.reg 0) (.cst (.int .i64 5)), (some 8), none⟩])
   (.cond (.loc 8)
    .skip
    (.exit 0)))
   (.seq (.block 1
    (.seq (.block 2
     (.loop
      (.seq (.seq (.draw [0, 1, 2, 3, 4, 5, 6, 7, 8, 9, 10, 11, 12] [(13, [], [14, 15])] [⟨.mov (.loc 4), none, none⟩, ⟨.mov (.loc 2), none, none⟩, ⟨.bin .lss (.reg 0) (.reg 1), none, none⟩, ⟨.mov (.reg 2), none, none⟩, ⟨.mov (.loc 0), none, (some (3, true))⟩, ⟨.mov (.loc 4), none, (some (3, true))⟩, ⟨.indexAddrS 1 (.reg 4) (.reg 5), none, (some (3, true))⟩, ⟨.load1 (.reg 6), none, (some (3, true))⟩, ⟨.mov (.loc 0), none, (some (3, true))⟩, ⟨.mov (.loc 4), none, (some (3, true))⟩, ⟨.bin .sub (.reg 9) (.cst (.int .i64 1)), none, (some (3, true))⟩, ⟨.indexAddrS 1 (.reg 8) (.reg 10), none, (some (3, true))⟩, ⟨.load1 (.reg 11), none, (some (3, true))⟩, ⟨.call true false 180 [(.reg 7), (.reg 12)], none, (some (3, true))⟩, ⟨.un .not (.reg 13), none, (some (3, true))⟩, ⟨.pick (.reg 3) (.reg 14) (.cst (.bool false)), (some 9), none⟩])
      (.cond (.loc 9)
       .skip
       (.exit 2)))
      (.block 3
       (.region [⟨.mov (.loc 4), none, none⟩, ⟨.bin .add (.reg 0) (.cst (.int .i64 1)), none, none⟩, ⟨.mov (.reg 1), (some 4), none⟩])))))
    (.seq (.seq (.region [⟨.mov (.loc 4), none, none⟩, ⟨.mov (.loc 2), none, none⟩, ⟨.bin .eql (.reg 0) (.reg 1), (some 10), none⟩])
    (.cond (.loc 10)
     (.seq (.region [⟨.mov (.cst (.bool true)), (some 3), none⟩])
     .ret)
     .skip))
    (.seq (.seq (.region [⟨.mov (.loc 2), none, none⟩, ⟨.mov (.loc 1), none, none⟩, ⟨.bin .sub (.reg 0) (.reg 1), none, none⟩, ⟨.bin .lss (.reg 2) (.cst (.int .i64 50)), (some 11), none⟩])
    (.cond (.loc 11)
     (.seq (.region [⟨.mov (.cst (.bool false)), (some 3), none⟩])
     .ret)
     .skip))
    (.seq (.draw [0, 1, 2, 3, 4, 5, 6, 7, 8, 9, 10, 11, 12, 13, 14] [(15, [], [16]), (17, [], [])] [⟨.mov (.loc 0), none, none⟩, ⟨.mov (.loc 4), none, none⟩, ⟨.mov (.loc 0), none, none⟩, ⟨.mov (.loc 4), none, none⟩, ⟨.bin .sub (.reg 3) (.cst (.int .i64 1)), none, none⟩, ⟨.mov (.loc 0), none, none⟩, ⟨.mov (.loc 4), none, none⟩, ⟨.bin .sub (.reg 6) (.cst (.int .i64 1)), none, none⟩, ⟨.indexAddrS 1 (.reg 5) (.reg 7), none, none⟩, ⟨.load1 (.reg 8), none, none⟩, ⟨.mov (.loc 0), none, none⟩, ⟨.mov (.loc 4), none, none⟩, ⟨.indexAddrS 1 (.reg 10) (.reg 11), none, none⟩, ⟨.load1 (.reg 12), none, none⟩, ⟨.indexAddrS 1 (.reg 0) (.reg 1), none, none⟩, ⟨.store 1 (.reg 14) (.reg 9), none, none⟩, ⟨.indexAddrS 1 (.reg 2) (.reg 4), none, none⟩, ⟨.store 1 (.reg 16) (.reg 13), none, none⟩])
    (.seq (.seq (.region [⟨.mov (.loc 4), none, none⟩, ⟨.mov (.loc 1), none, none⟩, ⟨.bin .sub (.reg 0) (.reg 1), none, none⟩, ⟨.bin .geq (.reg 2) (.cst (.int .i64 2)), (some 12), none⟩])
    (.cond (.loc 12)
     (.seq (.region [⟨.mov (.loc 4), none, none⟩, ⟨.bin .sub (.reg 0) (.cst (.int .i64 1)), none, none⟩, ⟨.mov (.reg 1), (some 6), none⟩])
     (.block 4
      (.loop
       (.seq (.seq (.region [⟨.mov (.loc 6), none, none⟩, ⟨.bin .geq (.reg 0) (.cst (.int .i64 1)), (some 13), none⟩])
       (.cond (.loc 13)
        .skip
        (.exit 4)))
       (.seq (.block 5
        (.seq (.seq (.draw [0, 1, 2, 3, 4, 5, 6, 7, 8] [(9, [], [10])] [⟨.mov (.loc 0), none, none⟩, ⟨.mov (.loc 6), none, none⟩, ⟨.indexAddrS 1 (.reg 0) (.reg 1), none, none⟩, ⟨.load1 (.reg 2), none, none⟩, ⟨.mov (.loc 0), none, none⟩, ⟨.mov (.loc 6), none, none⟩, ⟨.bin .sub (.reg 5) (.cst (.int .i64 1)), none, none⟩, ⟨.indexAddrS 1 (.reg 4) (.reg 6), none, none⟩, ⟨.load1 (.reg 7), none, none⟩, ⟨.call true false 180 [(.reg 3), (.reg 8)], none, none⟩, ⟨.un .not (.reg 9), (some 14), none⟩])
        (.cond (.loc 14)
         (.exit 4)
         .skip))
        (.draw [0, 1, 2, 3, 4, 5, 6, 7, 8, 9, 10, 11, 12, 13, 14] [(15, [], [16]), (17, [], [])] [⟨.mov (.loc 0), none, none⟩, ⟨.mov (.loc 6), none, none⟩, ⟨.mov (.loc 0), none, none⟩, ⟨.mov (.loc 6), none, none⟩, ⟨.bin .sub (.reg 3) (.cst (.int .i64 1)), none, none⟩, ⟨.mov (.loc 0), none, none⟩, ⟨.mov (.loc 6), none, none⟩, ⟨.bin .sub (.reg 6) (.cst (.int .i64 1)), none, none⟩, ⟨.indexAddrS 1 (.reg 5) (.reg 7), none, none⟩, ⟨.load1 (.reg 8), none, none⟩, ⟨.mov (.loc 0), none, none⟩, ⟨.mov (.loc 6), none, none⟩, ⟨.indexAddrS 1 (.reg 10) (.reg 11), none, none⟩, ⟨.load1 (.reg 12), none, none⟩, ⟨.indexAddrS 1 (.reg 0) (.reg 1), none, none⟩, ⟨.store 1 (.reg 14) (.reg 9), none, none⟩, ⟨.indexAddrS 1 (.reg 2) (.reg 4), none, none⟩, ⟨.store 1 (.reg 16) (.reg 13), none, none⟩])))
       (.region [⟨.mov (.loc 6), none, none⟩, ⟨.bin .sub (.reg 0) (.cst (.int .i64 1)), none, none⟩, ⟨.mov (.reg 1), (some 6), none⟩]))))))
     .skip))
    (.seq (.region [⟨.mov (.loc 2), none, none⟩, ⟨.mov (.loc 4), none, none⟩, ⟨.bin .sub (.reg 0) (.reg 1), none, none⟩, ⟨.bin .geq (.reg 2) (.cst (.int .i64 2)), (some 15), none⟩])
    (.cond (.loc 15)
     (.seq (.region [⟨.mov (.loc 4), none, none⟩, ⟨.bin .add (.reg 0) (.cst (.int .i64 1)), none, none⟩, ⟨.mov (.reg 1), (some 7), none⟩])
     (.block 6
      (.loop
       (.seq (.seq (.region [⟨.mov (.loc 7), none, none⟩, ⟨.mov (.loc 2), none, none⟩, ⟨.bin .lss (.reg 0) (.reg 1), (some 16), none⟩])
       (.cond (.loc 16)
        .skip
        (.exit 6)))
       (.seq (.block 7
        (.seq (.seq (.draw [0, 1, 2, 3, 4, 5, 6, 7, 8] [(9, [], [10])] [⟨.mov (.loc 0), none, none⟩, ⟨.mov (.loc 7), none, none⟩, ⟨.indexAddrS 1 (.reg 0) (.reg 1), none, none⟩, ⟨.load1 (.reg 2), none, none⟩, ⟨.mov (.loc 0), none, none⟩, ⟨.mov (.loc 7), none, none⟩, ⟨.bin .sub (.reg 5) (.cst (.int .i64 1)), none, none⟩, ⟨.indexAddrS 1 (.reg 4) (.reg 6), none, none⟩, ⟨.load1 (.reg 7), none, none⟩, ⟨.call true false 180 [(.reg 3), (.reg 8)], none, none⟩, ⟨.un .not (.reg 9), (some 17), none⟩])
        (.cond (.loc 17)
         (.exit 6)
         .skip))
        (.draw [0, 1, 2, 3, 4, 5, 6, 7, 8, 9, 10, 11, 12, 13, 14] [(15, [], [16]), (17, [], [])] [⟨.mov (.loc 0), none, none⟩, ⟨.mov (.loc 7), none, none⟩, ⟨.mov (.loc 0), none, none⟩, ⟨.mov (.loc 7), none, none⟩, ⟨.bin .sub (.reg 3) (.cst (.int .i64 1)), none, none⟩, ⟨.mov (.loc 0), none, none⟩, ⟨.mov (.loc 7), none, none⟩, ⟨.bin .sub (.reg 6) (.cst (.int .i64 1)), none, none⟩, ⟨.indexAddrS 1 (.reg 5) (.reg 7), none, none⟩, ⟨.load1 (.reg 8), none, none⟩, ⟨.mov (.loc 0), none, none⟩, ⟨.mov (.loc 7), none, none⟩, ⟨.indexAddrS 1 (.reg 10) (.reg 11), none, none⟩, ⟨.load1 (.reg 12), none, none⟩, ⟨.indexAddrS 1 (.reg 0) (.reg 1), none, none⟩, ⟨.store 1 (.reg 14) (.reg 9), none, none⟩, ⟨.indexAddrS 1 (.reg 2) (.reg 4), none, none⟩, ⟨.store 1 (.reg 16) (.reg 13), none, none⟩])))
       (.region [⟨.mov (.loc 7), none, none⟩, ⟨.bin .add (.reg 0) (.cst (.int .i64 1)), none, none⟩, ⟨.mov (.reg 1), (some 7), none⟩]))))))
     .skip))))))))
   (.region [⟨.mov (.loc 5), none, none⟩, ⟨.bin .add (.reg 0) (.cst (.int .i64 1)), none, none⟩, ⟨.mov (.reg 1), (some 5), none⟩]))))))
 (.seq (.region [⟨.mov (.cst (.bool false)), (some 3), none⟩])
 .ret))))⟩
theorem c179 : compFunc Tryz.prog opts a179 Tryz.f179 = some t179 := by kernel_rfl
/-- cmp.Less[int] -/
def a180 : Ann := { slots := [0, 1, 4], lb := [], mu := [], trunc := [], draws := [] }
def t180 : TFunc := ⟨2, 3, [.loc 2],
 (.seq (.region [⟨.mov (.cst (.bool false)), (some 2), none⟩])
 (.seq (.region [⟨.mov (.loc 0), none, none⟩, ⟨.call true false 198 [(.reg 0)], none, none⟩, ⟨.mov (.reg 1), none, none⟩, ⟨.mov (.loc 1), none, (some (2, true))⟩, ⟨.call true false 198 [(.reg 3)], none, (some (2, true))⟩, ⟨.un .not (.reg 4), none, (some (2, true))⟩, ⟨.pick (.reg 2) (.reg 5) (.cst (.bool false)), none, none⟩, ⟨.mov (.reg 6), none, none⟩, ⟨.mov (.loc 0), none, (some (7, false))⟩, ⟨.mov (.loc 1), none, (some (7, false))⟩, ⟨.bin .lss (.reg 8) (.reg 9), none, (some (7, false))⟩, ⟨.pick (.reg 7) (.cst (.bool true)) (.reg 10), none, none⟩, ⟨.mov (.reg 11), (some 2), none⟩])
 .ret))⟩
theorem c180 : compFunc Tryz.prog opts a180 Tryz.f180 = some t180 := by kernel_rfl
/-- slices.partitionEqualOrdered[int] -/
def a181 : Ann := { slots := [0, 1, 2, 3, 8, 9, 10, 43, 59, 64], lb := [], mu := [], trunc := [], draws := [(1, ⟨[0, 0, 0, 0, 0, 0, 48, 112, 0, 0, 768, 1792, 4083, 8179, 16383, 32767], [0, 1, 2, 3, 4, 5, 6, 7, 8, 9, 10, 11, 12], [(13, [], [14]), (15, [], [])]⟩), (3, ⟨[0, 0, 3, 7, 15, 15, 63, 127, 15, 15, 783, 1807, 4095, 8191, 16383], [0, 1, 2, 3, 4, 5, 6, 7, 8, 9, 10, 11], [(12, [], [13, 14])]⟩), (5, ⟨[0, 0, 3, 7, 15, 15, 63, 127, 15, 15, 783, 1807, 4095, 8191], [0, 1, 2, 3, 4, 5, 6, 7, 8, 9, 10, 11], [(12, [], [13])]⟩), (8, ⟨[0, 0, 0, 0, 0, 0, 48, 112, 0, 0, 768, 1792, 4083, 8179, 16383, 32767], [0, 1, 2, 3, 4, 5, 6, 7, 8, 9, 10, 11, 12], [(13, [], [14]), (15, [], [])]⟩)] }
def t181 : TFunc := ⟨4, 10, [.loc 4],
 (.seq (.region [⟨.mov (.cst (.int .i64 0)), (some 4), none⟩])
 (.seq (.draw [0, 1, 2, 3, 4, 5, 6, 7, 8, 9, 10, 11, 12] [(13, [], [14]), (15, [], [])] [⟨.mov (.loc 0), none, none⟩, ⟨.mov (.loc 1), none, none⟩, ⟨.mov (.loc 0), none, none⟩, ⟨.mov (.loc 3), none, none⟩, ⟨.mov (.loc 0), none, none⟩, ⟨.mov (.loc 3), none, none⟩, ⟨.indexAddrS 1 (.reg 4) (.reg 5), none, none⟩, ⟨.load1 (.reg 6), none, none⟩, ⟨.mov (.loc 0), none, none⟩, ⟨.mov (.loc 1), none, none⟩, ⟨.indexAddrS 1 (.reg 8) (.reg 9), none, none⟩, ⟨.load1 (.reg 10), none, none⟩, ⟨.indexAddrS 1 (.reg 0) (.reg 1), none, none⟩, ⟨.store 1 (.reg 12) (.reg 7), none, none⟩, ⟨.indexAddrS 1 (.reg 2) (.reg 3), none, none⟩, ⟨.store 1 (.reg 14) (.reg 11), none, none⟩])
 (.seq (.region [⟨.mov (.loc 1), none, none⟩, ⟨.bin .add (.reg 0) (.cst (.int .i64 1)), none, none⟩, ⟨.mov (.loc 2), none, none⟩, ⟨.bin .sub (.reg 2) (.cst (.int .i64 1)), none, none⟩, ⟨.mov (.reg 1), (some 5), none⟩, ⟨.mov (.reg 3), (some 6), none⟩])
 (.seq (.block 0
  (.loop
   (.block 1
    (.seq (.block 2
     (.loop
      (.seq (.seq (.draw [0, 1, 2, 3, 4, 5, 6, 7, 8, 9, 10, 11] [(12, [], [13, 14])] [⟨.mov (.loc 5), none, none⟩, ⟨.mov (.loc 6), none, none⟩, ⟨.bin .leq (.reg 0) (.reg 1), none, none⟩, ⟨.mov (.reg 2), none, none⟩, ⟨.mov (.loc 0), none, (some (3, true))⟩, ⟨.mov (.loc 1), none, (some (3, true))⟩, ⟨.indexAddrS 1 (.reg 4) (.reg 5), none, (some (3, true))⟩, ⟨.load1 (.reg 6), none, (some (3, true))⟩, ⟨.mov (.loc 0), none, (some (3, true))⟩, ⟨.mov (.loc 5), none, (some (3, true))⟩, ⟨.indexAddrS 1 (.reg 8) (.reg 9), none, (some (3, true))⟩, ⟨.load1 (.reg 10), none, (some (3, true))⟩, ⟨.call true false 180 [(.reg 7), (.reg 11)], none, (some (3, true))⟩, ⟨.un .not (.reg 12), none, (some (3, true))⟩, ⟨.pick (.reg 3) (.reg 13) (.cst (.bool false)), (some 7), none⟩])
      (.cond (.loc 7)
       .skip
       (.exit 2)))
      (.block 3
       (.region [⟨.mov (.loc 5), none, none⟩, ⟨.bin .add (.reg 0) (.cst (.int .i64 1)), none, none⟩, ⟨.mov (.reg 1), (some 5), none⟩])))))
    (.seq (.block 4
     (.loop
      (.seq (.seq (.draw [0, 1, 2, 3, 4, 5, 6, 7, 8, 9, 10, 11] [(12, [], [13])] [⟨.mov (.loc 5), none, none⟩, ⟨.mov (.loc 6), none, none⟩, ⟨.bin .leq (.reg 0) (.reg 1), none, none⟩, ⟨.mov (.reg 2), none, none⟩, ⟨.mov (.loc 0), none, (some (3, true))⟩, ⟨.mov (.loc 1), none, (some (3, true))⟩, ⟨.indexAddrS 1 (.reg 4) (.reg 5), none, (some (3, true))⟩, ⟨.load1 (.reg 6), none, (some (3, true))⟩, ⟨.mov (.loc 0), none, (some (3, true))⟩, ⟨.mov (.loc 6), none, (some (3, true))⟩, ⟨.indexAddrS 1 (.reg 8) (.reg 9), none, (some (3, true))⟩, ⟨.load1 (.reg 10), none, (some (3, true))⟩, ⟨.call true false 180 [(.reg 7), (.reg 11)], none, (some (3, true))⟩, ⟨.pick (.reg 3) (.reg 12) (.cst (.bool false)), (some 8), none⟩])
      (.cond (.loc 8)
       .skip
       (.exit 4)))
      (.block 5
       (.region [⟨.mov (.loc 6), none, none⟩, ⟨.bin .sub (.reg 0) (.cst (.int .i64 1)), none, none⟩, ⟨.mov (.reg 1), (some 6), none⟩])))))
    (.seq (.seq (.region [⟨.mov (.loc 5), none, none⟩, ⟨.mov (.loc 6), none, none⟩, ⟨.bin .gtr (.reg 0) (.reg 1), (some 9), none⟩])
    (.cond (.loc 9)
     (.exit 0)
     .skip))
    (.seq (.draw [0, 1, 2, 3, 4, 5, 6, 7, 8, 9, 10, 11, 12] [(13, [], [14]), (15, [], [])] [⟨.mov (.loc 0), none, none⟩, ⟨.mov (.loc 5), none, none⟩, ⟨.mov (.loc 0), none, none⟩, ⟨.mov (.loc 6), none, none⟩, ⟨.mov (.loc 0), none, none⟩, ⟨.mov (.loc 6), none, none⟩, ⟨.indexAddrS 1 (.reg 4) (.reg 5), none, none⟩, ⟨.load1 (.reg 6), none, none⟩, ⟨.mov (.loc 0), none, none⟩, ⟨.mov (.loc 5), none, none⟩, ⟨.indexAddrS 1 (.reg 8) (.reg 9), none, none⟩, ⟨.load1 (.reg 10), none, none⟩, ⟨.indexAddrS 1 (.reg 0) (.reg 1), none, none⟩, ⟨.store 1 (.reg 12) (.reg 7), none, none⟩, ⟨.indexAddrS 1 (.reg 2) (.reg 3), none, none⟩, ⟨.store 1 (.reg 14) (.reg 11), none, none⟩])
    (.seq (.region [⟨.mov (.loc 5), none, none⟩, ⟨.bin .add (.reg 0) (.cst (.int .i64 1)), none, none⟩, ⟨.mov (.reg 1), (some 5), none⟩])
    (.region [⟨.mov (.loc 6), none, none⟩, ⟨.bin .sub (.reg 0) (.cst (.int .i64 1)), none, none⟩, ⟨.mov (.reg 1), (some 6), none⟩])))))))))
 (.seq (.region [⟨.mov (.loc 5), none, none⟩, ⟨.mov (.reg 0), (some 4), none⟩])
 .ret)))))⟩
theorem c181 : compFunc Tryz.prog opts a181 Tryz.f181 = some t181 := by kernel_rfl
/-- slices.partitionOrdered[int] -/
def a182 : Ann := { slots := [0, 1, 2, 3, 8, 9, 10, 11, 43, 60, 65, 112, 129, 134], lb := [], mu := [], trunc := [], draws := [(1, ⟨[0, 0, 0, 0, 0, 0, 48, 112, 0, 0, 768, 1792, 4083, 8179, 16383, 32767], [0, 1, 2, 3, 4, 5, 6, 7, 8, 9, 10, 11, 12], [(13, [], [14]), (15, [], [])]⟩), (3, ⟨[0, 0, 3, 7, 15, 15, 63, 127, 15, 15, 783, 1807, 4095, 8191], [0, 1, 2, 3, 4, 5, 6, 7, 8, 9, 10, 11], [(12, [], [13])]⟩), (5, ⟨[0, 0, 3, 7, 15, 15, 63, 127, 15, 15, 783, 1807, 4095, 8191, 16383], [0, 1, 2, 3, 4, 5, 6, 7, 8, 9, 10, 11], [(12, [], [13, 14])]⟩), (8, ⟨[0, 0, 0, 0, 0, 0, 48, 112, 0, 0, 768, 1792, 4083, 8179, 16383, 32767], [0, 1, 2, 3, 4, 5, 6, 7, 8, 9, 10, 11, 12], [(13, [], [14]), (15, [], [])]⟩), (10, ⟨[0, 0, 0, 0, 0, 0, 48, 112, 0, 0, 768, 1792, 4083, 8179, 16383, 32767], [0, 1, 2, 3, 4, 5, 6, 7, 8, 9, 10, 11, 12], [(13, [], [14]), (15, [], [])]⟩), (13, ⟨[0, 0, 3, 7, 15, 15, 63, 127, 15, 15, 783, 1807, 4095, 8191], [0, 1, 2, 3, 4, 5, 6, 7, 8, 9, 10, 11], [(12, [], [13])]⟩), (15, ⟨[0, 0, 3, 7, 15, 15, 63, 127, 15, 15, 783, 1807, 4095, 8191, 16383], [0, 1, 2, 3, 4, 5, 6, 7, 8, 9, 10, 11], [(12, [], [13, 14])]⟩), (18, ⟨[0, 0, 0, 0, 0, 0, 48, 112, 0, 0, 768, 1792, 4083, 8179, 16383, 32767], [0, 1, 2, 3, 4, 5, 6, 7, 8, 9, 10, 11, 12], [(13, [], [14]), (15, [], [])]⟩), (21, ⟨[0, 0, 0, 0, 0, 0, 48, 112, 0, 0, 768, 1792, 4083, 8179, 16383, 32767], [0, 1, 2, 3, 4, 5, 6, 7, 8, 9, 10, 11, 12], [(13, [], [14]), (15, [], [])]⟩)] }
def t182 : TFunc := ⟨4, 14, [.loc 4, .loc 5],
 (.seq (.region [⟨.mov (.cst (.int .i64 0)), (some 4), none⟩, ⟨.mov (.cst (.bool false)), (some 5), none⟩])
 (.seq (.draw [0, 1, 2, 3, 4, 5, 6, 7, 8, 9, 10, 11, 12] [(13, [], [14]), (15, [], [])] [⟨.mov (.loc 0), none, none⟩, ⟨.mov (.loc 1), none, none⟩, ⟨.mov (.loc 0), none, none⟩, ⟨.mov (.loc 3), none, none⟩, ⟨.mov (.loc 0), none, none⟩, ⟨.mov (.loc 3), none, none⟩, ⟨.indexAddrS 1 (.reg 4) (.reg 5), none, none⟩, ⟨.load1 (.reg 6), none, none⟩, ⟨.mov (.loc 0), none, none⟩, ⟨.mov (.loc 1), none, none⟩, ⟨.indexAddrS 1 (.reg 8) (.reg 9), none, none⟩, ⟨.load1 (.reg 10), none, none⟩, ⟨.indexAddrS 1 (.reg 0) (.reg 1), none, none⟩, ⟨.store 1 (.reg 12) (.reg 7), none, none⟩, ⟨.indexAddrS 1 (.reg 2) (.reg 3), none, none⟩, ⟨.store 1 (.reg 14) (.reg 11), none, none⟩])
 (.seq (.region [⟨.mov (.loc 1), none, none⟩, ⟨.bin .add (.reg 0) (.cst (.int .i64 1)), none, none⟩, ⟨.mov (.loc 2), none, none⟩, ⟨.bin .sub (.reg 2) (.cst (.int .i64 1)), none, none⟩, ⟨.mov (.reg 1), (some 6), none⟩, ⟨.mov (.reg 3), (some 7), none⟩])
 (.seq (.block 0
  (.loop
   (.seq (.seq (.draw [0, 1, 2, 3, 4, 5, 6, 7, 8, 9, 10, 11] [(12, [], [13])] [⟨.mov (.loc 6), none, none⟩, ⟨.mov (.loc 7), none, none⟩, ⟨.bin .leq (.reg 0) (.reg 1), none, none⟩, ⟨.mov (.reg 2), none, none⟩, ⟨.mov (.loc 0), none, (some (3, true))⟩, ⟨.mov (.loc 6), none, (some (3, true))⟩, ⟨.indexAddrS 1 (.reg 4) (.reg 5), none, (some (3, true))⟩, ⟨.load1 (.reg 6), none, (some (3, true))⟩, ⟨.mov (.loc 0), none, (some (3, true))⟩, ⟨.mov (.loc 1), none, (some (3, true))⟩, ⟨.indexAddrS 1 (.reg 8) (.reg 9), none, (some (3, true))⟩, ⟨.load1 (.reg 10), none, (some (3, true))⟩, ⟨.call true false 180 [(.reg 7), (.reg 11)], none, (some (3, true))⟩, ⟨.pick (.reg 3) (.reg 12) (.cst (.bool false)), (some 8), none⟩])
   (.cond (.loc 8)
    .skip
    (.exit 0)))
   (.block 1
    (.region [⟨.mov (.loc 6), none, none⟩, ⟨.bin .add (.reg 0) (.cst (.int .i64 1)), none, none⟩, ⟨.mov (.reg 1), (some 6), none⟩])))))
 (.seq (.block 2
  (.loop
   (.seq (.seq (.draw [0, 1, 2, 3, 4, 5, 6, 7, 8, 9, 10, 11] [(12, [], [13, 14])] [⟨.mov (.loc 6), none, none⟩, ⟨.mov (.loc 7), none, none⟩, ⟨.bin .leq (.reg 0) (.reg 1), none, none⟩, ⟨.mov (.reg 2), none, none⟩, ⟨.mov (.loc 0), none, (some (3, true))⟩, ⟨.mov (.loc 7), none, (some (3, true))⟩, ⟨.indexAddrS 1 (.reg 4) (.reg 5), none, (some (3, true))⟩, ⟨.load1 (.reg 6), none, (some (3, true))⟩, ⟨.mov (.loc 0), none, (some (3, true))⟩, ⟨.mov (.loc 1), none, (some (3, true))⟩, ⟨.indexAddrS 1 (.reg 8) (.reg 9), none, (some (3, true))⟩, ⟨.load1 (.reg 10), none, (some (3, true))⟩, ⟨.call true false 180 [(.reg 7), (.reg 11)], none, (some (3, true))⟩, ⟨.un .not (.reg 12), none, (some (3, true))⟩, ⟨.pick (.reg 3) (.reg 13) (.cst (.bool false)), (some 9), none⟩])
   (.cond (.loc 9)
    .skip
    (.exit 2)))
   (.block 3
    (.region [⟨.mov (.loc 7), none, none⟩, ⟨.bin .sub (.reg 0) (.cst (.int .i64 1)), none, none⟩, ⟨.mov (.reg 1), (some 7), none⟩])))))
 (.seq (.seq (.region [⟨.mov (.loc 6), none, none⟩, ⟨.mov (.loc 7), none, none⟩, ⟨.bin .gtr (.reg 0) (.reg 1), (some 10), none⟩])
 (.cond (.loc 10)
  (.seq (.draw [0, 1, 2, 3, 4, 5, 6, 7, 8, 9, 10, 11, 12] [(13, [], [14]), (15, [], [])] [⟨.mov (.loc 0), none, none⟩, ⟨.mov (.loc 7), none, none⟩, ⟨.mov (.loc 0), none, none⟩, ⟨.mov (.loc 1), none, none⟩, ⟨.mov (.loc 0), none, none⟩, ⟨.mov (.loc 1), none, none⟩, ⟨.indexAddrS 1 (.reg 4) (.reg 5), none, none⟩, ⟨.load1 (.reg 6), none, none⟩, ⟨.mov (.loc 0), none, none⟩, ⟨.mov (.loc 7), none, none⟩, ⟨.indexAddrS 1 (.reg 8) (.reg 9), none, none⟩, ⟨.load1 (.reg 10), none, none⟩, ⟨.indexAddrS 1 (.reg 0) (.reg 1), none, none⟩, ⟨.store 1 (.reg 12) (.reg 7), none, none⟩, ⟨.indexAddrS 1 (.reg 2) (.reg 3), none, none⟩, ⟨.store 1 (.reg 14) (.reg 11), none, none⟩])
  (.seq (.region [⟨.mov (.loc 7), none, none⟩, ⟨.mov (.reg 0), (some 4), none⟩, ⟨.mov (.cst (.bool true)), (some 5), none⟩])
  .ret))
  .skip))
 (.seq (.draw [0, 1, 2, 3, 4, 5, 6, 7, 8, 9, 10, 11, 12] [(13, [], [14]), (15, [], [])] [⟨.mov (.loc 0), none, none⟩, ⟨.mov (.loc 6), none, none⟩, ⟨.mov (.loc 0), none, none⟩, ⟨.mov (.loc 7), none, none⟩, ⟨.mov (.loc 0), none, none⟩, ⟨.mov (.loc 7), none, none⟩, ⟨.indexAddrS 1 (.reg 4) (.reg 5), none, none⟩, ⟨.load1 (.reg 6), none, none⟩, ⟨.mov (.loc 0), none, none⟩, ⟨.mov (.loc 6), none, none⟩, ⟨.indexAddrS 1 (.reg 8) (.reg 9), none, none⟩, ⟨.load1 (.reg 10), none, none⟩, ⟨.indexAddrS 1 (.reg 0) (.reg 1), none, none⟩, ⟨.store 1 (.reg 12) (.reg 7), none, none⟩, ⟨.indexAddrS 1 (.reg 2) (.reg 3), none, none⟩, ⟨.store 1 (.reg 14) (.reg 11), none, none⟩])
 (.seq (.region [⟨.mov (.loc 6), none, none⟩, ⟨.bin .add (.reg 0) (.cst (.int .i64 1)), none, none⟩, ⟨.mov (.reg 1), (some 6), none⟩])
 (.seq (.region [⟨.mov (.loc 7), none, none⟩, ⟨.bin .sub (.reg 0) (.cst (.int .i64 1)), none, none⟩, ⟨.mov (.reg 1), (some 7), none⟩])
 (.seq (.block 4
  (.loop
   (.block 5
    (.seq (.block 6
     (.loop
      (.seq (.seq (.draw [0, 1, 2, 3, 4, 5, 6, 7, 8, 9, 10, 11] [(12, [], [13])] [⟨.mov (.loc 6), none, none⟩, ⟨.mov (.loc 7), none, none⟩, ⟨.bin .leq (.reg 0) (.reg 1), none, none⟩, ⟨.mov (.reg 2), none, none⟩, ⟨.mov (.loc 0), none, (some (3, true))⟩, ⟨.mov (.loc 6), none, (some (3, true))⟩, ⟨.indexAddrS 1 (.reg 4) (.reg 5), none, (some (3, true))⟩, ⟨.load1 (.reg 6), none, (some (3, true))⟩, ⟨.mov (.loc 0), none, (some (3, true))⟩, ⟨.mov (.loc 1), none, (some (3, true))⟩, ⟨.indexAddrS 1 (.reg 8) (.reg 9), none, (some (3, true))⟩, ⟨.load1 (.reg 10), none, (some (3, true))⟩, ⟨.call true false 180 [(.reg 7), (.reg 11)], none, (some (3, true))⟩, ⟨.pick (.reg 3) (.reg 12) (.cst (.bool false)), (some 11), none⟩])
      (.cond (.loc 11)
       .skip
       (.exit 6)))
      (.block 7
       (.region [⟨.mov (.loc 6), none, none⟩, ⟨.bin .add (.reg 0) (.cst (.int .i64 1)), none, none⟩, ⟨.mov (.reg 1), (some 6), none⟩])))))
    (.seq (.block 8
     (.loop
      (.seq (.seq (.draw [0, 1, 2, 3, 4, 5, 6, 7, 8, 9, 10, 11] [(12, [], [13, 14])] [⟨.mov (.loc 6), none, none⟩, ⟨.mov (.loc 7), none, none⟩, ⟨.bin .leq (.reg 0) (.reg 1), none, none⟩, ⟨.mov (.reg 2), none, none⟩, ⟨.mov (.loc 0), none, (some (3, true))⟩, ⟨.mov (.loc 7), none, (some (3, true))⟩, ⟨.indexAddrS 1 (.reg 4) (.reg 5), none, (some (3, true))⟩, ⟨.load1 (.reg 6), none, (some (3, true))⟩, ⟨.mov (.loc 0), none, (some (3, true))⟩, ⟨.mov (.loc 1), none, (some (3, true))⟩, ⟨.indexAddrS 1 (.reg 8) (.reg 9), none, (some (3, true))⟩, ⟨.load1 (.reg 10), none, (some (3, true))⟩, ⟨.call true false 180 [(.reg 7), (.reg 11)], none, (some (3, true))⟩, ⟨.un .not (.reg 12), none, (some (3, true))⟩, ⟨.pick (.reg 3) (.reg 13) (.cst (.bool false)), (some 12), none⟩])
      (.cond (.loc 12)
       .skip
       (.exit 8)))
      (.block 9
       (.region [⟨.mov (.loc 7), none, none⟩, ⟨.bin .sub (.reg 0) (.cst (.int .i64 1)), none, none⟩, ⟨.mov (.reg 1), (some 7), none⟩])))))
    (.seq (.seq (.region [⟨.mov (.loc 6), none, none⟩, ⟨.mov (.loc 7), none, none⟩, ⟨.bin .gtr (.reg 0) (.reg 1), (some 13), none⟩])
    (.cond (.loc 13)
     (.exit 4)
     .skip))
    (.seq (.draw [0, 1, 2, 3, 4, 5, 6, 7, 8, 9, 10, 11, 12] [(13, [], [14]), (15, [], [])] [⟨.mov (.loc 0), none, none⟩, ⟨.mov (.loc 6), none, none⟩, ⟨.mov (.loc 0), none, none⟩, ⟨.mov (.loc 7), none, none⟩, ⟨.mov (.loc 0), none, none⟩, ⟨.mov (.loc 7), none, none⟩, ⟨.indexAddrS 1 (.reg 4) (.reg 5), none, none⟩, ⟨.load1 (.reg 6), none, none⟩, ⟨.mov (.loc 0), none, none⟩, ⟨.mov (.loc 6), none, none⟩, ⟨.indexAddrS 1 (.reg 8) (.reg 9), none, none⟩, ⟨.load1 (.reg 10), none, none⟩, ⟨.indexAddrS 1 (.reg 0) (.reg 1), none, none⟩, ⟨.store 1 (.reg 12) (.reg 7), none, none⟩, ⟨.indexAddrS 1 (.reg 2) (.reg 3), none, none⟩, ⟨.store 1 (.reg 14) (.reg 11), none, none⟩])
    (.seq (.region [⟨.mov (.loc 6), none, none⟩, ⟨.bin .add (.reg 0) (.cst (.int .i64 1)), none, none⟩, ⟨.mov (.reg 1), (some 6), none⟩])
    (.region [⟨.mov (.loc 7), none, none⟩, ⟨.bin .sub (.reg 0) (.cst (.int .i64 1)), none, none⟩, ⟨.mov (.reg 1), (some 7), none⟩])))))))))
 (.seq (.draw [0, 1, 2, 3, 4, 5, 6, 7, 8, 9, 10, 11, 12] [(13, [], [14]), (15, [], [])] [⟨.mov (.loc 0), none, none⟩, ⟨.mov (.loc 7), none, none⟩, ⟨.mov (.loc 0), none, none⟩, ⟨.mov (.loc 1), none, none⟩, ⟨.mov (.loc 0), none, none⟩, ⟨.mov (.loc 1), none, none⟩, ⟨.indexAddrS 1 (.reg 4) (.reg 5), none, none⟩, ⟨.load1 (.reg 6), none, none⟩, ⟨.mov (.loc 0), none, none⟩, ⟨.mov (.loc 7), none, none⟩, ⟨.indexAddrS 1 (.reg 8) (.reg 9), none, none⟩, ⟨.load1 (.reg 10), none, none⟩, ⟨.indexAddrS 1 (.reg 0) (.reg 1), none, none⟩, ⟨.store 1 (.reg 12) (.reg 7), none, none⟩, ⟨.indexAddrS 1 (.reg 2) (.reg 3), none, none⟩, ⟨.store 1 (.reg 14) (.reg 11), none, none⟩])
 (.seq (.region [⟨.mov (.loc 7), none, none⟩, ⟨.mov (.reg 0), (some 4), none⟩, ⟨.mov (.cst (.bool false)), (some 5), none⟩])
 .ret))))))))))))⟩
theorem c182 : compFunc Tryz.prog opts a182 Tryz.f182 = some t182 := by kernel_rfl
/-- math/bits.Len32 -/
def a183 : Ann := { slots := [0, 2, 4, 8], lb := [], mu := [], trunc := [], draws := [] }
def t183 : TFunc := ⟨1, 4, [.loc 1],
 (.seq (.region [⟨.mov (.cst (.int .i64 0)), (some 1), none⟩])
 (.seq (.seq (.region [⟨.mov (.loc 0), none, none⟩, ⟨.bin .geq (.reg 0) (.cst (.int .u32 65536)), (some 2), none⟩])
 (.cond (.loc 2)
  (.seq (.region [⟨.mov (.loc 0), none, none⟩, ⟨.bin .shr (.reg 0) (.cst (.int .u64 16)), none, none⟩, ⟨.mov (.reg 1), (some 0), none⟩])
  (.region [⟨.mov (.cst (.int .i64 16)), (some 1), none⟩]))
  .skip))
 (.seq (.seq (.region [⟨.mov (.loc 0), none, none⟩, ⟨.bin .geq (.reg 0) (.cst (.int .u32 256)), (some 3), none⟩])
 (.cond (.loc 3)
  (.seq (.region [⟨.mov (.loc 0), none, none⟩, ⟨.bin .shr (.reg 0) (.cst (.int .u64 8)), none, none⟩, ⟨.mov (.reg 1), (some 0), none⟩])
  (.region [⟨.mov (.loc 1), none, none⟩, ⟨.bin .add (.reg 0) (.cst (.int .i64 8)), none, none⟩, ⟨.mov (.reg 1), (some 1), none⟩]))
  .skip))
 (.seq (.region [⟨.mov (.loc 1), none, none⟩, ⟨.mov (.loc 0), none, none⟩, ⟨.conv (.toInt .u8) (.reg 1), none, none⟩, ⟨.indexS (.cst (.str [0, 1, 2, 2, 3, 3, 3, 3, 4, 4, 4, 4, 4, 4, 4, 4, 5, 5, 5, 5, 5, 5, 5, 5, 5, 5, 5, 5, 5, 5, 5, 5, 6, 6, 6, 6, 6, 6, 6, 6, 6, 6, 6, 6, 6, 6, 6, 6, 6, 6, 6, 6, 6, 6, 6, 6, 6, 6, 6, 6, 6, 6, 6, 6, 7, 7, 7, 7, 7, 7, 7, 7, 7, 7, 7, 7, 7, 7, 7, 7, 7, 7, 7, 7, 7, 7, 7, 7, 7, 7, 7, 7, 7, 7, 7, 7, 7, 7, 7, 7, 7, 7, 7, 7, 7, 7, 7, 7, 7, 7, 7, 7, 7, 7, 7, 7, 7, 7, 7, 7, 7, 7, 7, 7, 7, 7, 7, 7, 8, 8, 8, 8, 8, 8, 8, 8, 8, 8, 8, 8, 8, 8, 8, 8, 8, 8, 8, 8, 8, 8, 8, 8, 8, 8, 8, 8, 8, 8, 8, 8, 8, 8, 8, 8, 8, 8, 8, 8, 8, 8, 8, 8, 8, 8, 8, 8, 8, 8, 8, 8, 8, 8, 8, 8, 8, 8, 8, 8, 8, 8, 8, 8, 8, 8, 8, 8, 8, 8, 8, 8, 8, 8, 8, 8, 8, 8, 8, 8, 8, 8, 8, 8, 8, 8, 8, 8, 8, 8, 8, 8, 8, 8, 8, 8, 8, 8, 8, 8, 8, 8, 8, 8, 8, 8, 8, 8, 8, 8, 8, 8, 8, 8, 8, 8, 8, 8, 8, 8, 8, 8, 8, 8, 8, 8, 8, 8])) (.reg 2), none, none⟩, ⟨.conv (.toInt .i64) (.reg 3), none, none⟩, ⟨.bin .add (.reg 0) (.reg 4), none, none⟩, ⟨.mov (.reg 5), (some 1), none⟩])
 .ret))))⟩
theorem c183 : compFunc Tryz.prog opts a183 Tryz.f183 = some t183 := by kernel_rfl
/-- math/bits.Len64 -/
def a184 : Ann := { slots := [0, 2, 4, 8, 14], lb := [], mu := [], trunc := [], draws := [] }
def t184 : TFunc := ⟨1, 5, [.loc 1],
 (.seq (.region [⟨.mov (.cst (.int .i64 0)), (some 1), none⟩])
 (.seq (.seq (.region [⟨.mov (.loc 0), none, none⟩, ⟨.bin .geq (.reg 0) (.cst (.int .u64 4294967296)), (some 2), none⟩])
 (.cond (.loc 2)
  (.seq (.region [⟨.mov (.loc 0), none, none⟩, ⟨.bin .shr (.reg 0) (.cst (.int .u64 32)), none, none⟩, ⟨.mov (.reg 1), (some 0), none⟩])
  (.region [⟨.mov (.cst (.int .i64 32)), (some 1), none⟩]))
  .skip))
 (.seq (.seq (.region [⟨.mov (.loc 0), none, none⟩, ⟨.bin .geq (.reg 0) (.cst (.int .u64 65536)), (some 3), none⟩])
 (.cond (.loc 3)
  (.seq (.region [⟨.mov (.loc 0), none, none⟩, ⟨.bin .shr (.reg 0) (.cst (.int .u64 16)), none, none⟩, ⟨.mov (.reg 1), (some 0), none⟩])
  (.region [⟨.mov (.loc 1), none, none⟩, ⟨.bin .add (.reg 0) (.cst (.int .i64 16)), none, none⟩, ⟨.mov (.reg 1), (some 1), none⟩]))
  .skip))
 (.seq (.seq (.region [⟨.mov (.loc 0), none, none⟩, ⟨.bin .geq (.reg 0) (.cst (.int .u64 256)), (some 4), none⟩])
 (.cond (.loc 4)
  (.seq (.region [⟨.mov (.loc 0), none, none⟩, ⟨.bin .shr (.reg 0) (.cst (.int .u64 8)), none, none⟩, ⟨.mov (.reg 1), (some 0), none⟩])
  (.region [⟨.mov (.loc 1), none, none⟩, ⟨.bin .add (.reg 0) (.cst (.int .i64 8)), none, none⟩, ⟨.mov (.reg 1), (some 1), none⟩]))
  .skip))
 (.seq (.region [⟨.mov (.loc 1), none, none⟩, ⟨.mov (.loc 0), none, none⟩, ⟨.conv (.toInt .u8) (.reg 1), none, none⟩, ⟨.indexS (.cst (.str [0, 1, 2, 2, 3, 3, 3, 3, 4, 4, 4, 4, 4, 4, 4, 4, 5, 5, 5, 5, 5, 5, 5, 5, 5, 5, 5, 5, 5, 5, 5, 5, 6, 6, 6, 6, 6, 6, 6, 6, 6, 6, 6, 6, 6, 6, 6, 6, 6, 6, 6, 6, 6, 6, 6, 6, 6, 6, 6, 6, 6, 6, 6, 6, 7, 7, 7, 7, 7, 7, 7, 7, 7, 7, 7, 7, 7, 7, 7, 7, 7, 7, 7, 7, 7, 7, 7, 7, 7, 7, 7, 7, 7, 7, 7, 7, 7, 7, 7, 7, 7, 7, 7, 7, 7, 7, 7, 7, 7, 7, 7, 7, 7, 7, 7, 7, 7, 7, 7, 7, 7, 7, 7, 7, 7, 7, 7, 7, 8, 8, 8, 8, 8, 8, 8, 8, 8, 8, 8, 8, 8, 8, 8, 8, 8, 8, 8, 8, 8, 8, 8, 8, 8, 8, 8, 8, 8, 8, 8, 8, 8, 8, 8, 8, 8, 8, 8, 8, 8, 8, 8, 8, 8, 8, 8, 8, 8, 8, 8, 8, 8, 8, 8, 8, 8, 8, 8, 8, 8, 8, 8, 8, 8, 8, 8, 8, 8, 8, 8, 8, 8, 8, 8, 8, 8, 8, 8, 8, 8, 8, 8, 8, 8, 8, 8, 8, 8, 8, 8, 8, 8, 8, 8, 8, 8, 8, 8, 8, 8, 8, 8, 8, 8, 8, 8, 8, 8, 8, 8, 8, 8, 8, 8, 8, 8, 8, 8, 8, 8, 8, 8, 8, 8, 8, 8, 8])) (.reg 2), none, none⟩, ⟨.conv (.toInt .i64) (.reg 3), none, none⟩, ⟨.bin .add (.reg 0) (.reg 4), none, none⟩, ⟨.mov (.reg 5), (some 1), none⟩])
 .ret)))))⟩
theorem c184 : compFunc Tryz.prog opts a184 Tryz.f184 = some t184 := by kernel_rfl
/-- internal/strconv.log10Pow2 -/
def a185 : Ann := { slots := [0, 2], lb := [], mu := [], trunc := [], draws := [] }
def t185 : TFunc := ⟨1, 2, [.loc 1],
 (.seq (.region [⟨.mov (.cst (.int .i64 0)), (some 1), none⟩])
 (.seq (.region [⟨.mov (.loc 0), none, none⟩, ⟨.bin .mul (.reg 0) (.cst (.int .i64 78913)), none, none⟩, ⟨.bin .shr (.reg 1) (.cst (.int .u64 18)), none, none⟩, ⟨.mov (.reg 2), (some 1), none⟩])
 .ret))⟩
theorem c185 : compFunc Tryz.prog opts a185 Tryz.f185 = some t185 := by kernel_rfl
/-- internal/strconv.bool2[int] -/
def a186 : Ann := { slots := [0, 2, 3], lb := [], mu := [], trunc := [], draws := [] }
def t186 : TFunc := ⟨1, 3, [.loc 1],
 (.seq (.region [⟨.mov (.cst (.int .i64 0)), (some 1), none⟩])
 (.seq (.seq (.region [⟨.mov (.loc 0), (some 2), none⟩])
 (.cond (.loc 2)
  (.seq (.region [⟨.mov (.cst (.int .i64 1)), (some 1), none⟩])
  .ret)
  .skip))
 (.seq (.region [⟨.mov (.cst (.int .i64 0)), (some 1), none⟩])
 .ret)))⟩
theorem c186 : compFunc Tryz.prog opts a186 Tryz.f186 = some t186 := by kernel_rfl
/-- internal/strconv.isPowerOfTwo -/
def a187 : Ann := { slots := [0, 2], lb := [], mu := [], trunc := [], draws := [] }
def t187 : TFunc := ⟨1, 2, [.loc 1],
 (.seq (.region [⟨.mov (.cst (.bool false)), (some 1), none⟩])
 (.seq (.region [⟨.mov (.loc 0), none, none⟩, ⟨.mov (.loc 0), none, none⟩, ⟨.bin .sub (.reg 1) (.cst (.int .i64 1)), none, none⟩, ⟨.bin .and (.reg 0) (.reg 2), none, none⟩, ⟨.bin .eql (.reg 3) (.cst (.int .i64 0)), none, none⟩, ⟨.mov (.reg 4), (some 1), none⟩])
 .ret))⟩
theorem c187 : compFunc Tryz.prog opts a187 Tryz.f187 = some t187 := by kernel_rfl
/-- math/bits.TrailingZeros -/
def a188 : Ann := { slots := [0, 2], lb := [], mu := [], trunc := [], draws := [] }
def t188 : TFunc := ⟨1, 2, [.loc 1],
 (.seq (.region [⟨.mov (.cst (.int .i64 0)), (some 1), none⟩])
 (.seq (.cond (.cst (.bool false))
  (.seq (.region [⟨.mov (.loc 0), none, none⟩, ⟨.conv (.toInt .u32) (.reg 0), none, none⟩, ⟨.call true false 199 [(.reg 1)], none, none⟩, ⟨.mov (.reg 2), (some 1), none⟩])
  .ret)
  .skip)
 (.seq (.region [⟨.mov (.loc 0), none, none⟩, ⟨.call true false 200 [(.reg 0)], none, none⟩, ⟨.mov (.reg 1), (some 1), none⟩])
 .ret)))⟩
theorem c188 : compFunc Tryz.prog opts a188 Tryz.f188 = some t188 := by kernel_rfl
/-- unicode/utf8.appendRuneNonASCII -/
def a189 : Ann := { slots := [0, 1, 4, 5, 11, 25, 50], lb := [], mu := [], trunc := [], draws := [] }
def t189 : TFunc := ⟨2, 7, [.loc 2],
 (.seq (.region [⟨.mov (.cst (.sl .nil [])), (some 2), none⟩])
 (.seq (.region [⟨.mov (.loc 1), none, none⟩, ⟨.conv (.toInt .u32) (.reg 0), none, none⟩, ⟨.mov (.reg 1), (some 3), none⟩])
 (.block 0
  (.seq (.region [⟨.mov (.loc 3), none, none⟩, ⟨.bin .leq (.reg 0) (.cst (.int .u32 2047)), none, none⟩, ⟨.mov (.reg 1), (some 4), none⟩])
  (.cond (.loc 4)
   (.seq (.region [⟨.mov (.loc 0), none, none⟩, ⟨.mov (.loc 1), none, none⟩, ⟨.bin .shr (.reg 1) (.cst (.int .u64 6)), none, none⟩, ⟨.conv (.toInt .u8) (.reg 2), none, none⟩, ⟨.bin .or (.cst (.int .u8 192)) (.reg 3), none, none⟩, ⟨.mov (.loc 1), none, none⟩, ⟨.conv (.toInt .u8) (.reg 5), none, none⟩, ⟨.bin .and (.reg 6) (.cst (.int .u8 63)), none, none⟩, ⟨.bin .or (.cst (.int .u8 128)) (.reg 7), none, none⟩, ⟨.lit false [(.int .u8 0)] 2 [(0, (.reg 4)), (1, (.reg 8))], none, none⟩, ⟨.append false 1 1 5 (.reg 0) (.reg 9), none, none⟩, ⟨.mov (.reg 10), (some 2), none⟩])
   .ret)
   (.seq (.seq (.region [⟨.mov (.loc 3), none, none⟩, ⟨.bin .lss (.reg 0) (.cst (.int .u32 55296)), none, none⟩, ⟨.mov (.reg 1), (some 5), none⟩])
   (.cond (.loc 5)
    .skip
    (.region [⟨.mov (.loc 3), none, none⟩, ⟨.bin .lss (.cst (.int .u32 57343)) (.reg 0), none, none⟩, ⟨.mov (.reg 1), none, none⟩, ⟨.mov (.loc 3), none, (some (2, true))⟩, ⟨.bin .leq (.reg 3) (.cst (.int .u32 65535)), none, (some (2, true))⟩, ⟨.pick (.reg 2) (.reg 4) (.cst (.bool false)), none, none⟩, ⟨.mov (.reg 5), (some 5), none⟩])))
   (.cond (.loc 5)
    (.seq (.region [⟨.mov (.loc 0), none, none⟩, ⟨.mov (.loc 1), none, none⟩, ⟨.bin .shr (.reg 1) (.cst (.int .u64 12)), none, none⟩, ⟨.conv (.toInt .u8) (.reg 2), none, none⟩, ⟨.bin .or (.cst (.int .u8 224)) (.reg 3), none, none⟩, ⟨.mov (.loc 1), none, none⟩, ⟨.bin .shr (.reg 5) (.cst (.int .u64 6)), none, none⟩, ⟨.conv (.toInt .u8) (.reg 6), none, none⟩, ⟨.bin .and (.reg 7) (.cst (.int .u8 63)), none, none⟩, ⟨.bin .or (.cst (.int .u8 128)) (.reg 8), none, none⟩, ⟨.mov (.loc 1), none, none⟩, ⟨.conv (.toInt .u8) (.reg 10), none, none⟩, ⟨.bin .and (.reg 11) (.cst (.int .u8 63)), none, none⟩, ⟨.bin .or (.cst (.int .u8 128)) (.reg 12), none, none⟩, ⟨.lit false [(.int .u8 0)] 3 [(0, (.reg 4)), (1, (.reg 9)), (2, (.reg 13))], none, none⟩, ⟨.append false 1 1 5 (.reg 0) (.reg 14), none, none⟩, ⟨.mov (.reg 15), (some 2), none⟩])
    .ret)
    (.seq (.region [⟨.mov (.loc 3), none, none⟩, ⟨.bin .gtr (.reg 0) (.cst (.int .u32 65535)), none, none⟩, ⟨.mov (.reg 1), none, none⟩, ⟨.mov (.loc 3), none, (some (2, true))⟩, ⟨.bin .leq (.reg 3) (.cst (.int .u32 1114111)), none, (some (2, true))⟩, ⟨.pick (.reg 2) (.reg 4) (.cst (.bool false)), none, none⟩, ⟨.mov (.reg 5), (some 6), none⟩])
    (.cond (.loc 6)
     (.seq (.region [⟨.mov (.loc 0), none, none⟩, ⟨.mov (.loc 1), none, none⟩, ⟨.bin .shr (.reg 1) (.cst (.int .u64 18)), none, none⟩, ⟨.conv (.toInt .u8) (.reg 2), none, none⟩, ⟨.bin .or (.cst (.int .u8 240)) (.reg 3), none, none⟩, ⟨.mov (.loc 1), none, none⟩, ⟨.bin .shr (.reg 5) (.cst (.int .u64 12)), none, none⟩, ⟨.conv (.toInt .u8) (.reg 6), none, none⟩, ⟨.bin .and (.reg 7) (.cst (.int .u8 63)), none, none⟩, ⟨.bin .or (.cst (.int .u8 128)) (.reg 8), none, none⟩, ⟨.mov (.loc 1), none, none⟩, ⟨.bin .shr (.reg 10) (.cst (.int .u64 6)), none, none⟩, ⟨.conv (.toInt .u8) (.reg 11), none, none⟩, ⟨.bin .and (.reg 12) (.cst (.int .u8 63)), none, none⟩, ⟨.bin .or (.cst (.int .u8 128)) (.reg 13), none, none⟩, ⟨.mov (.loc 1), none, none⟩, ⟨.conv (.toInt .u8) (.reg 15), none, none⟩, ⟨.bin .and (.reg 16) (.cst (.int .u8 63)), none, none⟩, ⟨.bin .or (.cst (.int .u8 128)) (.reg 17), none, none⟩, ⟨.lit false [(.int .u8 0)] 4 [(0, (.reg 4)), (1, (.reg 9)), (2, (.reg 14)), (3, (.reg 18))], none, none⟩, ⟨.append false 1 1 5 (.reg 0) (.reg 19), none, none⟩, ⟨.mov (.reg 20), (some 2), none⟩])
     .ret)
     (.seq (.region [⟨.mov (.loc 0), none, none⟩, ⟨.lit false [(.int .u8 0)] 3 [(0, (.cst (.int .u8 239))), (1, (.cst (.int .u8 191))), (2, (.cst (.int .u8 189)))], none, none⟩, ⟨.append false 1 1 5 (.reg 0) (.reg 1), none, none⟩, ⟨.mov (.reg 2), (some 2), none⟩])
     .ret))))))))))⟩
theorem c189 : compFunc Tryz.prog opts a189 Tryz.f189 = some t189 := by kernel_rfl
/-- internal/stringslite.HasPrefix -/
def a190 : Ann := { slots := [0, 1, 4], lb := [], mu := [], trunc := [], draws := [] }
def t190 : TFunc := ⟨2, 3, [.loc 2],
 (.seq (.region [⟨.mov (.cst (.bool false)), (some 2), none⟩])
 (.seq (.region [⟨.mov (.loc 0), none, none⟩, ⟨.len .str (.reg 0), none, none⟩, ⟨.mov (.loc 1), none, none⟩, ⟨.len .str (.reg 2), none, none⟩, ⟨.bin .geq (.reg 1) (.reg 3), none, none⟩, ⟨.mov (.reg 4), none, none⟩, ⟨.mov (.loc 0), none, (some (5, true))⟩, ⟨.mov (.loc 1), none, (some (5, true))⟩, ⟨.len .str (.reg 7), none, (some (5, true))⟩, ⟨.slice .str (.reg 6) none (some (.reg 8)) none, none, (some (5, true))⟩, ⟨.mov (.loc 1), none, (some (5, true))⟩, ⟨.bin .eql (.reg 9) (.reg 10), none, (some (5, true))⟩, ⟨.pick (.reg 5) (.reg 11) (.cst (.bool false)), none, none⟩, ⟨.mov (.reg 12), (some 2), none⟩])
 .ret))⟩
theorem c190 : compFunc Tryz.prog opts a190 Tryz.f190 = some t190 := by kernel_rfl
/-- strings.indexFunc -/
def a191 : Ann := { slots := [0, 1, 2, 6, 7, 8, 10, 11, 12, 19], lb := [], mu := [], trunc := [], draws := [] }
def t191 : TFunc := ⟨3, 10, [.loc 3],
 (.seq (.region [⟨.mov (.cst (.int .i64 0)), (some 3), none⟩])
 (.seq (.seq (.region [⟨.mov (.loc 0), none, none⟩, ⟨.range true (.reg 0), (some 6), none⟩])
 (.block 0
  (.loop
   (.seq (.region [⟨.nextS (.loc 6), (some 7), none⟩, ⟨.extract 0 (.reg 0), (some 8), none⟩])
   (.seq (.cond (.loc 8)
    .skip
    (.exit 0))
   (.block 1
    (.seq (.region [⟨.extract 1 (.loc 7), none, none⟩, ⟨.extract 2 (.loc 7), none, none⟩, ⟨.mov (.reg 0), (some 4), none⟩, ⟨.mov (.reg 1), (some 5), none⟩])
    (.seq (.region [⟨.mov (.loc 1), none, none⟩, ⟨.mov (.loc 5), none, none⟩, ⟨.callv (.reg 0) [(.reg 1)], none, none⟩, ⟨.mov (.loc 2), none, none⟩, ⟨.eqB false .bool (.reg 2) (.reg 3), (some 9), none⟩])
    (.cond (.loc 9)
     (.seq (.region [⟨.mov (.loc 4), none, none⟩, ⟨.mov (.reg 0), (some 3), none⟩])
     .ret)
     .skip)))))))))
 (.seq (.region [⟨.mov (.cst (.int .i64 (-1))), (some 3), none⟩])
 .ret)))⟩
theorem c191 : compFunc Tryz.prog opts a191 Tryz.f191 = some t191 := by kernel_rfl
/-- unicode/utf8.decodeRuneSlow -/
def a192 : Ann := { slots := [0, 2, 3, 4, 5, 6, 7, 8, 9, 10, 11, 12, 16, 24, 47, 60, 62, 79, 81, 103], lb := [9], mu := [], trunc := [], draws := [] }
def t192 : TFunc := ⟨1, 20, [.loc 1, .loc 2],
 (.seq (.region [⟨.mov (.cst (.int .i32 0)), (some 1), none⟩, ⟨.mov (.cst (.int .i64 0)), (some 2), none⟩])
 (.seq (.region [⟨.mov (.loc 0), none, none⟩, ⟨.len .sl (.reg 0), none, none⟩, ⟨.mov (.reg 1), (some 3), none⟩])
 (.seq (.seq (.region [⟨.mov (.loc 3), none, none⟩, ⟨.bin .lss (.reg 0) (.cst (.int .i64 1)), (some 12), none⟩])
 (.cond (.loc 12)
  (.seq (.region [⟨.mov (.cst (.int .i32 65533)), (some 1), none⟩, ⟨.mov (.cst (.int .i64 0)), (some 2), none⟩])
  .ret)
  .skip))
 (.seq (.region [⟨.mov (.loc 0), none, none⟩, ⟨.indexAddrS 1 (.reg 0) (.cst (.int .i64 0)), none, none⟩, ⟨.load1 (.reg 1), none, none⟩, ⟨.mov (.reg 2), (some 4), none⟩])
 (.seq (.region [⟨.mov (.loc 4), none, none⟩, ⟨.indexAddrA 256 1 (.glob 2) (.reg 0), none, none⟩, ⟨.load1 (.reg 1), none, none⟩, ⟨.mov (.reg 2), (some 5), none⟩])
 (.seq (.seq (.region [⟨.mov (.loc 5), none, none⟩, ⟨.bin .geq (.reg 0) (.cst (.int .u8 240)), (some 13), none⟩])
 (.cond (.loc 13)
  (.seq (.region [⟨.mov (.loc 5), none, none⟩, ⟨.conv (.toInt .i32) (.reg 0), none, none⟩, ⟨.bin .shl (.reg 1) (.cst (.int .u64 31)), none, none⟩, ⟨.bin .shr (.reg 2) (.cst (.int .u64 31)), none, none⟩, ⟨.mov (.reg 3), (some 6), none⟩])
  (.seq (.region [⟨.mov (.loc 0), none, none⟩, ⟨.indexAddrS 1 (.reg 0) (.cst (.int .i64 0)), none, none⟩, ⟨.load1 (.reg 1), none, none⟩, ⟨.conv (.toInt .i32) (.reg 2), none, none⟩, ⟨.mov (.loc 6), none, none⟩, ⟨.bin .andNot (.reg 3) (.reg 4), none, none⟩, ⟨.mov (.loc 6), none, none⟩, ⟨.bin .and (.cst (.int .i32 65533)) (.reg 6), none, none⟩, ⟨.bin .or (.reg 5) (.reg 7), none, none⟩, ⟨.mov (.reg 8), (some 1), none⟩, ⟨.mov (.cst (.int .i64 1)), (some 2), none⟩])
  .ret))
  .skip))
 (.seq (.region [⟨.mov (.loc 5), none, none⟩, ⟨.bin .and (.reg 0) (.cst (.int .u8 7)), none, none⟩, ⟨.conv (.toInt .i64) (.reg 1), none, none⟩, ⟨.mov (.reg 2), (some 7), none⟩])
 (.seq (.region [⟨.mov (.loc 5), none, none⟩, ⟨.bin .shr (.reg 0) (.cst (.int .u64 4)), none, none⟩, ⟨.indexAddrA 16 2 (.glob 3) (.reg 1), none, none⟩, ⟨.loadN 2 (.reg 2), none, none⟩, ⟨.allocL 8 [(.int .u8 0), (.int .u8 0)], none, none⟩, ⟨.store 2 (.reg 4) (.reg 3), none, none⟩])
 (.seq (.seq (.region [⟨.mov (.loc 3), none, none⟩, ⟨.mov (.loc 7), none, none⟩, ⟨.bin .lss (.reg 0) (.reg 1), (some 14), none⟩])
 (.cond (.loc 14)
  (.seq (.region [⟨.mov (.cst (.int .i32 65533)), (some 1), none⟩, ⟨.mov (.cst (.int .i64 1)), (some 2), none⟩])
  .ret)
  .skip))
 (.seq (.region [⟨.mov (.loc 0), none, none⟩, ⟨.indexAddrS 1 (.reg 0) (.cst (.int .i64 1)), none, none⟩, ⟨.load1 (.reg 1), none, none⟩, ⟨.mov (.reg 2), (some 9), none⟩])
 (.seq (.seq (.region [⟨.mov (.loc 9), none, none⟩, ⟨.fieldAddr 0 (.loc 8), none, none⟩, ⟨.load1 (.reg 1), none, none⟩, ⟨.bin .lss (.reg 0) (.reg 2), none, none⟩, ⟨.mov (.reg 3), none, none⟩, ⟨.fieldAddr 1 (.loc 8), none, (some (4, false))⟩, ⟨.load1 (.reg 5), none, (some (4, false))⟩, ⟨.mov (.loc 9), none, (some (4, false))⟩, ⟨.bin .lss (.reg 6) (.reg 7), none, (some (4, false))⟩, ⟨.pick (.reg 4) (.cst (.bool true)) (.reg 8), (some 15), none⟩])
 (.cond (.loc 15)
  (.seq (.region [⟨.mov (.cst (.int .i32 65533)), (some 1), none⟩, ⟨.mov (.cst (.int .i64 1)), (some 2), none⟩])
  .ret)
  .skip))
 (.seq (.seq (.region [⟨.mov (.loc 7), none, none⟩, ⟨.bin .leq (.reg 0) (.cst (.int .i64 2)), (some 16), none⟩])
 (.cond (.loc 16)
  (.seq (.region [⟨.mov (.loc 4), none, none⟩, ⟨.bin .and (.reg 0) (.cst (.int .u8 31)), none, none⟩, ⟨.conv (.toInt .i32) (.reg 1), none, none⟩, ⟨.bin .shl (.reg 2) (.cst (.int .u64 6)), none, none⟩, ⟨.mov (.loc 9), none, none⟩, ⟨.bin .and (.reg 4) (.cst (.int .u8 63)), none, none⟩, ⟨.conv (.toInt .i32) (.reg 5), none, none⟩, ⟨.bin .or (.reg 3) (.reg 6), none, none⟩, ⟨.mov (.reg 7), (some 1), none⟩, ⟨.mov (.cst (.int .i64 2)), (some 2), none⟩])
  .ret)
  .skip))
 (.seq (.region [⟨.mov (.loc 0), none, none⟩, ⟨.indexAddrS 1 (.reg 0) (.cst (.int .i64 2)), none, none⟩, ⟨.load1 (.reg 1), none, none⟩, ⟨.mov (.reg 2), (some 10), none⟩])
 (.seq (.seq (.region [⟨.mov (.loc 10), none, none⟩, ⟨.bin .lss (.reg 0) (.cst (.int .u8 128)), none, none⟩, ⟨.mov (.reg 1), none, none⟩, ⟨.mov (.loc 10), none, (some (2, false))⟩, ⟨.bin .lss (.cst (.int .u8 191)) (.reg 3), none, (some (2, false))⟩, ⟨.pick (.reg 2) (.cst (.bool true)) (.reg 4), (some 17), none⟩])
 (.cond (.loc 17)
  (.seq (.region [⟨.mov (.cst (.int .i32 65533)), (some 1), none⟩, ⟨.mov (.cst (.int .i64 1)), (some 2), none⟩])
  .ret)
  .skip))
 (.seq (.seq (.region [⟨.mov (.loc 7), none, none⟩, ⟨.bin .leq (.reg 0) (.cst (.int .i64 3)), (some 18), none⟩])
 (.cond (.loc 18)
  (.seq (.region [⟨.mov (.loc 4), none, none⟩, ⟨.bin .and (.reg 0) (.cst (.int .u8 15)), none, none⟩, ⟨.conv (.toInt .i32) (.reg 1), none, none⟩, ⟨.bin .shl (.reg 2) (.cst (.int .u64 12)), none, none⟩, ⟨.mov (.loc 9), none, none⟩, ⟨.bin .and (.reg 4) (.cst (.int .u8 63)), none, none⟩, ⟨.conv (.toInt .i32) (.reg 5), none, none⟩, ⟨.bin .shl (.reg 6) (.cst (.int .u64 6)), none, none⟩, ⟨.bin .or (.reg 3) (.reg 7), none, none⟩, ⟨.mov (.loc 10), none, none⟩, ⟨.bin .and (.reg 9) (.cst (.int .u8 63)), none, none⟩, ⟨.conv (.toInt .i32) (.reg 10), none, none⟩, ⟨.bin .or (.reg 8) (.reg 11), none, none⟩, ⟨.mov (.reg 12), (some 1), none⟩, ⟨.mov (.cst (.int .i64 3)), (some 2), none⟩])
  .ret)
  .skip))
 (.seq (.region [⟨.mov (.loc 0), none, none⟩, ⟨.indexAddrS 1 (.reg 0) (.cst (.int .i64 3)), none, none⟩, ⟨.load1 (.reg 1), none, none⟩, ⟨.mov (.reg 2), (some 11), none⟩])
 (.seq (.seq (.region [⟨.mov (.loc 11), none, none⟩, ⟨.bin .lss (.reg 0) (.cst (.int .u8 128)), none, none⟩, ⟨.mov (.reg 1), none, none⟩, ⟨.mov (.loc 11), none, (some (2, false))⟩, ⟨.bin .lss (.cst (.int .u8 191)) (.reg 3), none, (some (2, false))⟩, ⟨.pick (.reg 2) (.cst (.bool true)) (.reg 4), (some 19), none⟩])
 (.cond (.loc 19)
  (.seq (.region [⟨.mov (.cst (.int .i32 65533)), (some 1), none⟩, ⟨.mov (.cst (.int .i64 1)), (some 2), none⟩])
  .ret)
  .skip))
 (.seq (.region [⟨.mov (.loc 4), none, none⟩, ⟨.bin .and (.reg 0) (.cst (.int .u8 7)), none, none⟩, ⟨.conv (.toInt .i32) (.reg 1), none, none⟩, ⟨.bin .shl (.reg 2) (.cst (.int .u64 18)), none, none⟩, ⟨.mov (.loc 9), none, none⟩, ⟨.bin .and (.reg 4) (.cst (.int .u8 63)), none, none⟩, ⟨.conv (.toInt .i32) (.reg 5), none, none⟩, ⟨.bin .shl (.reg 6) (.cst (.int .u64 12)), none, none⟩, ⟨.bin .or (.reg 3) (.reg 7), none, none⟩, ⟨.mov (.loc 10), none, none⟩, ⟨.bin .and (.reg 9) (.cst (.int .u8 63)), none, none⟩, ⟨.conv (.toInt .i32) (.reg 10), none, none⟩, ⟨.bin .shl (.reg 11) (.cst (.int .u64 6)), none, none⟩, ⟨.bin .or (.reg 8) (.reg 12), none, none⟩, ⟨.mov (.loc 11), none, none⟩, ⟨.bin .and (.reg 14) (.cst (.int .u8 63)), none, none⟩, ⟨.conv (.toInt .i32) (.reg 15), none, none⟩, ⟨.bin .or (.reg 13) (.reg 16), none, none⟩, ⟨.mov (.reg 17), (some 1), none⟩, ⟨.mov (.cst (.int .i64 4)), (some 2), none⟩])
 .ret))))))))))))))))))⟩
theorem c192 : compFunc Tryz.prog opts a192 Tryz.f192 = some t192 := by kernel_rfl
/-- slices.siftDownOrdered[int] -/
def a193 : Ann := { slots := [0, 1, 2, 3, 8, 9, 16, 36, 52], lb := [], mu := [], trunc := [], draws := [(3, ⟨[0, 1, 0, 7, 15, 31, 31, 31, 223, 511, 1023, 31, 31, 31, 12319, 28703, 63519, 129055, 262143, 524287], [0, 1, 2, 3, 4, 5, 6, 7, 8, 9, 10, 11, 12, 13, 14, 15, 16, 17], [(18, [], [19])]⟩), (5, ⟨[0, 0, 0, 6, 15, 31, 0, 0, 0, 384, 960, 1984, 4095, 8191], [0, 1, 2, 3, 4, 5, 6, 7, 8, 9, 10, 11], [(12, [], [13])]⟩), (6, ⟨[0, 0, 0, 6, 0, 0, 0, 96, 0, 0, 0, 1536, 3840, 7936, 0, 0, 0, 98304, 245760, 507904, 1048335, 2096911, 4194303, 8388607], [0, 1, 2, 3, 4, 5, 6, 7, 8, 9, 10, 11, 12, 13, 14, 15, 16, 17, 18, 19, 20], [(21, [], [22]), (23, [], [])]⟩)] }
def t193 : TFunc := ⟨4, 9, [],
 (.seq (.region [⟨.mov (.loc 1), none, none⟩, ⟨.mov (.reg 0), (some 4), none⟩])
 (.block 0
  (.loop
   (.block 1
    (.seq (.region [⟨.mov (.loc 4), none, none⟩, ⟨.bin .mul (.cst (.int .i64 2)) (.reg 0), none, none⟩, ⟨.bin .add (.reg 1) (.cst (.int .i64 1)), none, none⟩, ⟨.mov (.reg 2), (some 5), none⟩])
    (.seq (.seq (.region [⟨.mov (.loc 5), none, none⟩, ⟨.mov (.loc 2), none, none⟩, ⟨.bin .geq (.reg 0) (.reg 1), (some 6), none⟩])
    (.cond (.loc 6)
     (.exit 0)
     .skip))
    (.seq (.seq (.draw [0, 1, 2, 3, 4, 5, 6, 7, 8, 9, 10, 11, 12, 13, 14, 15, 16, 17] [(18, [], [19])] [⟨.mov (.loc 5), none, none⟩, ⟨.bin .add (.reg 0) (.cst (.int .i64 1)), none, none⟩, ⟨.mov (.loc 2), none, none⟩, ⟨.bin .lss (.reg 1) (.reg 2), none, none⟩, ⟨.mov (.reg 3), none, none⟩, ⟨.mov (.loc 0), none, (some (4, true))⟩, ⟨.mov (.loc 3), none, (some (4, true))⟩, ⟨.mov (.loc 5), none, (some (4, true))⟩, ⟨.bin .add (.reg 6) (.reg 7), none, (some (4, true))⟩, ⟨.indexAddrS 1 (.reg 5) (.reg 8), none, (some (4, true))⟩, ⟨.load1 (.reg 9), none, (some (4, true))⟩, ⟨.mov (.loc 0), none, (some (4, true))⟩, ⟨.mov (.loc 3), none, (some (4, true))⟩, ⟨.mov (.loc 5), none, (some (4, true))⟩, ⟨.bin .add (.reg 12) (.reg 13), none, (some (4, true))⟩, ⟨.bin .add (.reg 14) (.cst (.int .i64 1)), none, (some (4, true))⟩, ⟨.indexAddrS 1 (.reg 11) (.reg 15), none, (some (4, true))⟩, ⟨.load1 (.reg 16), none, (some (4, true))⟩, ⟨.call true false 180 [(.reg 10), (.reg 17)], none, (some (4, true))⟩, ⟨.pick (.reg 4) (.reg 18) (.cst (.bool false)), (some 7), none⟩])
    (.cond (.loc 7)
     (.region [⟨.mov (.loc 5), none, none⟩, ⟨.bin .add (.reg 0) (.cst (.int .i64 1)), none, none⟩, ⟨.mov (.reg 1), (some 5), none⟩])
     .skip))
    (.seq (.seq (.draw [0, 1, 2, 3, 4, 5, 6, 7, 8, 9, 10, 11] [(12, [], [13])] [⟨.mov (.loc 0), none, none⟩, ⟨.mov (.loc 3), none, none⟩, ⟨.mov (.loc 4), none, none⟩, ⟨.bin .add (.reg 1) (.reg 2), none, none⟩, ⟨.indexAddrS 1 (.reg 0) (.reg 3), none, none⟩, ⟨.load1 (.reg 4), none, none⟩, ⟨.mov (.loc 0), none, none⟩, ⟨.mov (.loc 3), none, none⟩, ⟨.mov (.loc 5), none, none⟩, ⟨.bin .add (.reg 7) (.reg 8), none, none⟩, ⟨.indexAddrS 1 (.reg 6) (.reg 9), none, none⟩, ⟨.load1 (.reg 10), none, none⟩, ⟨.call true false 180 [(.reg 5), (.reg 11)], none, none⟩, ⟨.un .not (.reg 12), (some 8), none⟩])
    (.cond (.loc 8)
     .ret
     .skip))
    (.seq (.draw [0, 1, 2, 3, 4, 5, 6, 7, 8, 9, 10, 11, 12, 13, 14, 15, 16, 17, 18, 19, 20] [(21, [], [22]), (23, [], [])] [⟨.mov (.loc 0), none, none⟩, ⟨.mov (.loc 3), none, none⟩, ⟨.mov (.loc 4), none, none⟩, ⟨.bin .add (.reg 1) (.reg 2), none, none⟩, ⟨.mov (.loc 0), none, none⟩, ⟨.mov (.loc 3), none, none⟩, ⟨.mov (.loc 5), none, none⟩, ⟨.bin .add (.reg 5) (.reg 6), none, none⟩, ⟨.mov (.loc 0), none, none⟩, ⟨.mov (.loc 3), none, none⟩, ⟨.mov (.loc 5), none, none⟩, ⟨.bin .add (.reg 9) (.reg 10), none, none⟩, ⟨.indexAddrS 1 (.reg 8) (.reg 11), none, none⟩, ⟨.load1 (.reg 12), none, none⟩, ⟨.mov (.loc 0), none, none⟩, ⟨.mov (.loc 3), none, none⟩, ⟨.mov (.loc 4), none, none⟩, ⟨.bin .add (.reg 15) (.reg 16), none, none⟩, ⟨.indexAddrS 1 (.reg 14) (.reg 17), none, none⟩, ⟨.load1 (.reg 18), none, none⟩, ⟨.indexAddrS 1 (.reg 0) (.reg 3), none, none⟩, ⟨.store 1 (.reg 20) (.reg 13), none, none⟩, ⟨.indexAddrS 1 (.reg 4) (.reg 7), none, none⟩, ⟨.store 1 (.reg 22) (.reg 19), none, none⟩])
    (.region [⟨.mov (.loc 5), none, none⟩, ⟨.mov (.reg 0), (some 4), none⟩]))))))))))⟩
theorem c193 : compFunc Tryz.prog opts a193 Tryz.f193 = some t193 := by kernel_rfl
/-- slices.nextPowerOfTwo -/
def a194 : Ann := { slots := [0, 2], lb := [], mu := [], trunc := [], draws := [] }
def t194 : TFunc := ⟨1, 2, [.loc 1],
 (.seq (.region [⟨.mov (.cst (.int .u64 0)), (some 1), none⟩])
 (.seq (.region [⟨.mov (.loc 0), none, none⟩, ⟨.conv (.toInt .u64) (.reg 0), none, none⟩, ⟨.call true false 156 [(.reg 1)], none, none⟩, ⟨.bin .shl (.cst (.int .u64 1)) (.reg 2), none, none⟩, ⟨.mov (.reg 3), (some 1), none⟩])
 .ret))⟩
theorem c194 : compFunc Tryz.prog opts a194 Tryz.f194 = some t194 := by kernel_rfl
/-- (*slices.xorshift).Next -/
def a195 : Ann := { slots := [0, 2], lb := [], mu := [], trunc := [], draws := [(1, ⟨[0, 1, 3, 0, 8, 24, 56, 127, 255, 511], [0, 1, 2, 3, 4, 5, 6, 7, 8], [(9, [], [])]⟩), (2, ⟨[0, 1, 3, 0, 8, 24, 56, 127, 255, 511], [0, 1, 2, 3, 4, 5, 6, 7, 8], [(9, [], [])]⟩), (3, ⟨[0, 1, 3, 0, 8, 24, 56, 127, 255, 511], [0, 1, 2, 3, 4, 5, 6, 7, 8], [(9, [], [])]⟩)] }
def t195 : TFunc := ⟨1, 2, [.loc 1],
 (.seq (.region [⟨.mov (.cst (.int .u64 0)), (some 1), none⟩])
 (.seq (.draw [0, 1, 2, 3, 4, 5, 6, 7, 8] [(9, [], [])] [⟨.mov (.loc 0), none, none⟩, ⟨.nilCheck (.reg 0), none, none⟩, ⟨.load1 (.reg 1), none, none⟩, ⟨.mov (.loc 0), none, none⟩, ⟨.nilCheck (.reg 3), none, none⟩, ⟨.load1 (.reg 4), none, none⟩, ⟨.bin .shl (.reg 5) (.cst (.int .u64 13)), none, none⟩, ⟨.bin .xor (.reg 2) (.reg 6), none, none⟩, ⟨.nilCheck (.reg 0), none, none⟩, ⟨.store 1 (.reg 8) (.reg 7), none, none⟩])
 (.seq (.draw [0, 1, 2, 3, 4, 5, 6, 7, 8] [(9, [], [])] [⟨.mov (.loc 0), none, none⟩, ⟨.nilCheck (.reg 0), none, none⟩, ⟨.load1 (.reg 1), none, none⟩, ⟨.mov (.loc 0), none, none⟩, ⟨.nilCheck (.reg 3), none, none⟩, ⟨.load1 (.reg 4), none, none⟩, ⟨.bin .shr (.reg 5) (.cst (.int .u64 7)), none, none⟩, ⟨.bin .xor (.reg 2) (.reg 6), none, none⟩, ⟨.nilCheck (.reg 0), none, none⟩, ⟨.store 1 (.reg 8) (.reg 7), none, none⟩])
 (.seq (.draw [0, 1, 2, 3, 4, 5, 6, 7, 8] [(9, [], [])] [⟨.mov (.loc 0), none, none⟩, ⟨.nilCheck (.reg 0), none, none⟩, ⟨.load1 (.reg 1), none, none⟩, ⟨.mov (.loc 0), none, none⟩, ⟨.nilCheck (.reg 3), none, none⟩, ⟨.load1 (.reg 4), none, none⟩, ⟨.bin .shl (.reg 5) (.cst (.int .u64 17)), none, none⟩, ⟨.bin .xor (.reg 2) (.reg 6), none, none⟩, ⟨.nilCheck (.reg 0), none, none⟩, ⟨.store 1 (.reg 8) (.reg 7), none, none⟩])
 (.seq (.region [⟨.mov (.loc 0), none, none⟩, ⟨.nilCheck (.reg 0), none, none⟩, ⟨.load1 (.reg 1), none, none⟩, ⟨.mov (.reg 2), (some 1), none⟩])
 .ret)))))⟩
theorem c195 : compFunc Tryz.prog opts a195 Tryz.f195 = some t195 := by kernel_rfl
/-- slices.medianAdjacentOrdered[int] -/
def a196 : Ann := { slots := [0, 1, 2, 6], lb := [], mu := [], trunc := [], draws := [] }
def t196 : TFunc := ⟨3, 4, [.loc 3],
 (.seq (.region [⟨.mov (.cst (.int .i64 0)), (some 3), none⟩])
 (.seq (.region [⟨.mov (.loc 0), none, none⟩, ⟨.mov (.loc 1), none, none⟩, ⟨.bin .sub (.reg 1) (.cst (.int .i64 1)), none, none⟩, ⟨.mov (.loc 1), none, none⟩, ⟨.mov (.loc 1), none, none⟩, ⟨.bin .add (.reg 4) (.cst (.int .i64 1)), none, none⟩, ⟨.mov (.loc 2), none, none⟩, ⟨.call false false 197 [(.reg 0), (.reg 2), (.reg 3), (.reg 5), (.reg 6)], none, none⟩, ⟨.mov (.reg 7), (some 3), none⟩])
 .ret))⟩
theorem c196 : compFunc Tryz.prog opts a196 Tryz.f196 = some t196 := by kernel_rfl
/-- slices.medianOrdered[int] -/
def a197 : Ann := { slots := [0, 1, 2, 3, 4, 10], lb := [], mu := [], trunc := [], draws := [] }
def t197 : TFunc := ⟨5, 6, [.loc 5],
 (.seq (.region [⟨.mov (.cst (.int .i64 0)), (some 5), none⟩])
 (.seq (.region [⟨.mov (.loc 0), none, none⟩, ⟨.mov (.loc 1), none, none⟩, ⟨.mov (.loc 2), none, none⟩, ⟨.mov (.loc 4), none, none⟩, ⟨.call false false 201 [(.reg 0), (.reg 1), (.reg 2), (.reg 3)], none, none⟩, ⟨.mov (.reg 4), none, none⟩, ⟨.extract 0 (.reg 5), none, none⟩, ⟨.extract 1 (.reg 5), none, none⟩, ⟨.mov (.reg 6), (some 1), none⟩, ⟨.mov (.reg 7), (some 2), none⟩])
 (.seq (.region [⟨.mov (.loc 0), none, none⟩, ⟨.mov (.loc 2), none, none⟩, ⟨.mov (.loc 3), none, none⟩, ⟨.mov (.loc 4), none, none⟩, ⟨.call false false 201 [(.reg 0), (.reg 1), (.reg 2), (.reg 3)], none, none⟩, ⟨.mov (.reg 4), none, none⟩, ⟨.extract 0 (.reg 5), none, none⟩, ⟨.extract 1 (.reg 5), none, none⟩, ⟨.mov (.reg 6), (some 2), none⟩, ⟨.mov (.reg 7), (some 3), none⟩])
 (.seq (.region [⟨.mov (.loc 0), none, none⟩, ⟨.mov (.loc 1), none, none⟩, ⟨.mov (.loc 2), none, none⟩, ⟨.mov (.loc 4), none, none⟩, ⟨.call false false 201 [(.reg 0), (.reg 1), (.reg 2), (.reg 3)], none, none⟩, ⟨.mov (.reg 4), none, none⟩, ⟨.extract 0 (.reg 5), none, none⟩, ⟨.extract 1 (.reg 5), none, none⟩, ⟨.mov (.reg 6), (some 1), none⟩, ⟨.mov (.reg 7), (some 2), none⟩])
 (.seq (.region [⟨.mov (.loc 2), none, none⟩, ⟨.mov (.reg 0), (some 5), none⟩])
 .ret)))))⟩
theorem c197 : compFunc Tryz.prog opts a197 Tryz.f197 = some t197 := by kernel_rfl
/-- cmp.isNaN[int] -/
def a198 : Ann := { slots := [0, 2], lb := [], mu := [], trunc := [], draws := [] }
def t198 : TFunc := ⟨1, 2, [.loc 1],
 (.seq (.region [⟨.mov (.cst (.bool false)), (some 1), none⟩])
 (.seq (.region [⟨.mov (.loc 0), none, none⟩, ⟨.mov (.loc 0), none, none⟩, ⟨.bin .neq (.reg 0) (.reg 1), none, none⟩, ⟨.mov (.reg 2), (some 1), none⟩])
 .ret))⟩
theorem c198 : compFunc Tryz.prog opts a198 Tryz.f198 = some t198 := by kernel_rfl
/-- math/bits.TrailingZeros32 -/
def a199 : Ann := { slots := [0, 2, 4], lb := [], mu := [], trunc := [], draws := [] }
def t199 : TFunc := ⟨1, 3, [.loc 1],
 (.seq (.region [⟨.mov (.cst (.int .i64 0)), (some 1), none⟩])
 (.seq (.seq (.region [⟨.mov (.loc 0), none, none⟩, ⟨.bin .eql (.reg 0) (.cst (.int .u32 0)), (some 2), none⟩])
 (.cond (.loc 2)
  (.seq (.region [⟨.mov (.cst (.int .i64 32)), (some 1), none⟩])
  .ret)
  .skip))
 (.seq (.region [⟨.mov (.loc 0), none, none⟩, ⟨.mov (.loc 0), none, none⟩, ⟨.un .neg (.reg 1), none, none⟩, ⟨.bin .and (.reg 0) (.reg 2), none, none⟩, ⟨.bin .mul (.reg 3) (.cst (.int .u32 125613361)), none, none⟩, ⟨.bin .shr (.reg 4) (.cst (.int .u64 27)), none, none⟩, ⟨.indexAddrA 32 1 (.glob 4) (.reg 5), none, none⟩, ⟨.load1 (.reg 6), none, none⟩, ⟨.conv (.toInt .i64) (.reg 7), none, none⟩, ⟨.mov (.reg 8), (some 1), none⟩])
 .ret)))⟩
theorem c199 : compFunc Tryz.prog opts a199 Tryz.f199 = some t199 := by kernel_rfl
/-- math/bits.TrailingZeros64 -/
def a200 : Ann := { slots := [0, 2, 4], lb := [], mu := [], trunc := [], draws := [] }
def t200 : TFunc := ⟨1, 3, [.loc 1],
 (.seq (.region [⟨.mov (.cst (.int .i64 0)), (some 1), none⟩])
 (.seq (.seq (.region [⟨.mov (.loc 0), none, none⟩, ⟨.bin .eql (.reg 0) (.cst (.int .u64 0)), (some 2), none⟩])
 (.cond (.loc 2)
  (.seq (.region [⟨.mov (.cst (.int .i64 64)), (some 1), none⟩])
  .ret)
  .skip))
 (.seq (.region [⟨.mov (.loc 0), none, none⟩, ⟨.mov (.loc 0), none, none⟩, ⟨.un .neg (.reg 1), none, none⟩, ⟨.bin .and (.reg 0) (.reg 2), none, none⟩, ⟨.bin .mul (.reg 3) (.cst (.int .u64 285870213051353865)), none, none⟩, ⟨.bin .shr (.reg 4) (.cst (.int .u64 58)), none, none⟩, ⟨.indexAddrA 64 1 (.glob 5) (.reg 5), none, none⟩, ⟨.load1 (.reg 6), none, none⟩, ⟨.conv (.toInt .i64) (.reg 7), none, none⟩, ⟨.mov (.reg 8), (some 1), none⟩])
 .ret)))⟩
theorem c200 : compFunc Tryz.prog opts a200 Tryz.f200 = some t200 := by kernel_rfl
/-- slices.order2Ordered[int] -/
def a201 : Ann := { slots := [0, 1, 2, 3, 8, 9, 18], lb := [], mu := [], trunc := [], draws := [(1, ⟨[0, 0, 3, 7, 0, 0, 48, 112, 255], [0, 1, 2, 3, 4, 5, 6, 7], [(8, [], [])]⟩)] }
def t201 : TFunc := ⟨4, 7, [.loc 4, .loc 5],
 (.seq (.region [⟨.mov (.cst (.int .i64 0)), (some 4), none⟩, ⟨.mov (.cst (.int .i64 0)), (some 5), none⟩])
 (.seq (.seq (.draw [0, 1, 2, 3, 4, 5, 6, 7] [(8, [], [])] [⟨.mov (.loc 0), none, none⟩, ⟨.mov (.loc 2), none, none⟩, ⟨.indexAddrS 1 (.reg 0) (.reg 1), none, none⟩, ⟨.load1 (.reg 2), none, none⟩, ⟨.mov (.loc 0), none, none⟩, ⟨.mov (.loc 1), none, none⟩, ⟨.indexAddrS 1 (.reg 4) (.reg 5), none, none⟩, ⟨.load1 (.reg 6), none, none⟩, ⟨.call true false 180 [(.reg 3), (.reg 7)], (some 6), none⟩])
 (.cond (.loc 6)
  (.seq (.region [⟨.mov (.loc 3), none, none⟩, ⟨.nilCheck (.reg 0), none, none⟩, ⟨.load1 (.reg 1), none, none⟩, ⟨.bin .add (.reg 2) (.cst (.int .i64 1)), none, none⟩, ⟨.nilCheck (.reg 0), none, none⟩, ⟨.store 1 (.reg 4) (.reg 3), none, none⟩])
  (.seq (.region [⟨.mov (.loc 2), none, none⟩, ⟨.mov (.loc 1), none, none⟩, ⟨.mov (.reg 0), (some 4), none⟩, ⟨.mov (.reg 1), (some 5), none⟩])
  .ret))
  .skip))
 (.seq (.region [⟨.mov (.loc 1), none, none⟩, ⟨.mov (.loc 2), none, none⟩, ⟨.mov (.reg 0), (some 4), none⟩, ⟨.mov (.reg 1), (some 5), none⟩])
 .ret)))⟩
theorem c201 : compFunc Tryz.prog opts a201 Tryz.f201 = some t201 := by kernel_rfl
def g0 : List IV := [(.int .u64 1), (.int .u64 10), (.int .u64 100), (.int .u64 1000), (.int .u64 10000), (.int .u64 100000), (.int .u64 1000000), (.int .u64 10000000), (.int .u64 100000000), (.int .u64 1000000000), (.int .u64 10000000000), (.int .u64 100000000000), (.int .u64 1000000000000), (.int .u64 10000000000000), (.int .u64 100000000000000), (.int .u64 1000000000000000), (.int .u64 10000000000000000), (.int .u64 100000000000000000), (.int .u64 1000000000000000000), (.int .u64 10000000000000000000)]
def g2 : List IV := [(.int .u8 240), (.int .u8 240), (.int .u8 240), (.int .u8 240), (.int .u8 240), (.int .u8 240), (.int .u8 240), (.int .u8 240), (.int .u8 240), (.int .u8 240), (.int .u8 240), (.int .u8 240), (.int .u8 240), (.int .u8 240), (.int .u8 240), (.int .u8 240), (.int .u8 240), (.int .u8 240), (.int .u8 240), (.int .u8 240), (.int .u8 240), (.int .u8 240), (.int .u8 240), (.int .u8 240), (.int .u8 240), (.int .u8 240), (.int .u8 240), (.int .u8 240), (.int .u8 240), (.int .u8 240), (.int .u8 240), (.int .u8 240), (.int .u8 240), (.int .u8 240), (.int .u8 240), (.int .u8 240), (.int .u8 240), (.int .u8 240), (.int .u8 240), (.int .u8 240), (.int .u8 240), (.int .u8 240), (.int .u8 240), (.int .u8 240), (.int .u8 240), (.int .u8 240), (.int .u8 240), (.int .u8 240), (.int .u8 240), (.int .u8 240), (.int .u8 240), (.int .u8 240), (.int .u8 240), (.int .u8 240), (.int .u8 240), (.int .u8 240), (.int .u8 240), (.int .u8 240), (.int .u8 240), (.int .u8 240), (.int .u8 240), (.int .u8 240), (.int .u8 240), (.int .u8 240), (.int .u8 240), (.int .u8 240), (.int .u8 240), (.int .u8 240), (.int .u8 240), (.int .u8 240), (.int .u8 240), (.int .u8 240), (.int .u8 240), (.int .u8 240), (.int .u8 240), (.int .u8 240), (.int .u8 240), (.int .u8 240), (.int .u8 240), (.int .u8 240), (.int .u8 240), (.int .u8 240), (.int .u8 240), (.int .u8 240), (.int .u8 240), (.int .u8 240), (.int .u8 240), (.int .u8 240), (.int .u8 240), (.int .u8 240), (.int .u8 240), (.int .u8 240), (.int .u8 240), (.int .u8 240), (.int .u8 240), (.int .u8 240), (.int .u8 240), (.int .u8 240), (.int .u8 240), (.int .u8 240), (.int .u8 240), (.int .u8 240), (.int .u8 240), (.int .u8 240), (.int .u8 240), (.int .u8 240), (.int .u8 240), (.int .u8 240), (.int .u8 240), (.int .u8 240), (.int .u8 240), (.int .u8 240), (.int .u8 240), (.int .u8 240), (.int .u8 240), (.int .u8 240), (.int .u8 240), (.int .u8 240), (.int .u8 240), (.int .u8 240), (.int .u8 240), (.int .u8 240), (.int .u8 240), (.int .u8 240), (.int .u8 240), (.int .u8 240), (.int .u8 240), (.int .u8 240), (.int .u8 241), (.int .u8 241), (.int .u8 241), (.int .u8 241), (.int .u8 241), (.int .u8 241), (.int .u8 241), (.int .u8 241), (.int .u8 241), (.int .u8 241), (.int .u8 241), (.int .u8 241), (.int .u8 241), (.int .u8 241), (.int .u8 241), (.int .u8 241), (.int .u8 241), (.int .u8 241), (.int .u8 241), (.int .u8 241), (.int .u8 241), (.int .u8 241), (.int .u8 241), (.int .u8 241), (.int .u8 241), (.int .u8 241), (.int .u8 241), (.int .u8 241), (.int .u8 241), (.int .u8 241), (.int .u8 241), (.int .u8 241), (.int .u8 241), (.int .u8 241), (.int .u8 241), (.int .u8 241), (.int .u8 241), (.int .u8 241), (.int .u8 241), (.int .u8 241), (.int .u8 241), (.int .u8 241), (.int .u8 241), (.int .u8 241), (.int .u8 241), (.int .u8 241), (.int .u8 241), (.int .u8 241), (.int .u8 241), (.int .u8 241), (.int .u8 241), (.int .u8 241), (.int .u8 241), (.int .u8 241), (.int .u8 241), (.int .u8 241), (.int .u8 241), (.int .u8 241), (.int .u8 241), (.int .u8 241), (.int .u8 241), (.int .u8 241), (.int .u8 241), (.int .u8 241), (.int .u8 241), (.int .u8 241), (.int .u8 2), (.int .u8 2), (.int .u8 2), (.int .u8 2), (.int .u8 2), (.int .u8 2), (.int .u8 2), (.int .u8 2), (.int .u8 2), (.int .u8 2), (.int .u8 2), (.int .u8 2), (.int .u8 2), (.int .u8 2), (.int .u8 2), (.int .u8 2), (.int .u8 2), (.int .u8 2), (.int .u8 2), (.int .u8 2), (.int .u8 2), (.int .u8 2), (.int .u8 2), (.int .u8 2), (.int .u8 2), (.int .u8 2), (.int .u8 2), (.int .u8 2), (.int .u8 2), (.int .u8 2), (.int .u8 19), (.int .u8 3), (.int .u8 3), (.int .u8 3), (.int .u8 3), (.int .u8 3), (.int .u8 3), (.int .u8 3), (.int .u8 3), (.int .u8 3), (.int .u8 3), (.int .u8 3), (.int .u8 3), (.int .u8 35), (.int .u8 3), (.int .u8 3), (.int .u8 52), (.int .u8 4), (.int .u8 4), (.int .u8 4), (.int .u8 68), (.int .u8 241), (.int .u8 241), (.int .u8 241), (.int .u8 241), (.int .u8 241), (.int .u8 241), (.int .u8 241), (.int .u8 241), (.int .u8 241), (.int .u8 241), (.int .u8 241)]
def g3 : List IV := [(.int .u8 128), (.int .u8 191), (.int .u8 160), (.int .u8 191), (.int .u8 128), (.int .u8 159), (.int .u8 144), (.int .u8 191), (.int .u8 128), (.int .u8 143), (.int .u8 0), (.int .u8 0), (.int .u8 0), (.int .u8 0), (.int .u8 0), (.int .u8 0), (.int .u8 0), (.int .u8 0), (.int .u8 0), (.int .u8 0), (.int .u8 0), (.int .u8 0), (.int .u8 0), (.int .u8 0), (.int .u8 0), (.int .u8 0), (.int .u8 0), (.int .u8 0), (.int .u8 0), (.int .u8 0), (.int .u8 0), (.int .u8 0)]
def g4 : List IV := [(.int .u8 0), (.int .u8 1), (.int .u8 28), (.int .u8 2), (.int .u8 29), (.int .u8 14), (.int .u8 24), (.int .u8 3), (.int .u8 30), (.int .u8 22), (.int .u8 20), (.int .u8 15), (.int .u8 25), (.int .u8 17), (.int .u8 4), (.int .u8 8), (.int .u8 31), (.int .u8 27), (.int .u8 13), (.int .u8 23), (.int .u8 21), (.int .u8 19), (.int .u8 16), (.int .u8 7), (.int .u8 26), (.int .u8 12), (.int .u8 18), (.int .u8 6), (.int .u8 11), (.int .u8 5), (.int .u8 10), (.int .u8 9)]
def g5 : List IV := [(.int .u8 0), (.int .u8 1), (.int .u8 56), (.int .u8 2), (.int .u8 57), (.int .u8 49), (.int .u8 28), (.int .u8 3), (.int .u8 61), (.int .u8 58), (.int .u8 42), (.int .u8 50), (.int .u8 38), (.int .u8 29), (.int .u8 17), (.int .u8 4), (.int .u8 62), (.int .u8 47), (.int .u8 59), (.int .u8 36), (.int .u8 45), (.int .u8 43), (.int .u8 51), (.int .u8 22), (.int .u8 53), (.int .u8 39), (.int .u8 33), (.int .u8 30), (.int .u8 24), (.int .u8 18), (.int .u8 12), (.int .u8 5), (.int .u8 63), (.int .u8 55), (.int .u8 48), (.int .u8 27), (.int .u8 60), (.int .u8 41), (.int .u8 37), (.int .u8 16), (.int .u8 46), (.int .u8 35), (.int .u8 44), (.int .u8 21), (.int .u8 52), (.int .u8 32), (.int .u8 23), (.int .u8 11), (.int .u8 54), (.int .u8 26), (.int .u8 40), (.int .u8 15), (.int .u8 34), (.int .u8 20), (.int .u8 31), (.int .u8 10), (.int .u8 25), (.int .u8 14), (.int .u8 19), (.int .u8 9), (.int .u8 13), (.int .u8 8), (.int .u8 7), (.int .u8 6)]
def tbl : List (Option TFunc) := [none, none, none, none, none, some t5, none, some t7, none, none, none, some t11, none, some t13, some t14, some t15, none, some t17, none, some t19, none, some t21, some t22, some t23, some t24, some t25, some t26, some t27, none, some t29, none, some t31, none, some t33, some t34, some t35, some t36, some t37, none, none, none, some t41, some t42, some t43, some t44, some t45, some t46, some t47, some t48, some t49, none, none, none, none, some t54, some t55, some t56, none, none, some t59, some t60, some t61, some t62, some t63, some t64, some t65, none, none, none, some t69, none, none, none, some t73, some t74, some t75, none, none, none, none, none, some t81, some t82, some t83, some t84, some t85, some t86, some t87, some t88, some t89, some t90, none, some t92, some t93, some t94, some t95, some t96, some t97, some t98, none, some t100, none, none, none, some t104, some t105, some t106, some t107, some t108, none, none, none, none, none, none, some t115, some t116, some t117, some t118, some t119, some t120, some t121, some t122, some t123, some t124, none, some t126, some t127, none, some t129, some t130, some t131, some t132, some t133, some t134, some t135, none, none, none, none, none, some t141, some t142, some t143, some t144, some t145, none, none, some t148, some t149, some t150, some t151, some t152, some t153, some t154, some t155, some t156, none, none, some t159, some t160, some t161, some t162, none, some t164, some t165, some t166, some t167, none, none, some t170, some t171, some t172, some t173, some t174, some t175, some t176, some t177, some t178, some t179, some t180, some t181, some t182, some t183, some t184, some t185, some t186, some t187, some t188, some t189, some t190, some t191, some t192, some t193, some t194, some t195, some t196, some t197, some t198, some t199, some t200, some t201]
def gtbl : List (Option (List IV)) := [some g0, none, some g2, some g3, some g4, some g5]
def K : TM.Prog := ⟨fun k => tbl.getD k none, fun g => gtbl.getD g none, fun f => primAt prims f⟩
/-- A function that stands in the table. -/
def Good (k : Nat) (tf : TFunc) : Prop := ∃ (A : Ann) (fn : Func), Tryz.prog.funcs[k]? = some fn ∧ fn.name ≠ "runtime.NumGoroutine" ∧ compFunc Tryz.prog opts A fn = some tf
theorem n5 : (Tryz.f5.name == "runtime.NumGoroutine") = false := by kernel_rfl
theorem q5 : Good 5 t5 := ⟨a5, Tryz.f5, Tryz.func5, fun e => by have h := n5; rw [e] at h; simp at h, c5⟩
theorem n7 : (Tryz.f7.name == "runtime.NumGoroutine") = false := by kernel_rfl
theorem q7 : Good 7 t7 := ⟨a7, Tryz.f7, Tryz.func7, fun e => by have h := n7; rw [e] at h; simp at h, c7⟩
theorem n11 : (Tryz.f11.name == "runtime.NumGoroutine") = false := by kernel_rfl
theorem q11 : Good 11 t11 := ⟨a11, Tryz.f11, Tryz.func11, fun e => by have h := n11; rw [e] at h; simp at h, c11⟩
theorem n13 : (Tryz.f13.name == "runtime.NumGoroutine") = false := by kernel_rfl
theorem q13 : Good 13 t13 := ⟨a13, Tryz.f13, Tryz.func13, fun e => by have h := n13; rw [e] at h; simp at h, c13⟩
theorem n14 : (Tryz.f14.name == "runtime.NumGoroutine") = false := by kernel_rfl
theorem q14 : Good 14 t14 := ⟨a14, Tryz.f14, Tryz.func14, fun e => by have h := n14; rw [e] at h; simp at h, c14⟩
theorem n15 : (Tryz.f15.name == "runtime.NumGoroutine") = false := by kernel_rfl
theorem q15 : Good 15 t15 := ⟨a15, Tryz.f15, Tryz.func15, fun e => by have h := n15; rw [e] at h; simp at h, c15⟩
theorem n17 : (Tryz.f17.name == "runtime.NumGoroutine") = false := by kernel_rfl
theorem q17 : Good 17 t17 := ⟨a17, Tryz.f17, Tryz.func17, fun e => by have h := n17; rw [e] at h; simp at h, c17⟩
theorem n19 : (Tryz.f19.name == "runtime.NumGoroutine") = false := by kernel_rfl
theorem q19 : Good 19 t19 := ⟨a19, Tryz.f19, Tryz.func19, fun e => by have h := n19; rw [e] at h; simp at h, c19⟩
theorem n21 : (Tryz.f21.name == "runtime.NumGoroutine") = false := by kernel_rfl
theorem q21 : Good 21 t21 := ⟨a21, Tryz.f21, Tryz.func21, fun e => by have h := n21; rw [e] at h; simp at h, c21⟩
theorem n22 : (Tryz.f22.name == "runtime.NumGoroutine") = false := by kernel_rfl
theorem q22 : Good 22 t22 := ⟨a22, Tryz.f22, Tryz.func22, fun e => by have h := n22; rw [e] at h; simp at h, c22⟩
theorem n23 : (Tryz.f23.name == "runtime.NumGoroutine") = false := by kernel_rfl
theorem q23 : Good 23 t23 := ⟨a23, Tryz.f23, Tryz.func23, fun e => by have h := n23; rw [e] at h; simp at h, c23⟩
theorem n24 : (Tryz.f24.name == "runtime.NumGoroutine") = false := by kernel_rfl
theorem q24 : Good 24 t24 := ⟨a24, Tryz.f24, Tryz.func24, fun e => by have h := n24; rw [e] at h; simp at h, c24⟩
theorem n25 : (Tryz.f25.name == "runtime.NumGoroutine") = false := by kernel_rfl
theorem q25 : Good 25 t25 := ⟨a25, Tryz.f25, Tryz.func25, fun e => by have h := n25; rw [e] at h; simp at h, c25⟩
theorem n26 : (Tryz.f26.name == "runtime.NumGoroutine") = false := by kernel_rfl
theorem q26 : Good 26 t26 := ⟨a26, Tryz.f26, Tryz.func26, fun e => by have h := n26; rw [e] at h; simp at h, c26⟩
theorem n27 : (Tryz.f27.name == "runtime.NumGoroutine") = false := by kernel_rfl
theorem q27 : Good 27 t27 := ⟨a27, Tryz.f27, Tryz.func27, fun e => by have h := n27; rw [e] at h; simp at h, c27⟩
theorem n29 : (Tryz.f29.name == "runtime.NumGoroutine") = false := by kernel_rfl
theorem q29 : Good 29 t29 := ⟨a29, Tryz.f29, Tryz.func29, fun e => by have h := n29; rw [e] at h; simp at h, c29⟩
theorem n31 : (Tryz.f31.name == "runtime.NumGoroutine") = false := by kernel_rfl
theorem q31 : Good 31 t31 := ⟨a31, Tryz.f31, Tryz.func31, fun e => by have h := n31; rw [e] at h; simp at h, c31⟩
theorem n33 : (Tryz.f33.name == "runtime.NumGoroutine") = false := by kernel_rfl
theorem q33 : Good 33 t33 := ⟨a33, Tryz.f33, Tryz.func33, fun e => by have h := n33; rw [e] at h; simp at h, c33⟩
theorem n34 : (Tryz.f34.name == "runtime.NumGoroutine") = false := by kernel_rfl
theorem q34 : Good 34 t34 := ⟨a34, Tryz.f34, Tryz.func34, fun e => by have h := n34; rw [e] at h; simp at h, c34⟩
theorem n35 : (Tryz.f35.name == "runtime.NumGoroutine") = false := by kernel_rfl
theorem q35 : Good 35 t35 := ⟨a35, Tryz.f35, Tryz.func35, fun e => by have h := n35; rw [e] at h; simp at h, c35⟩
theorem n36 : (Tryz.f36.name == "runtime.NumGoroutine") = false := by kernel_rfl
theorem q36 : Good 36 t36 := ⟨a36, Tryz.f36, Tryz.func36, fun e => by have h := n36; rw [e] at h; simp at h, c36⟩
theorem n37 : (Tryz.f37.name == "runtime.NumGoroutine") = false := by kernel_rfl
theorem q37 : Good 37 t37 := ⟨a37, Tryz.f37, Tryz.func37, fun e => by have h := n37; rw [e] at h; simp at h, c37⟩
theorem n41 : (Tryz.f41.name == "runtime.NumGoroutine") = false := by kernel_rfl
theorem q41 : Good 41 t41 := ⟨a41, Tryz.f41, Tryz.func41, fun e => by have h := n41; rw [e] at h; simp at h, c41⟩
theorem n42 : (Tryz.f42.name == "runtime.NumGoroutine") = false := by kernel_rfl
theorem q42 : Good 42 t42 := ⟨a42, Tryz.f42, Tryz.func42, fun e => by have h := n42; rw [e] at h; simp at h, c42⟩
theorem n43 : (Tryz.f43.name == "runtime.NumGoroutine") = false := by kernel_rfl
theorem q43 : Good 43 t43 := ⟨a43, Tryz.f43, Tryz.func43, fun e => by have h := n43; rw [e] at h; simp at h, c43⟩
theorem n44 : (Tryz.f44.name == "runtime.NumGoroutine") = false := by kernel_rfl
theorem q44 : Good 44 t44 := ⟨a44, Tryz.f44, Tryz.func44, fun e => by have h := n44; rw [e] at h; simp at h, c44⟩
theorem n45 : (Tryz.f45.name == "runtime.NumGoroutine") = false := by kernel_rfl
theorem q45 : Good 45 t45 := ⟨a45, Tryz.f45, Tryz.func45, fun e => by have h := n45; rw [e] at h; simp at h, c45⟩
theorem n46 : (Tryz.f46.name == "runtime.NumGoroutine") = false := by kernel_rfl
theorem q46 : Good 46 t46 := ⟨a46, Tryz.f46, Tryz.func46, fun e => by have h := n46; rw [e] at h; simp at h, c46⟩
theorem n47 : (Tryz.f47.name == "runtime.NumGoroutine") = false := by kernel_rfl
theorem q47 : Good 47 t47 := ⟨a47, Tryz.f47, Tryz.func47, fun e => by have h := n47; rw [e] at h; simp at h, c47⟩
theorem n48 : (Tryz.f48.name == "runtime.NumGoroutine") = false := by kernel_rfl
theorem q48 : Good 48 t48 := ⟨a48, Tryz.f48, Tryz.func48, fun e => by have h := n48; rw [e] at h; simp at h, c48⟩
theorem n49 : (Tryz.f49.name == "runtime.NumGoroutine") = false := by kernel_rfl
theorem q49 : Good 49 t49 := ⟨a49, Tryz.f49, Tryz.func49, fun e => by have h := n49; rw [e] at h; simp at h, c49⟩
theorem n54 : (Tryz.f54.name == "runtime.NumGoroutine") = false := by kernel_rfl
theorem q54 : Good 54 t54 := ⟨a54, Tryz.f54, Tryz.func54, fun e => by have h := n54; rw [e] at h; simp at h, c54⟩
theorem n55 : (Tryz.f55.name == "runtime.NumGoroutine") = false := by kernel_rfl
theorem q55 : Good 55 t55 := ⟨a55, Tryz.f55, Tryz.func55, fun e => by have h := n55; rw [e] at h; simp at h, c55⟩
theorem n56 : (Tryz.f56.name == "runtime.NumGoroutine") = false := by kernel_rfl
theorem q56 : Good 56 t56 := ⟨a56, Tryz.f56, Tryz.func56, fun e => by have h := n56; rw [e] at h; simp at h, c56⟩
theorem n59 : (Tryz.f59.name == "runtime.NumGoroutine") = false := by kernel_rfl
theorem q59 : Good 59 t59 := ⟨a59, Tryz.f59, Tryz.func59, fun e => by have h := n59; rw [e] at h; simp at h, c59⟩
theorem n60 : (Tryz.f60.name == "runtime.NumGoroutine") = false := by kernel_rfl
theorem q60 : Good 60 t60 := ⟨a60, Tryz.f60, Tryz.func60, fun e => by have h := n60; rw [e] at h; simp at h, c60⟩
theorem n61 : (Tryz.f61.name == "runtime.NumGoroutine") = false := by kernel_rfl
theorem q61 : Good 61 t61 := ⟨a61, Tryz.f61, Tryz.func61, fun e => by have h := n61; rw [e] at h; simp at h, c61⟩
theorem n62 : (Tryz.f62.name == "runtime.NumGoroutine") = false := by kernel_rfl
theorem q62 : Good 62 t62 := ⟨a62, Tryz.f62, Tryz.func62, fun e => by have h := n62; rw [e] at h; simp at h, c62⟩
theorem n63 : (Tryz.f63.name == "runtime.NumGoroutine") = false := by kernel_rfl
theorem q63 : Good 63 t63 := ⟨a63, Tryz.f63, Tryz.func63, fun e => by have h := n63; rw [e] at h; simp at h, c63⟩
theorem n64 : (Tryz.f64.name == "runtime.NumGoroutine") = false := by kernel_rfl
theorem q64 : Good 64 t64 := ⟨a64, Tryz.f64, Tryz.func64, fun e => by have h := n64; rw [e] at h; simp at h, c64⟩
theorem n65 : (Tryz.f65.name == "runtime.NumGoroutine") = false := by kernel_rfl
theorem q65 : Good 65 t65 := ⟨a65, Tryz.f65, Tryz.func65, fun e => by have h := n65; rw [e] at h; simp at h, c65⟩
theorem n69 : (Tryz.f69.name == "runtime.NumGoroutine") = false := by kernel_rfl
theorem q69 : Good 69 t69 := ⟨a69, Tryz.f69, Tryz.func69, fun e => by have h := n69; rw [e] at h; simp at h, c69⟩
theorem n73 : (Tryz.f73.name == "runtime.NumGoroutine") = false := by kernel_rfl
theorem q73 : Good 73 t73 := ⟨a73, Tryz.f73, Tryz.func73, fun e => by have h := n73; rw [e] at h; simp at h, c73⟩
theorem n74 : (Tryz.f74.name == "runtime.NumGoroutine") = false := by kernel_rfl
theorem q74 : Good 74 t74 := ⟨a74, Tryz.f74, Tryz.func74, fun e => by have h := n74; rw [e] at h; simp at h, c74⟩
theorem n75 : (Tryz.f75.name == "runtime.NumGoroutine") = false := by kernel_rfl
theorem q75 : Good 75 t75 := ⟨a75, Tryz.f75, Tryz.func75, fun e => by have h := n75; rw [e] at h; simp at h, c75⟩
theorem n81 : (Tryz.f81.name == "runtime.NumGoroutine") = false := by kernel_rfl
theorem q81 : Good 81 t81 := ⟨a81, Tryz.f81, Tryz.func81, fun e => by have h := n81; rw [e] at h; simp at h, c81⟩
theorem n82 : (Tryz.f82.name == "runtime.NumGoroutine") = false := by kernel_rfl
theorem q82 : Good 82 t82 := ⟨a82, Tryz.f82, Tryz.func82, fun e => by have h := n82; rw [e] at h; simp at h, c82⟩
theorem n83 : (Tryz.f83.name == "runtime.NumGoroutine") = false := by kernel_rfl
theorem q83 : Good 83 t83 := ⟨a83, Tryz.f83, Tryz.func83, fun e => by have h := n83; rw [e] at h; simp at h, c83⟩
theorem n84 : (Tryz.f84.name == "runtime.NumGoroutine") = false := by kernel_rfl
theorem q84 : Good 84 t84 := ⟨a84, Tryz.f84, Tryz.func84, fun e => by have h := n84; rw [e] at h; simp at h, c84⟩
theorem n85 : (Tryz.f85.name == "runtime.NumGoroutine") = false := by kernel_rfl
theorem q85 : Good 85 t85 := ⟨a85, Tryz.f85, Tryz.func85, fun e => by have h := n85; rw [e] at h; simp at h, c85⟩
theorem n86 : (Tryz.f86.name == "runtime.NumGoroutine") = false := by kernel_rfl
theorem q86 : Good 86 t86 := ⟨a86, Tryz.f86, Tryz.func86, fun e => by have h := n86; rw [e] at h; simp at h, c86⟩
theorem n87 : (Tryz.f87.name == "runtime.NumGoroutine") = false := by kernel_rfl
theorem q87 : Good 87 t87 := ⟨a87, Tryz.f87, Tryz.func87, fun e => by have h := n87; rw [e] at h; simp at h, c87⟩
theorem n88 : (Tryz.f88.name == "runtime.NumGoroutine") = false := by kernel_rfl
theorem q88 : Good 88 t88 := ⟨a88, Tryz.f88, Tryz.func88, fun e => by have h := n88; rw [e] at h; simp at h, c88⟩
theorem n89 : (Tryz.f89.name == "runtime.NumGoroutine") = false := by kernel_rfl
theorem q89 : Good 89 t89 := ⟨a89, Tryz.f89, Tryz.func89, fun e => by have h := n89; rw [e] at h; simp at h, c89⟩
theorem n90 : (Tryz.f90.name == "runtime.NumGoroutine") = false := by kernel_rfl
theorem q90 : Good 90 t90 := ⟨a90, Tryz.f90, Tryz.func90, fun e => by have h := n90; rw [e] at h; simp at h, c90⟩
theorem n92 : (Tryz.f92.name == "runtime.NumGoroutine") = false := by kernel_rfl
theorem q92 : Good 92 t92 := ⟨a92, Tryz.f92, Tryz.func92, fun e => by have h := n92; rw [e] at h; simp at h, c92⟩
theorem n93 : (Tryz.f93.name == "runtime.NumGoroutine") = false := by kernel_rfl
theorem q93 : Good 93 t93 := ⟨a93, Tryz.f93, Tryz.func93, fun e => by have h := n93; rw [e] at h; simp at h, c93⟩
theorem n94 : (Tryz.f94.name == "runtime.NumGoroutine") = false := by kernel_rfl
theorem q94 : Good 94 t94 := ⟨a94, Tryz.f94, Tryz.func94, fun e => by have h := n94; rw [e] at h; simp at h, c94⟩
theorem n95 : (Tryz.f95.name == "runtime.NumGoroutine") = false := by kernel_rfl
theorem q95 : Good 95 t95 := ⟨a95, Tryz.f95, Tryz.func95, fun e => by have h := n95; rw [e] at h; simp at h, c95⟩
theorem n96 : (Tryz.f96.name == "runtime.NumGoroutine") = false := by kernel_rfl
theorem q96 : Good 96 t96 := ⟨a96, Tryz.f96, Tryz.func96, fun e => by have h := n96; rw [e] at h; simp at h, c96⟩
theorem n97 : (Tryz.f97.name == "runtime.NumGoroutine") = false := by kernel_rfl
theorem q97 : Good 97 t97 := ⟨a97, Tryz.f97, Tryz.func97, fun e => by have h := n97; rw [e] at h; simp at h, c97⟩
theorem n98 : (Tryz.f98.name == "runtime.NumGoroutine") = false := by kernel_rfl
theorem q98 : Good 98 t98 := ⟨a98, Tryz.f98, Tryz.func98, fun e => by have h := n98; rw [e] at h; simp at h, c98⟩
theorem n100 : (Tryz.f100.name == "runtime.NumGoroutine") = false := by kernel_rfl
theorem q100 : Good 100 t100 := ⟨a100, Tryz.f100, Tryz.func100, fun e => by have h := n100; rw [e] at h; simp at h, c100⟩
theorem n104 : (Tryz.f104.name == "runtime.NumGoroutine") = false := by kernel_rfl
theorem q104 : Good 104 t104 := ⟨a104, Tryz.f104, Tryz.func104, fun e => by have h := n104; rw [e] at h; simp at h, c104⟩
theorem n105 : (Tryz.f105.name == "runtime.NumGoroutine") = false := by kernel_rfl
theorem q105 : Good 105 t105 := ⟨a105, Tryz.f105, Tryz.func105, fun e => by have h := n105; rw [e] at h; simp at h, c105⟩
theorem n106 : (Tryz.f106.name == "runtime.NumGoroutine") = false := by kernel_rfl
theorem q106 : Good 106 t106 := ⟨a106, Tryz.f106, Tryz.func106, fun e => by have h := n106; rw [e] at h; simp at h, c106⟩
theorem n107 : (Tryz.f107.name == "runtime.NumGoroutine") = false := by kernel_rfl
theorem q107 : Good 107 t107 := ⟨a107, Tryz.f107, Tryz.func107, fun e => by have h := n107; rw [e] at h; simp at h, c107⟩
theorem n108 : (Tryz.f108.name == "runtime.NumGoroutine") = false := by kernel_rfl
theorem q108 : Good 108 t108 := ⟨a108, Tryz.f108, Tryz.func108, fun e => by have h := n108; rw [e] at h; simp at h, c108⟩
theorem n115 : (Tryz.f115.name == "runtime.NumGoroutine") = false := by kernel_rfl
theorem q115 : Good 115 t115 := ⟨a115, Tryz.f115, Tryz.func115, fun e => by have h := n115; rw [e] at h; simp at h, c115⟩
theorem n116 : (Tryz.f116.name == "runtime.NumGoroutine") = false := by kernel_rfl
theorem q116 : Good 116 t116 := ⟨a116, Tryz.f116, Tryz.func116, fun e => by have h := n116; rw [e] at h; simp at h, c116⟩
theorem n117 : (Tryz.f117.name == "runtime.NumGoroutine") = false := by kernel_rfl
theorem q117 : Good 117 t117 := ⟨a117, Tryz.f117, Tryz.func117, fun e => by have h := n117; rw [e] at h; simp at h, c117⟩
theorem n118 : (Tryz.f118.name == "runtime.NumGoroutine") = false := by kernel_rfl
theorem q118 : Good 118 t118 := ⟨a118, Tryz.f118, Tryz.func118, fun e => by have h := n118; rw [e] at h; simp at h, c118⟩
theorem n119 : (Tryz.f119.name == "runtime.NumGoroutine") = false := by kernel_rfl
theorem q119 : Good 119 t119 := ⟨a119, Tryz.f119, Tryz.func119, fun e => by have h := n119; rw [e] at h; simp at h, c119⟩
theorem n120 : (Tryz.f120.name == "runtime.NumGoroutine") = false := by kernel_rfl
theorem q120 : Good 120 t120 := ⟨a120, Tryz.f120, Tryz.func120, fun e => by have h := n120; rw [e] at h; simp at h, c120⟩
theorem n121 : (Tryz.f121.name == "runtime.NumGoroutine") = false := by kernel_rfl
theorem q121 : Good 121 t121 := ⟨a121, Tryz.f121, Tryz.func121, fun e => by have h := n121; rw [e] at h; simp at h, c121⟩
theorem n122 : (Tryz.f122.name == "runtime.NumGoroutine") = false := by kernel_rfl
theorem q122 : Good 122 t122 := ⟨a122, Tryz.f122, Tryz.func122, fun e => by have h := n122; rw [e] at h; simp at h, c122⟩
theorem n123 : (Tryz.f123.name == "runtime.NumGoroutine") = false := by kernel_rfl
theorem q123 : Good 123 t123 := ⟨a123, Tryz.f123, Tryz.func123, fun e => by have h := n123; rw [e] at h; simp at h, c123⟩
theorem n124 : (Tryz.f124.name == "runtime.NumGoroutine") = false := by kernel_rfl
theorem q124 : Good 124 t124 := ⟨a124, Tryz.f124, Tryz.func124, fun e => by have h := n124; rw [e] at h; simp at h, c124⟩
theorem n126 : (Tryz.f126.name == "runtime.NumGoroutine") = false := by kernel_rfl
theorem q126 : Good 126 t126 := ⟨a126, Tryz.f126, Tryz.func126, fun e => by have h := n126; rw [e] at h; simp at h, c126⟩
theorem n127 : (Tryz.f127.name == "runtime.NumGoroutine") = false := by kernel_rfl
theorem q127 : Good 127 t127 := ⟨a127, Tryz.f127, Tryz.func127, fun e => by have h := n127; rw [e] at h; simp at h, c127⟩
theorem n129 : (Tryz.f129.name == "runtime.NumGoroutine") = false := by kernel_rfl
theorem q129 : Good 129 t129 := ⟨a129, Tryz.f129, Tryz.func129, fun e => by have h := n129; rw [e] at h; simp at h, c129⟩
theorem n130 : (Tryz.f130.name == "runtime.NumGoroutine") = false := by kernel_rfl
theorem q130 : Good 130 t130 := ⟨a130, Tryz.f130, Tryz.func130, fun e => by have h := n130; rw [e] at h; simp at h, c130⟩
theorem n131 : (Tryz.f131.name == "runtime.NumGoroutine") = false := by kernel_rfl
theorem q131 : Good 131 t131 := ⟨a131, Tryz.f131, Tryz.func131, fun e => by have h := n131; rw [e] at h; simp at h, c131⟩
theorem n132 : (Tryz.f132.name == "runtime.NumGoroutine") = false := by kernel_rfl
theorem q132 : Good 132 t132 := ⟨a132, Tryz.f132, Tryz.func132, fun e => by have h := n132; rw [e] at h; simp at h, c132⟩
theorem n133 : (Tryz.f133.name == "runtime.NumGoroutine") = false := by kernel_rfl
theorem q133 : Good 133 t133 := ⟨a133, Tryz.f133, Tryz.func133, fun e => by have h := n133; rw [e] at h; simp at h, c133⟩
theorem n134 : (Tryz.f134.name == "runtime.NumGoroutine") = false := by kernel_rfl
theorem q134 : Good 134 t134 := ⟨a134, Tryz.f134, Tryz.func134, fun e => by have h := n134; rw [e] at h; simp at h, c134⟩
theorem n135 : (Tryz.f135.name == "runtime.NumGoroutine") = false := by kernel_rfl
theorem q135 : Good 135 t135 := ⟨a135, Tryz.f135, Tryz.func135, fun e => by have h := n135; rw [e] at h; simp at h, c135⟩
theorem n141 : (Tryz.f141.name == "runtime.NumGoroutine") = false := by kernel_rfl
theorem q141 : Good 141 t141 := ⟨a141, Tryz.f141, Tryz.func141, fun e => by have h := n141; rw [e] at h; simp at h, c141⟩
theorem n142 : (Tryz.f142.name == "runtime.NumGoroutine") = false := by kernel_rfl
theorem q142 : Good 142 t142 := ⟨a142, Tryz.f142, Tryz.func142, fun e => by have h := n142; rw [e] at h; simp at h, c142⟩
theorem n143 : (Tryz.f143.name == "runtime.NumGoroutine") = false := by kernel_rfl
theorem q143 : Good 143 t143 := ⟨a143, Tryz.f143, Tryz.func143, fun e => by have h := n143; rw [e] at h; simp at h, c143⟩
theorem n144 : (Tryz.f144.name == "runtime.NumGoroutine") = false := by kernel_rfl
theorem q144 : Good 144 t144 := ⟨a144, Tryz.f144, Tryz.func144, fun e => by have h := n144; rw [e] at h; simp at h, c144⟩
theorem n145 : (Tryz.f145.name == "runtime.NumGoroutine") = false := by kernel_rfl
theorem q145 : Good 145 t145 := ⟨a145, Tryz.f145, Tryz.func145, fun e => by have h := n145; rw [e] at h; simp at h, c145⟩
theorem n148 : (Tryz.f148.name == "runtime.NumGoroutine") = false := by kernel_rfl
theorem q148 : Good 148 t148 := ⟨a148, Tryz.f148, Tryz.func148, fun e => by have h := n148; rw [e] at h; simp at h, c148⟩
theorem n149 : (Tryz.f149.name == "runtime.NumGoroutine") = false := by kernel_rfl
theorem q149 : Good 149 t149 := ⟨a149, Tryz.f149, Tryz.func149, fun e => by have h := n149; rw [e] at h; simp at h, c149⟩
theorem n150 : (Tryz.f150.name == "runtime.NumGoroutine") = false := by kernel_rfl
theorem q150 : Good 150 t150 := ⟨a150, Tryz.f150, Tryz.func150, fun e => by have h := n150; rw [e] at h; simp at h, c150⟩
theorem n151 : (Tryz.f151.name == "runtime.NumGoroutine") = false := by kernel_rfl
theorem q151 : Good 151 t151 := ⟨a151, Tryz.f151, Tryz.func151, fun e => by have h := n151; rw [e] at h; simp at h, c151⟩
theorem n152 : (Tryz.f152.name == "runtime.NumGoroutine") = false := by kernel_rfl
theorem q152 : Good 152 t152 := ⟨a152, Tryz.f152, Tryz.func152, fun e => by have h := n152; rw [e] at h; simp at h, c152⟩
theorem n153 : (Tryz.f153.name == "runtime.NumGoroutine") = false := by kernel_rfl
theorem q153 : Good 153 t153 := ⟨a153, Tryz.f153, Tryz.func153, fun e => by have h := n153; rw [e] at h; simp at h, c153⟩
theorem n154 : (Tryz.f154.name == "runtime.NumGoroutine") = false := by kernel_rfl
theorem q154 : Good 154 t154 := ⟨a154, Tryz.f154, Tryz.func154, fun e => by have h := n154; rw [e] at h; simp at h, c154⟩
theorem n155 : (Tryz.f155.name == "runtime.NumGoroutine") = false := by kernel_rfl
theorem q155 : Good 155 t155 := ⟨a155, Tryz.f155, Tryz.func155, fun e => by have h := n155; rw [e] at h; simp at h, c155⟩
theorem n156 : (Tryz.f156.name == "runtime.NumGoroutine") = false := by kernel_rfl
theorem q156 : Good 156 t156 := ⟨a156, Tryz.f156, Tryz.func156, fun e => by have h := n156; rw [e] at h; simp at h, c156⟩
theorem n159 : (Tryz.f159.name == "runtime.NumGoroutine") = false := by kernel_rfl
theorem q159 : Good 159 t159 := ⟨a159, Tryz.f159, Tryz.func159, fun e => by have h := n159; rw [e] at h; simp at h, c159⟩
theorem n160 : (Tryz.f160.name == "runtime.NumGoroutine") = false := by kernel_rfl
theorem q160 : Good 160 t160 := ⟨a160, Tryz.f160, Tryz.func160, fun e => by have h := n160; rw [e] at h; simp at h, c160⟩
theorem n161 : (Tryz.f161.name == "runtime.NumGoroutine") = false := by kernel_rfl
theorem q161 : Good 161 t161 := ⟨a161, Tryz.f161, Tryz.func161, fun e => by have h := n161; rw [e] at h; simp at h, c161⟩
theorem n162 : (Tryz.f162.name == "runtime.NumGoroutine") = false := by kernel_rfl
theorem q162 : Good 162 t162 := ⟨a162, Tryz.f162, Tryz.func162, fun e => by have h := n162; rw [e] at h; simp at h, c162⟩
theorem n164 : (Tryz.f164.name == "runtime.NumGoroutine") = false := by kernel_rfl
theorem q164 : Good 164 t164 := ⟨a164, Tryz.f164, Tryz.func164, fun e => by have h := n164; rw [e] at h; simp at h, c164⟩
theorem n165 : (Tryz.f165.name == "runtime.NumGoroutine") = false := by kernel_rfl
theorem q165 : Good 165 t165 := ⟨a165, Tryz.f165, Tryz.func165, fun e => by have h := n165; rw [e] at h; simp at h, c165⟩
theorem n166 : (Tryz.f166.name == "runtime.NumGoroutine") = false := by kernel_rfl
theorem q166 : Good 166 t166 := ⟨a166, Tryz.f166, Tryz.func166, fun e => by have h := n166; rw [e] at h; simp at h, c166⟩
theorem n167 : (Tryz.f167.name == "runtime.NumGoroutine") = false := by kernel_rfl
theorem q167 : Good 167 t167 := ⟨a167, Tryz.f167, Tryz.func167, fun e => by have h := n167; rw [e] at h; simp at h, c167⟩
theorem n170 : (Tryz.f170.name == "runtime.NumGoroutine") = false := by kernel_rfl
theorem q170 : Good 170 t170 := ⟨a170, Tryz.f170, Tryz.func170, fun e => by have h := n170; rw [e] at h; simp at h, c170⟩
theorem n171 : (Tryz.f171.name == "runtime.NumGoroutine") = false := by kernel_rfl
theorem q171 : Good 171 t171 := ⟨a171, Tryz.f171, Tryz.func171, fun e => by have h := n171; rw [e] at h; simp at h, c171⟩
theorem n172 : (Tryz.f172.name == "runtime.NumGoroutine") = false := by kernel_rfl
theorem q172 : Good 172 t172 := ⟨a172, Tryz.f172, Tryz.func172, fun e => by have h := n172; rw [e] at h; simp at h, c172⟩
theorem n173 : (Tryz.f173.name == "runtime.NumGoroutine") = false := by kernel_rfl
theorem q173 : Good 173 t173 := ⟨a173, Tryz.f173, Tryz.func173, fun e => by have h := n173; rw [e] at h; simp at h, c173⟩
theorem n174 : (Tryz.f174.name == "runtime.NumGoroutine") = false := by kernel_rfl
theorem q174 : Good 174 t174 := ⟨a174, Tryz.f174, Tryz.func174, fun e => by have h := n174; rw [e] at h; simp at h, c174⟩
theorem n175 : (Tryz.f175.name == "runtime.NumGoroutine") = false := by kernel_rfl
theorem q175 : Good 175 t175 := ⟨a175, Tryz.f175, Tryz.func175, fun e => by have h := n175; rw [e] at h; simp at h, c175⟩
theorem n176 : (Tryz.f176.name == "runtime.NumGoroutine") = false := by kernel_rfl
theorem q176 : Good 176 t176 := ⟨a176, Tryz.f176, Tryz.func176, fun e => by have h := n176; rw [e] at h; simp at h, c176⟩
theorem n177 : (Tryz.f177.name == "runtime.NumGoroutine") = false := by kernel_rfl
theorem q177 : Good 177 t177 := ⟨a177, Tryz.f177, Tryz.func177, fun e => by have h := n177; rw [e] at h; simp at h, c177⟩
theorem n178 : (Tryz.f178.name == "runtime.NumGoroutine") = false := by kernel_rfl
theorem q178 : Good 178 t178 := ⟨a178, Tryz.f178, Tryz.func178, fun e => by have h := n178; rw [e] at h; simp at h, c178⟩
theorem n179 : (Tryz.f179.name == "runtime.NumGoroutine") = false := by kernel_rfl
theorem q179 : Good 179 t179 := ⟨a179, Tryz.f179, Tryz.func179, fun e => by have h := n179; rw [e] at h; simp at h, c179⟩
theorem n180 : (Tryz.f180.name == "runtime.NumGoroutine") = false := by kernel_rfl
theorem q180 : Good 180 t180 := ⟨a180, Tryz.f180, Tryz.func180, fun e => by have h := n180; rw [e] at h; simp at h, c180⟩
theorem n181 : (Tryz.f181.name == "runtime.NumGoroutine") = false := by kernel_rfl
theorem q181 : Good 181 t181 := ⟨a181, Tryz.f181, Tryz.func181, fun e => by have h := n181; rw [e] at h; simp at h, c181⟩
theorem n182 : (Tryz.f182.name == "runtime.NumGoroutine") = false := by kernel_rfl
theorem q182 : Good 182 t182 := ⟨a182, Tryz.f182, Tryz.func182, fun e => by have h := n182; rw [e] at h; simp at h, c182⟩
theorem n183 : (Tryz.f183.name == "runtime.NumGoroutine") = false := by kernel_rfl
theorem q183 : Good 183 t183 := ⟨a183, Tryz.f183, Tryz.func183, fun e => by have h := n183; rw [e] at h; simp at h, c183⟩
theorem n184 : (Tryz.f184.name == "runtime.NumGoroutine") = false := by kernel_rfl
theorem q184 : Good 184 t184 := ⟨a184, Tryz.f184, Tryz.func184, fun e => by have h := n184; rw [e] at h; simp at h, c184⟩
theorem n185 : (Tryz.f185.name == "runtime.NumGoroutine") = false := by kernel_rfl
theorem q185 : Good 185 t185 := ⟨a185, Tryz.f185, Tryz.func185, fun e => by have h := n185; rw [e] at h; simp at h, c185⟩
theorem n186 : (Tryz.f186.name == "runtime.NumGoroutine") = false := by kernel_rfl
theorem q186 : Good 186 t186 := ⟨a186, Tryz.f186, Tryz.func186, fun e => by have h := n186; rw [e] at h; simp at h, c186⟩
theorem n187 : (Tryz.f187.name == "runtime.NumGoroutine") = false := by kernel_rfl
theorem q187 : Good 187 t187 := ⟨a187, Tryz.f187, Tryz.func187, fun e => by have h := n187; rw [e] at h; simp at h, c187⟩
theorem n188 : (Tryz.f188.name == "runtime.NumGoroutine") = false := by kernel_rfl
theorem q188 : Good 188 t188 := ⟨a188, Tryz.f188, Tryz.func188, fun e => by have h := n188; rw [e] at h; simp at h, c188⟩
theorem n189 : (Tryz.f189.name == "runtime.NumGoroutine") = false := by kernel_rfl
theorem q189 : Good 189 t189 := ⟨a189, Tryz.f189, Tryz.func189, fun e => by have h := n189; rw [e] at h; simp at h, c189⟩
theorem n190 : (Tryz.f190.name == "runtime.NumGoroutine") = false := by kernel_rfl
theorem q190 : Good 190 t190 := ⟨a190, Tryz.f190, Tryz.func190, fun e => by have h := n190; rw [e] at h; simp at h, c190⟩
theorem n191 : (Tryz.f191.name == "runtime.NumGoroutine") = false := by kernel_rfl
theorem q191 : Good 191 t191 := ⟨a191, Tryz.f191, Tryz.func191, fun e => by have h := n191; rw [e] at h; simp at h, c191⟩
theorem n192 : (Tryz.f192.name == "runtime.NumGoroutine") = false := by kernel_rfl
theorem q192 : Good 192 t192 := ⟨a192, Tryz.f192, Tryz.func192, fun e => by have h := n192; rw [e] at h; simp at h, c192⟩
theorem n193 : (Tryz.f193.name == "runtime.NumGoroutine") = false := by kernel_rfl
theorem q193 : Good 193 t193 := ⟨a193, Tryz.f193, Tryz.func193, fun e => by have h := n193; rw [e] at h; simp at h, c193⟩
theorem n194 : (Tryz.f194.name == "runtime.NumGoroutine") = false := by kernel_rfl
theorem q194 : Good 194 t194 := ⟨a194, Tryz.f194, Tryz.func194, fun e => by have h := n194; rw [e] at h; simp at h, c194⟩
theorem n195 : (Tryz.f195.name == "runtime.NumGoroutine") = false := by kernel_rfl
theorem q195 : Good 195 t195 := ⟨a195, Tryz.f195, Tryz.func195, fun e => by have h := n195; rw [e] at h; simp at h, c195⟩
theorem n196 : (Tryz.f196.name == "runtime.NumGoroutine") = false := by kernel_rfl
theorem q196 : Good 196 t196 := ⟨a196, Tryz.f196, Tryz.func196, fun e => by have h := n196; rw [e] at h; simp at h, c196⟩
theorem n197 : (Tryz.f197.name == "runtime.NumGoroutine") = false := by kernel_rfl
theorem q197 : Good 197 t197 := ⟨a197, Tryz.f197, Tryz.func197, fun e => by have h := n197; rw [e] at h; simp at h, c197⟩
theorem n198 : (Tryz.f198.name == "runtime.NumGoroutine") = false := by kernel_rfl
theorem q198 : Good 198 t198 := ⟨a198, Tryz.f198, Tryz.func198, fun e => by have h := n198; rw [e] at h; simp at h, c198⟩
theorem n199 : (Tryz.f199.name == "runtime.NumGoroutine") = false := by kernel_rfl
theorem q199 : Good 199 t199 := ⟨a199, Tryz.f199, Tryz.func199, fun e => by have h := n199; rw [e] at h; simp at h, c199⟩
theorem n200 : (Tryz.f200.name == "runtime.NumGoroutine") = false := by kernel_rfl
theorem q200 : Good 200 t200 := ⟨a200, Tryz.f200, Tryz.func200, fun e => by have h := n200; rw [e] at h; simp at h, c200⟩
theorem n201 : (Tryz.f201.name == "runtime.NumGoroutine") = false := by kernel_rfl
theorem q201 : Good 201 t201 := ⟨a201, Tryz.f201, Tryz.func201, fun e => by have h := n201; rw [e] at h; simp at h, c201⟩
theorem good : AllAt Good 0 tbl := ⟨q5, q7, q11, q13, q14, q15, q17, q19, q21, q22, q23, q24, q25, q26, q27, q29, q31, q33, q34, q35, q36, q37, q41, q42, q43, q44, q45, q46, q47, q48, q49, q54, q55, q56, q59, q60, q61, q62, q63, q64, q65, q69, q73, q74, q75, q81, q82, q83, q84, q85, q86, q87, q88, q89, q90, q92, q93, q94, q95, q96, q97, q98, q100, q104, q105, q106, q107, q108, q115, q116, q117, q118, q119, q120, q121, q122, q123, q124, q126, q127, q129, q130, q131, q132, q133, q134, q135, q141, q142, q143, q144, q145, q148, q149, q150, q151, q152, q153, q154, q155, q156, q159, q160, q161, q162, q164, q165, q166, q167, q170, q171, q172, q173, q174, q175, q176, q177, q178, q179, q180, q181, q182, q183, q184, q185, q186, q187, q188, q189, q190, q191, q192, q193, q194, q195, q196, q197, q198, q199, q200, q201, trivial⟩
theorem kok : KOK Tryz.prog opts K := ⟨fun k tf h => allAt_get good k tf h, fun f p h => primAt_ok (prims_ok opts K) h, by kernel_rfl⟩
end Go.Proofs.YtdomjhilmamnpaaGreatDoor
