/- The functions of this seat, compiled for the evaluator TM, a part. By program. Condition: none. -/
import Derived.Test.YtookmpaholmmfaaGreatDoorTmProg1
set_option maxRecDepth 100000
set_option linter.unusedVariables false
namespace Go.Proofs.YtookmpaholmmfaaGreatDoor
open Go Go.TM
def a178 : Ann := { slots := [0, 1, 2, 6, 7, 13], lb := [], mu := [], trunc := [], draws := [(3, ⟨[0, 0, 0, 0, 0, 0, 48, 112, 0, 0, 768, 1792, 4083, 8179, 16383, 32767], [0, 1, 2, 3, 4, 5, 6, 7, 8, 9, 10, 11, 12], [(13, [], [14]), (15, [], [])]⟩)] }
def t178L0 : TCode := (.seq (.seq (.region [⟨.mov (.loc 3), none, none⟩, ⟨.mov (.loc 4), none, none⟩, ⟨.bin .lss (.reg 0) (.reg 1), (some 5), none⟩])
   (.cond (.loc 5)
    .skip
    (.exit 0)))
   (.block 1
    (.seq (.draw [0, 1, 2, 3, 4, 5, 6, 7, 8, 9, 10, 11, 12] [(13, [], [14]), (15, [], [])] [⟨.mov (.loc 0), none, none⟩, ⟨.mov (.loc 3), none, none⟩, ⟨.mov (.loc 0), none, none⟩, ⟨.mov (.loc 4), none, none⟩, ⟨.mov (.loc 0), none, none⟩, ⟨.mov (.loc 4), none, none⟩, ⟨.indexAddrS 1 (.reg 4) (.reg 5), none, none⟩, ⟨.load1 (.reg 6), none, none⟩, ⟨.mov (.loc 0), none, none⟩, ⟨.mov (.loc 3), none, none⟩, ⟨.indexAddrS 1 (.reg 8) (.reg 9), none, none⟩, ⟨.load1 (.reg 10), none, none⟩, ⟨.indexAddrS 1 (.reg 0) (.reg 1), none, none⟩, ⟨.store 1 (.reg 12) (.reg 7), none, none⟩, ⟨.indexAddrS 1 (.reg 2) (.reg 3), none, none⟩, ⟨.store 1 (.reg 14) (.reg 11), none, none⟩])
    (.seq (.region [⟨.mov (.loc 3), none, none⟩, ⟨.bin .add (.reg 0) (.cst (.int .i64 1)), none, none⟩, ⟨.mov (.reg 1), (some 3), none⟩])
    (.region [⟨.mov (.loc 4), none, none⟩, ⟨.bin .sub (.reg 0) (.cst (.int .i64 1)), none, none⟩, ⟨.mov (.reg 1), (some 4), none⟩])))))
def t178 : TFunc := ⟨3, 6, [],
 (.seq (.region [⟨.mov (.loc 1), none, none⟩, ⟨.mov (.reg 0), (some 3), none⟩])
 (.seq (.region [⟨.mov (.loc 2), none, none⟩, ⟨.bin .sub (.reg 0) (.cst (.int .i64 1)), none, none⟩, ⟨.mov (.reg 1), (some 4), none⟩])
 (.block 0
  (.loop t178L0))))⟩
theorem c178 : compFunc Tryz.prog opts a178 Tryz.f178 = some t178 := by kernel_rfl
def a179 : Ann := { slots := [0, 1, 2, 6, 7, 8, 9, 10, 14, 32, 37, 41, 61, 65, 78, 98, 103, 116], lb := [], mu := [], trunc := [], draws := [(5, ⟨[0, 0, 3, 7, 15, 15, 63, 127, 15, 15, 527, 1807, 3855, 8191, 16383, 32767], [0, 1, 2, 3, 4, 5, 6, 7, 8, 9, 10, 11, 12], [(13, [], [14, 15])]⟩), (11, ⟨[0, 0, 0, 0, 8, 0, 0, 64, 224, 480, 0, 0, 3072, 7168, 16355, 32739, 65535, 131071], [0, 1, 2, 3, 4, 5, 6, 7, 8, 9, 10, 11, 12, 13, 14], [(15, [], [16]), (17, [], [])]⟩), (16, ⟨[0, 0, 3, 7, 0, 0, 32, 112, 240, 511, 1023], [0, 1, 2, 3, 4, 5, 6, 7, 8], [(9, [], [10])]⟩), (17, ⟨[0, 0, 0, 0, 8, 0, 0, 64, 224, 480, 0, 0, 3072, 7168, 16355, 32739, 65535, 131071], [0, 1, 2, 3, 4, 5, 6, 7, 8, 9, 10, 11, 12, 13, 14], [(15, [], [16]), (17, [], [])]⟩), (22, ⟨[0, 0, 3, 7, 0, 0, 32, 112, 240, 511, 1023], [0, 1, 2, 3, 4, 5, 6, 7, 8], [(9, [], [10])]⟩), (23, ⟨[0, 0, 0, 0, 8, 0, 0, 64, 224, 480, 0, 0, 3072, 7168, 16355, 32739, 65535, 131071], [0, 1, 2, 3, 4, 5, 6, 7, 8, 9, 10, 11, 12, 13, 14], [(15, [], [16]), (17, [], [])]⟩)] }
def t179L0 : TCode := (.seq (.seq (.region [⟨.mov (.loc 7), none, none⟩, ⟨.mov (.loc 2), none, none⟩, ⟨.bin .lss (.reg 0) (.reg 1), (some 16), none⟩])
       (.cond (.loc 16)
        .skip
        (.exit 6)))
       (.seq (.block 7
        (.seq (.seq (.draw [0, 1, 2, 3, 4, 5, 6, 7, 8] [(9, [], [10])] [⟨.mov (.loc 0), none, none⟩, ⟨.mov (.loc 7), none, none⟩, ⟨.indexAddrS 1 (.reg 0) (.reg 1), none, none⟩, ⟨.load1 (.reg 2), none, none⟩, ⟨.mov (.loc 0), none, none⟩, ⟨.mov (.loc 7), none, none⟩, ⟨.bin .sub (.reg 5) (.cst (.int .i64 1)), none, none⟩, ⟨.indexAddrS 1 (.reg 4) (.reg 6), none, none⟩, ⟨.load1 (.reg 7), none, none⟩, ⟨.call true false 180 [(.reg 3), (.reg 8)], none, none⟩, ⟨.un .not (.reg 9), (some 17), none⟩])
        (.cond (.loc 17)
         (.exit 6)
         .skip))
        (.draw [0, 1, 2, 3, 4, 5, 6, 7, 8, 9, 10, 11, 12, 13, 14] [(15, [], [16]), (17, [], [])] [⟨.mov (.loc 0), none, none⟩, ⟨.mov (.loc 7), none, none⟩, ⟨.mov (.loc 0), none, none⟩, ⟨.mov (.loc 7), none, none⟩, ⟨.bin .sub (.reg 3) (.cst (.int .i64 1)), none, none⟩, ⟨.mov (.loc 0), none, none⟩, ⟨.mov (.loc 7), none, none⟩, ⟨.bin .sub (.reg 6) (.cst (.int .i64 1)), none, none⟩, ⟨.indexAddrS 1 (.reg 5) (.reg 7), none, none⟩, ⟨.load1 (.reg 8), none, none⟩, ⟨.mov (.loc 0), none, none⟩, ⟨.mov (.loc 7), none, none⟩, ⟨.indexAddrS 1 (.reg 10) (.reg 11), none, none⟩, ⟨.load1 (.reg 12), none, none⟩, ⟨.indexAddrS 1 (.reg 0) (.reg 1), none, none⟩, ⟨.store 1 (.reg 14) (.reg 9), none, none⟩, ⟨.indexAddrS 1 (.reg 2) (.reg 4), none, none⟩, ⟨.store 1 (.reg 16) (.reg 13), none, none⟩])))
       (.region [⟨.mov (.loc 7), none, none⟩, ⟨.bin .add (.reg 0) (.cst (.int .i64 1)), none, none⟩, ⟨.mov (.reg 1), (some 7), none⟩])))
def t179L1 : TCode := (.seq (.seq (.region [⟨.mov (.loc 6), none, none⟩, ⟨.bin .geq (.reg 0) (.cst (.int .i64 1)), (some 13), none⟩])
       (.cond (.loc 13)
        .skip
        (.exit 4)))
       (.seq (.block 5
        (.seq (.seq (.draw [0, 1, 2, 3, 4, 5, 6, 7, 8] [(9, [], [10])] [⟨.mov (.loc 0), none, none⟩, ⟨.mov (.loc 6), none, none⟩, ⟨.indexAddrS 1 (.reg 0) (.reg 1), none, none⟩, ⟨.load1 (.reg 2), none, none⟩, ⟨.mov (.loc 0), none, none⟩, ⟨.mov (.loc 6), none, none⟩, ⟨.bin .sub (.reg 5) (.cst (.int .i64 1)), none, none⟩, ⟨.indexAddrS 1 (.reg 4) (.reg 6), none, none⟩, ⟨.load1 (.reg 7), none, none⟩, ⟨.call true false 180 [(.reg 3), (.reg 8)], none, none⟩, ⟨.un .not (.reg 9), (some 14), none⟩])
        (.cond (.loc 14)
         (.exit 4)
         .skip))
        (.draw [0, 1, 2, 3, 4, 5, 6, 7, 8, 9, 10, 11, 12, 13, 14] [(15, [], [16]), (17, [], [])] [⟨.mov (.loc 0), none, none⟩, ⟨.mov (.loc 6), none, none⟩, ⟨.mov (.loc 0), none, none⟩, ⟨.mov (.loc 6), none, none⟩, ⟨.bin .sub (.reg 3) (.cst (.int .i64 1)), none, none⟩, ⟨.mov (.loc 0), none, none⟩, ⟨.mov (.loc 6), none, none⟩, ⟨.bin .sub (.reg 6) (.cst (.int .i64 1)), none, none⟩, ⟨.indexAddrS 1 (.reg 5) (.reg 7), none, none⟩, ⟨.load1 (.reg 8), none, none⟩, ⟨.mov (.loc 0), none, none⟩, ⟨.mov (.loc 6), none, none⟩, ⟨.indexAddrS 1 (.reg 10) (.reg 11), none, none⟩, ⟨.load1 (.reg 12), none, none⟩, ⟨.indexAddrS 1 (.reg 0) (.reg 1), none, none⟩, ⟨.store 1 (.reg 14) (.reg 9), none, none⟩, ⟨.indexAddrS 1 (.reg 2) (.reg 4), none, none⟩, ⟨.store 1 (.reg 16) (.reg 13), none, none⟩])))
       (.region [⟨.mov (.loc 6), none, none⟩, ⟨.bin .sub (.reg 0) (.cst (.int .i64 1)), none, none⟩, ⟨.mov (.reg 1), (some 6), none⟩])))
def t179L2 : TCode := (.seq (.seq (.draw [0, 1, 2, 3, 4, 5, 6, 7, 8, 9, 10, 11, 12] [(13, [], [14, 15])] [⟨.mov (.loc 4), none, none⟩, ⟨.mov (.loc 2), none, none⟩, ⟨.bin .lss (.reg 0) (.reg 1), none, none⟩, ⟨.mov (.reg 2), none, none⟩, ⟨.mov (.loc 0), none, (some (3, true))⟩, ⟨.mov (.loc 4), none, (some (3, true))⟩, ⟨.indexAddrS 1 (.reg 4) (.reg 5), none, (some (3, true))⟩, ⟨.load1 (.reg 6), none, (some (3, true))⟩, ⟨.mov (.loc 0), none, (some (3, true))⟩, ⟨.mov (.loc 4), none, (some (3, true))⟩, ⟨.bin .sub (.reg 9) (.cst (.int .i64 1)), none, (some (3, true))⟩, ⟨.indexAddrS 1 (.reg 8) (.reg 10), none, (some (3, true))⟩, ⟨.load1 (.reg 11), none, (some (3, true))⟩, ⟨.call true false 180 [(.reg 7), (.reg 12)], none, (some (3, true))⟩, ⟨.un .not (.reg 13), none, (some (3, true))⟩, ⟨.pick (.reg 3) (.reg 14) (.cst (.bool false)), (some 9), none⟩])
      (.cond (.loc 9)
       .skip
       (.exit 2)))
      (.block 3
       (.region [⟨.mov (.loc 4), none, none⟩, ⟨.bin .add (.reg 0) (.cst (.int .i64 1)), none, none⟩, ⟨.mov (.reg 1), (some 4), none⟩])))
def t179L3 : TCode := (.seq (.seq (.region [⟨.mov (.loc 5), none, none⟩, ⟨.bin .lss (.reg 0) (.cst (.int .i64 5)), (some 8), none⟩])
   (.cond (.loc 8)
    .skip
    (.exit 0)))
   (.seq (.block 1
    (.seq (.block 2
     (.loop t179L2))
    (.seq (.seq (.region [⟨.mov (.loc 4), none, none⟩, ⟨.mov (.loc 2), none, none⟩, ⟨.bin .eql (.reg 0) (.reg 1), (some 10), none⟩])
    (.cond (.loc 10)
     (.seq (.region [⟨.mov (.cst (.bool true)), (some 3), none⟩])
     .ret)
     .skip))
    (.seq (.seq (.region [⟨.mov (.loc 2), none, none⟩, ⟨.mov (.loc 1), none, none⟩, ⟨.bin .sub (.reg 0) (.reg 1), none, none⟩, ⟨.bin .lss (.reg 2) (.cst (.int .i64 50)), (some 11), none⟩])
    (.cond (.loc 11)
     (.seq (.region [⟨.mov (.cst (.bool false)), (some 3), none⟩])
     .ret)
     .skip))
    (.seq (.draw [0, 1, 2, 3, 4, 5, 6, 7, 8, 9, 10, 11, 12, 13, 14] [(15, [], [16]), (17, [], [])] [⟨.mov (.loc 0), none, none⟩, ⟨.mov (.loc 4), none, none⟩, ⟨.mov (.loc 0), none, none⟩, ⟨.mov (.loc 4), none, none⟩, ⟨.bin .sub (.reg 3) (.cst (.int .i64 1)), none, none⟩, ⟨.mov (.loc 0), none, none⟩, ⟨.mov (.loc 4), none, none⟩, ⟨.bin .sub (.reg 6) (.cst (.int .i64 1)), none, none⟩, ⟨.indexAddrS 1 (.reg 5) (.reg 7), none, none⟩, ⟨.load1 (.reg 8), none, none⟩, ⟨.mov (.loc 0), none, none⟩, ⟨.mov (.loc 4), none, none⟩, ⟨.indexAddrS 1 (.reg 10) (.reg 11), none, none⟩, ⟨.load1 (.reg 12), none, none⟩, ⟨.indexAddrS 1 (.reg 0) (.reg 1), none, none⟩, ⟨.store 1 (.reg 14) (.reg 9), none, none⟩, ⟨.indexAddrS 1 (.reg 2) (.reg 4), none, none⟩, ⟨.store 1 (.reg 16) (.reg 13), none, none⟩])
    (.seq (.seq (.region [⟨.mov (.loc 4), none, none⟩, ⟨.mov (.loc 1), none, none⟩, ⟨.bin .sub (.reg 0) (.reg 1), none, none⟩, ⟨.bin .geq (.reg 2) (.cst (.int .i64 2)), (some 12), none⟩])
    (.cond (.loc 12)
     (.seq (.region [⟨.mov (.loc 4), none, none⟩, ⟨.bin .sub (.reg 0) (.cst (.int .i64 1)), none, none⟩, ⟨.mov (.reg 1), (some 6), none⟩])
     (.block 4
      (.loop t179L1)))
     .skip))
    (.seq (.region [⟨.mov (.loc 2), none, none⟩, ⟨.mov (.loc 4), none, none⟩, ⟨.bin .sub (.reg 0) (.reg 1), none, none⟩, ⟨.bin .geq (.reg 2) (.cst (.int .i64 2)), (some 15), none⟩])
    (.cond (.loc 15)
     (.seq (.region [⟨.mov (.loc 4), none, none⟩, ⟨.bin .add (.reg 0) (.cst (.int .i64 1)), none, none⟩, ⟨.mov (.reg 1), (some 7), none⟩])
     (.block 6
      (.loop t179L0)))
     .skip))))))))
   (.region [⟨.mov (.loc 5), none, none⟩, ⟨.bin .add (.reg 0) (.cst (.int .i64 1)), none, none⟩, ⟨.mov (.reg 1), (some 5), none⟩])))
def t179 : TFunc := ⟨3, 18, [.loc 3],
 (.seq (.region [⟨.mov (.cst (.bool false)), (some 3), none⟩])
 (.seq (.region [⟨.mov (.loc 1), none, none⟩, ⟨.bin .add (.reg 0) (.cst (.int .i64 1)), none, none⟩, ⟨.mov (.reg 1), (some 4), none⟩])
 (.seq (.seq (.region [⟨.mov (.cst (.int .i64 0)), (some 5), none⟩])
 (.block 0
  (.loop t179L3)))
 (.seq (.region [⟨.mov (.cst (.bool false)), (some 3), none⟩])
 .ret))))⟩
theorem c179 : compFunc Tryz.prog opts a179 Tryz.f179 = some t179 := by kernel_rfl
def a180 : Ann := { slots := [0, 1, 4], lb := [], mu := [], trunc := [], draws := [] }
def t180 : TFunc := ⟨2, 3, [.loc 2],
 (.seq (.region [⟨.mov (.cst (.bool false)), (some 2), none⟩])
 (.seq (.region [⟨.mov (.loc 0), none, none⟩, ⟨.call true false 198 [(.reg 0)], none, none⟩, ⟨.mov (.reg 1), none, none⟩, ⟨.mov (.loc 1), none, (some (2, true))⟩, ⟨.call true false 198 [(.reg 3)], none, (some (2, true))⟩, ⟨.un .not (.reg 4), none, (some (2, true))⟩, ⟨.pick (.reg 2) (.reg 5) (.cst (.bool false)), none, none⟩, ⟨.mov (.reg 6), none, none⟩, ⟨.mov (.loc 0), none, (some (7, false))⟩, ⟨.mov (.loc 1), none, (some (7, false))⟩, ⟨.bin .lss (.reg 8) (.reg 9), none, (some (7, false))⟩, ⟨.pick (.reg 7) (.cst (.bool true)) (.reg 10), none, none⟩, ⟨.mov (.reg 11), (some 2), none⟩])
 .ret))⟩
theorem c180 : compFunc Tryz.prog opts a180 Tryz.f180 = some t180 := by kernel_rfl
def a181 : Ann := { slots := [0, 1, 2, 3, 8, 9, 10, 43, 59, 64], lb := [], mu := [], trunc := [], draws := [(1, ⟨[0, 0, 0, 0, 0, 0, 48, 112, 0, 0, 768, 1792, 4083, 8179, 16383, 32767], [0, 1, 2, 3, 4, 5, 6, 7, 8, 9, 10, 11, 12], [(13, [], [14]), (15, [], [])]⟩), (3, ⟨[0, 0, 3, 7, 15, 15, 63, 127, 15, 15, 783, 1807, 4095, 8191, 16383], [0, 1, 2, 3, 4, 5, 6, 7, 8, 9, 10, 11], [(12, [], [13, 14])]⟩), (5, ⟨[0, 0, 3, 7, 15, 15, 63, 127, 15, 15, 783, 1807, 4095, 8191], [0, 1, 2, 3, 4, 5, 6, 7, 8, 9, 10, 11], [(12, [], [13])]⟩), (8, ⟨[0, 0, 0, 0, 0, 0, 48, 112, 0, 0, 768, 1792, 4083, 8179, 16383, 32767], [0, 1, 2, 3, 4, 5, 6, 7, 8, 9, 10, 11, 12], [(13, [], [14]), (15, [], [])]⟩)] }
def t181L0 : TCode := (.seq (.seq (.draw [0, 1, 2, 3, 4, 5, 6, 7, 8, 9, 10, 11] [(12, [], [13])] [⟨.mov (.loc 5), none, none⟩, ⟨.mov (.loc 6), none, none⟩, ⟨.bin .leq (.reg 0) (.reg 1), none, none⟩, ⟨.mov (.reg 2), none, none⟩, ⟨.mov (.loc 0), none, (some (3, true))⟩, ⟨.mov (.loc 1), none, (some (3, true))⟩, ⟨.indexAddrS 1 (.reg 4) (.reg 5), none, (some (3, true))⟩, ⟨.load1 (.reg 6), none, (some (3, true))⟩, ⟨.mov (.loc 0), none, (some (3, true))⟩, ⟨.mov (.loc 6), none, (some (3, true))⟩, ⟨.indexAddrS 1 (.reg 8) (.reg 9), none, (some (3, true))⟩, ⟨.load1 (.reg 10), none, (some (3, true))⟩, ⟨.call true false 180 [(.reg 7), (.reg 11)], none, (some (3, true))⟩, ⟨.pick (.reg 3) (.reg 12) (.cst (.bool false)), (some 8), none⟩])
      (.cond (.loc 8)
       .skip
       (.exit 4)))
      (.block 5
       (.region [⟨.mov (.loc 6), none, none⟩, ⟨.bin .sub (.reg 0) (.cst (.int .i64 1)), none, none⟩, ⟨.mov (.reg 1), (some 6), none⟩])))
def t181L1 : TCode := (.seq (.seq (.draw [0, 1, 2, 3, 4, 5, 6, 7, 8, 9, 10, 11] [(12, [], [13, 14])] [⟨.mov (.loc 5), none, none⟩, ⟨.mov (.loc 6), none, none⟩, ⟨.bin .leq (.reg 0) (.reg 1), none, none⟩, ⟨.mov (.reg 2), none, none⟩, ⟨.mov (.loc 0), none, (some (3, true))⟩, ⟨.mov (.loc 1), none, (some (3, true))⟩, ⟨.indexAddrS 1 (.reg 4) (.reg 5), none, (some (3, true))⟩, ⟨.load1 (.reg 6), none, (some (3, true))⟩, ⟨.mov (.loc 0), none, (some (3, true))⟩, ⟨.mov (.loc 5), none, (some (3, true))⟩, ⟨.indexAddrS 1 (.reg 8) (.reg 9), none, (some (3, true))⟩, ⟨.load1 (.reg 10), none, (some (3, true))⟩, ⟨.call true false 180 [(.reg 7), (.reg 11)], none, (some (3, true))⟩, ⟨.un .not (.reg 12), none, (some (3, true))⟩, ⟨.pick (.reg 3) (.reg 13) (.cst (.bool false)), (some 7), none⟩])
      (.cond (.loc 7)
       .skip
       (.exit 2)))
      (.block 3
       (.region [⟨.mov (.loc 5), none, none⟩, ⟨.bin .add (.reg 0) (.cst (.int .i64 1)), none, none⟩, ⟨.mov (.reg 1), (some 5), none⟩])))
def t181L2 : TCode := (.block 1
    (.seq (.block 2
     (.loop t181L1))
    (.seq (.block 4
     (.loop t181L0))
    (.seq (.seq (.region [⟨.mov (.loc 5), none, none⟩, ⟨.mov (.loc 6), none, none⟩, ⟨.bin .gtr (.reg 0) (.reg 1), (some 9), none⟩])
    (.cond (.loc 9)
     (.exit 0)
     .skip))
    (.seq (.draw [0, 1, 2, 3, 4, 5, 6, 7, 8, 9, 10, 11, 12] [(13, [], [14]), (15, [], [])] [⟨.mov (.loc 0), none, none⟩, ⟨.mov (.loc 5), none, none⟩, ⟨.mov (.loc 0), none, none⟩, ⟨.mov (.loc 6), none, none⟩, ⟨.mov (.loc 0), none, none⟩, ⟨.mov (.loc 6), none, none⟩, ⟨.indexAddrS 1 (.reg 4) (.reg 5), none, none⟩, ⟨.load1 (.reg 6), none, none⟩, ⟨.mov (.loc 0), none, none⟩, ⟨.mov (.loc 5), none, none⟩, ⟨.indexAddrS 1 (.reg 8) (.reg 9), none, none⟩, ⟨.load1 (.reg 10), none, none⟩, ⟨.indexAddrS 1 (.reg 0) (.reg 1), none, none⟩, ⟨.store 1 (.reg 12) (.reg 7), none, none⟩, ⟨.indexAddrS 1 (.reg 2) (.reg 3), none, none⟩, ⟨.store 1 (.reg 14) (.reg 11), none, none⟩])
    (.seq (.region [⟨.mov (.loc 5), none, none⟩, ⟨.bin .add (.reg 0) (.cst (.int .i64 1)), none, none⟩, ⟨.mov (.reg 1), (some 5), none⟩])
    (.region [⟨.mov (.loc 6), none, none⟩, ⟨.bin .sub (.reg 0) (.cst (.int .i64 1)), none, none⟩, ⟨.mov (.reg 1), (some 6), none⟩])))))))
def t181 : TFunc := ⟨4, 10, [.loc 4],
 (.seq (.region [⟨.mov (.cst (.int .i64 0)), (some 4), none⟩])
 (.seq (.draw [0, 1, 2, 3, 4, 5, 6, 7, 8, 9, 10, 11, 12] [(13, [], [14]), (15, [], [])] [⟨.mov (.loc 0), none, none⟩, ⟨.mov (.loc 1), none, none⟩, ⟨.mov (.loc 0), none, none⟩, ⟨.mov (.loc 3), none, none⟩, ⟨.mov (.loc 0), none, none⟩, ⟨.mov (.loc 3), none, none⟩, ⟨.indexAddrS 1 (.reg 4) (.reg 5), none, none⟩, ⟨.load1 (.reg 6), none, none⟩, ⟨.mov (.loc 0), none, none⟩, ⟨.mov (.loc 1), none, none⟩, ⟨.indexAddrS 1 (.reg 8) (.reg 9), none, none⟩, ⟨.load1 (.reg 10), none, none⟩, ⟨.indexAddrS 1 (.reg 0) (.reg 1), none, none⟩, ⟨.store 1 (.reg 12) (.reg 7), none, none⟩, ⟨.indexAddrS 1 (.reg 2) (.reg 3), none, none⟩, ⟨.store 1 (.reg 14) (.reg 11), none, none⟩])
 (.seq (.region [⟨.mov (.loc 1), none, none⟩, ⟨.bin .add (.reg 0) (.cst (.int .i64 1)), none, none⟩, ⟨.mov (.loc 2), none, none⟩, ⟨.bin .sub (.reg 2) (.cst (.int .i64 1)), none, none⟩, ⟨.mov (.reg 1), (some 5), none⟩, ⟨.mov (.reg 3), (some 6), none⟩])
 (.seq (.block 0
  (.loop t181L2))
 (.seq (.region [⟨.mov (.loc 5), none, none⟩, ⟨.mov (.reg 0), (some 4), none⟩])
 .ret)))))⟩
theorem c181 : compFunc Tryz.prog opts a181 Tryz.f181 = some t181 := by kernel_rfl
def a182 : Ann := { slots := [0, 1, 2, 3, 8, 9, 10, 11, 43, 60, 65, 112, 129, 134], lb := [], mu := [], trunc := [], draws := [(1, ⟨[0, 0, 0, 0, 0, 0, 48, 112, 0, 0, 768, 1792, 4083, 8179, 16383, 32767], [0, 1, 2, 3, 4, 5, 6, 7, 8, 9, 10, 11, 12], [(13, [], [14]), (15, [], [])]⟩), (3, ⟨[0, 0, 3, 7, 15, 15, 63, 127, 15, 15, 783, 1807, 4095, 8191], [0, 1, 2, 3, 4, 5, 6, 7, 8, 9, 10, 11], [(12, [], [13])]⟩), (5, ⟨[0, 0, 3, 7, 15, 15, 63, 127, 15, 15, 783, 1807, 4095, 8191, 16383], [0, 1, 2, 3, 4, 5, 6, 7, 8, 9, 10, 11], [(12, [], [13, 14])]⟩), (8, ⟨[0, 0, 0, 0, 0, 0, 48, 112, 0, 0, 768, 1792, 4083, 8179, 16383, 32767], [0, 1, 2, 3, 4, 5, 6, 7, 8, 9, 10, 11, 12], [(13, [], [14]), (15, [], [])]⟩), (10, ⟨[0, 0, 0, 0, 0, 0, 48, 112, 0, 0, 768, 1792, 4083, 8179, 16383, 32767], [0, 1, 2, 3, 4, 5, 6, 7, 8, 9, 10, 11, 12], [(13, [], [14]), (15, [], [])]⟩), (13, ⟨[0, 0, 3, 7, 15, 15, 63, 127, 15, 15, 783, 1807, 4095, 8191], [0, 1, 2, 3, 4, 5, 6, 7, 8, 9, 10, 11], [(12, [], [13])]⟩), (15, ⟨[0, 0, 3, 7, 15, 15, 63, 127, 15, 15, 783, 1807, 4095, 8191, 16383], [0, 1, 2, 3, 4, 5, 6, 7, 8, 9, 10, 11], [(12, [], [13, 14])]⟩), (18, ⟨[0, 0, 0, 0, 0, 0, 48, 112, 0, 0, 768, 1792, 4083, 8179, 16383, 32767], [0, 1, 2, 3, 4, 5, 6, 7, 8, 9, 10, 11, 12], [(13, [], [14]), (15, [], [])]⟩), (21, ⟨[0, 0, 0, 0, 0, 0, 48, 112, 0, 0, 768, 1792, 4083, 8179, 16383, 32767], [0, 1, 2, 3, 4, 5, 6, 7, 8, 9, 10, 11, 12], [(13, [], [14]), (15, [], [])]⟩)] }
def t182L0 : TCode := (.seq (.seq (.draw [0, 1, 2, 3, 4, 5, 6, 7, 8, 9, 10, 11] [(12, [], [13, 14])] [⟨.mov (.loc 6), none, none⟩, ⟨.mov (.loc 7), none, none⟩, ⟨.bin .leq (.reg 0) (.reg 1), none, none⟩, ⟨.mov (.reg 2), none, none⟩, ⟨.mov (.loc 0), none, (some (3, true))⟩, ⟨.mov (.loc 7), none, (some (3, true))⟩, ⟨.indexAddrS 1 (.reg 4) (.reg 5), none, (some (3, true))⟩, ⟨.load1 (.reg 6), none, (some (3, true))⟩, ⟨.mov (.loc 0), none, (some (3, true))⟩, ⟨.mov (.loc 1), none, (some (3, true))⟩, ⟨.indexAddrS 1 (.reg 8) (.reg 9), none, (some (3, true))⟩, ⟨.load1 (.reg 10), none, (some (3, true))⟩, ⟨.call true false 180 [(.reg 7), (.reg 11)], none, (some (3, true))⟩, ⟨.un .not (.reg 12), none, (some (3, true))⟩, ⟨.pick (.reg 3) (.reg 13) (.cst (.bool false)), (some 12), none⟩])
      (.cond (.loc 12)
       .skip
       (.exit 8)))
      (.block 9
       (.region [⟨.mov (.loc 7), none, none⟩, ⟨.bin .sub (.reg 0) (.cst (.int .i64 1)), none, none⟩, ⟨.mov (.reg 1), (some 7), none⟩])))
def t182L1 : TCode := (.seq (.seq (.draw [0, 1, 2, 3, 4, 5, 6, 7, 8, 9, 10, 11] [(12, [], [13])] [⟨.mov (.loc 6), none, none⟩, ⟨.mov (.loc 7), none, none⟩, ⟨.bin .leq (.reg 0) (.reg 1), none, none⟩, ⟨.mov (.reg 2), none, none⟩, ⟨.mov (.loc 0), none, (some (3, true))⟩, ⟨.mov (.loc 6), none, (some (3, true))⟩, ⟨.indexAddrS 1 (.reg 4) (.reg 5), none, (some (3, true))⟩, ⟨.load1 (.reg 6), none, (some (3, true))⟩, ⟨.mov (.loc 0), none, (some (3, true))⟩, ⟨.mov (.loc 1), none, (some (3, true))⟩, ⟨.indexAddrS 1 (.reg 8) (.reg 9), none, (some (3, true))⟩, ⟨.load1 (.reg 10), none, (some (3, true))⟩, ⟨.call true false 180 [(.reg 7), (.reg 11)], none, (some (3, true))⟩, ⟨.pick (.reg 3) (.reg 12) (.cst (.bool false)), (some 11), none⟩])
      (.cond (.loc 11)
       .skip
       (.exit 6)))
      (.block 7
       (.region [⟨.mov (.loc 6), none, none⟩, ⟨.bin .add (.reg 0) (.cst (.int .i64 1)), none, none⟩, ⟨.mov (.reg 1), (some 6), none⟩])))
def t182L2 : TCode := (.block 5
    (.seq (.block 6
     (.loop t182L1))
    (.seq (.block 8
     (.loop t182L0))
    (.seq (.seq (.region [⟨.mov (.loc 6), none, none⟩, ⟨.mov (.loc 7), none, none⟩, ⟨.bin .gtr (.reg 0) (.reg 1), (some 13), none⟩])
    (.cond (.loc 13)
     (.exit 4)
     .skip))
    (.seq (.draw [0, 1, 2, 3, 4, 5, 6, 7, 8, 9, 10, 11, 12] [(13, [], [14]), (15, [], [])] [⟨.mov (.loc 0), none, none⟩, ⟨.mov (.loc 6), none, none⟩, ⟨.mov (.loc 0), none, none⟩, ⟨.mov (.loc 7), none, none⟩, ⟨.mov (.loc 0), none, none⟩, ⟨.mov (.loc 7), none, none⟩, ⟨.indexAddrS 1 (.reg 4) (.reg 5), none, none⟩, ⟨.load1 (.reg 6), none, none⟩, ⟨.mov (.loc 0), none, none⟩, ⟨.mov (.loc 6), none, none⟩, ⟨.indexAddrS 1 (.reg 8) (.reg 9), none, none⟩, ⟨.load1 (.reg 10), none, none⟩, ⟨.indexAddrS 1 (.reg 0) (.reg 1), none, none⟩, ⟨.store 1 (.reg 12) (.reg 7), none, none⟩, ⟨.indexAddrS 1 (.reg 2) (.reg 3), none, none⟩, ⟨.store 1 (.reg 14) (.reg 11), none, none⟩])
    (.seq (.region [⟨.mov (.loc 6), none, none⟩, ⟨.bin .add (.reg 0) (.cst (.int .i64 1)), none, none⟩, ⟨.mov (.reg 1), (some 6), none⟩])
    (.region [⟨.mov (.loc 7), none, none⟩, ⟨.bin .sub (.reg 0) (.cst (.int .i64 1)), none, none⟩, ⟨.mov (.reg 1), (some 7), none⟩])))))))
def t182L3 : TCode := (.seq (.seq (.draw [0, 1, 2, 3, 4, 5, 6, 7, 8, 9, 10, 11] [(12, [], [13, 14])] [⟨.mov (.loc 6), none, none⟩, ⟨.mov (.loc 7), none, none⟩, ⟨.bin .leq (.reg 0) (.reg 1), none, none⟩, ⟨.mov (.reg 2), none, none⟩, ⟨.mov (.loc 0), none, (some (3, true))⟩, ⟨.mov (.loc 7), none, (some (3, true))⟩, ⟨.indexAddrS 1 (.reg 4) (.reg 5), none, (some (3, true))⟩, ⟨.load1 (.reg 6), none, (some (3, true))⟩, ⟨.mov (.loc 0), none, (some (3, true))⟩, ⟨.mov (.loc 1), none, (some (3, true))⟩, ⟨.indexAddrS 1 (.reg 8) (.reg 9), none, (some (3, true))⟩, ⟨.load1 (.reg 10), none, (some (3, true))⟩, ⟨.call true false 180 [(.reg 7), (.reg 11)], none, (some (3, true))⟩, ⟨.un .not (.reg 12), none, (some (3, true))⟩, ⟨.pick (.reg 3) (.reg 13) (.cst (.bool false)), (some 9), none⟩])
   (.cond (.loc 9)
    .skip
    (.exit 2)))
   (.block 3
    (.region [⟨.mov (.loc 7), none, none⟩, ⟨.bin .sub (.reg 0) (.cst (.int .i64 1)), none, none⟩, ⟨.mov (.reg 1), (some 7), none⟩])))
def t182L4 : TCode := (.seq (.seq (.draw [0, 1, 2, 3, 4, 5, 6, 7, 8, 9, 10, 11] [(12, [], [13])] [⟨.mov (.loc 6), none, none⟩, ⟨.mov (.loc 7), none, none⟩, ⟨.bin .leq (.reg 0) (.reg 1), none, none⟩, ⟨.mov (.reg 2), none, none⟩, ⟨.mov (.loc 0), none, (some (3, true))⟩, ⟨.mov (.loc 6), none, (some (3, true))⟩, ⟨.indexAddrS 1 (.reg 4) (.reg 5), none, (some (3, true))⟩, ⟨.load1 (.reg 6), none, (some (3, true))⟩, ⟨.mov (.loc 0), none, (some (3, true))⟩, ⟨.mov (.loc 1), none, (some (3, true))⟩, ⟨.indexAddrS 1 (.reg 8) (.reg 9), none, (some (3, true))⟩, ⟨.load1 (.reg 10), none, (some (3, true))⟩, ⟨.call true false 180 [(.reg 7), (.reg 11)], none, (some (3, true))⟩, ⟨.pick (.reg 3) (.reg 12) (.cst (.bool false)), (some 8), none⟩])
   (.cond (.loc 8)
    .skip
    (.exit 0)))
   (.block 1
    (.region [⟨.mov (.loc 6), none, none⟩, ⟨.bin .add (.reg 0) (.cst (.int .i64 1)), none, none⟩, ⟨.mov (.reg 1), (some 6), none⟩])))
def t182 : TFunc := ⟨4, 14, [.loc 4, .loc 5],
 (.seq (.region [⟨.mov (.cst (.int .i64 0)), (some 4), none⟩, ⟨.mov (.cst (.bool false)), (some 5), none⟩])
 (.seq (.draw [0, 1, 2, 3, 4, 5, 6, 7, 8, 9, 10, 11, 12] [(13, [], [14]), (15, [], [])] [⟨.mov (.loc 0), none, none⟩, ⟨.mov (.loc 1), none, none⟩, ⟨.mov (.loc 0), none, none⟩, ⟨.mov (.loc 3), none, none⟩, ⟨.mov (.loc 0), none, none⟩, ⟨.mov (.loc 3), none, none⟩, ⟨.indexAddrS 1 (.reg 4) (.reg 5), none, none⟩, ⟨.load1 (.reg 6), none, none⟩, ⟨.mov (.loc 0), none, none⟩, ⟨.mov (.loc 1), none, none⟩, ⟨.indexAddrS 1 (.reg 8) (.reg 9), none, none⟩, ⟨.load1 (.reg 10), none, none⟩, ⟨.indexAddrS 1 (.reg 0) (.reg 1), none, none⟩, ⟨.store 1 (.reg 12) (.reg 7), none, none⟩, ⟨.indexAddrS 1 (.reg 2) (.reg 3), none, none⟩, ⟨.store 1 (.reg 14) (.reg 11), none, none⟩])
 (.seq (.region [⟨.mov (.loc 1), none, none⟩, ⟨.bin .add (.reg 0) (.cst (.int .i64 1)), none, none⟩, ⟨.mov (.loc 2), none, none⟩, ⟨.bin .sub (.reg 2) (.cst (.int .i64 1)), none, none⟩, ⟨.mov (.reg 1), (some 6), none⟩, ⟨.mov (.reg 3), (some 7), none⟩])
 (.seq (.block 0
  (.loop t182L4))
 (.seq (.block 2
  (.loop t182L3))
 (.seq (.seq (.region [⟨.mov (.loc 6), none, none⟩, ⟨.mov (.loc 7), none, none⟩, ⟨.bin .gtr (.reg 0) (.reg 1), (some 10), none⟩])
 (.cond (.loc 10)
  (.seq (.draw [0, 1, 2, 3, 4, 5, 6, 7, 8, 9, 10, 11, 12] [(13, [], [14]), (15, [], [])] [⟨.mov (.loc 0), none, none⟩, ⟨.mov (.loc 7), none, none⟩, ⟨.mov (.loc 0), none, none⟩, ⟨.mov (.loc 1), none, none⟩, ⟨.mov (.loc 0), none, none⟩, ⟨.mov (.loc 1), none, none⟩, ⟨.indexAddrS 1 (.reg 4) (.reg 5), none, none⟩, ⟨.load1 (.reg 6), none, none⟩, ⟨.mov (.loc 0), none, none⟩, ⟨.mov (.loc 7), none, none⟩, ⟨.indexAddrS 1 (.reg 8) (.reg 9), none, none⟩, ⟨.load1 (.reg 10), none, none⟩, ⟨.indexAddrS 1 (.reg 0) (.reg 1), none, none⟩, ⟨.store 1 (.reg 12) (.reg 7), none, none⟩, ⟨.indexAddrS 1 (.reg 2) (.reg 3), none, none⟩, ⟨.store 1 (.reg 14) (.reg 11), none, none⟩])
  (.seq (.region [⟨.mov (.loc 7), none, none⟩, ⟨.mov (.reg 0), (some 4), none⟩, ⟨.mov (.cst (.bool true)), (some 5), none⟩])
  .ret))
  .skip))
 (.seq (.draw [0, 1, 2, 3, 4, 5, 6, 7, 8, 9, 10, 11, 12] [(13, [], [14]), (15, [], [])] [⟨.mov (.loc 0), none, none⟩, ⟨.mov (.loc 6), none, none⟩, ⟨.mov (.loc 0), none, none⟩, ⟨.mov (.loc 7), none, none⟩, ⟨.mov (.loc 0), none, none⟩, ⟨.mov (.loc 7), none, none⟩, ⟨.indexAddrS 1 (.reg 4) (.reg 5), none, none⟩, ⟨.load1 (.reg 6), none, none⟩, ⟨.mov (.loc 0), none, none⟩, ⟨.mov (.loc 6), none, none⟩, ⟨.indexAddrS 1 (.reg 8) (.reg 9), none, none⟩, ⟨.load1 (.reg 10), none, none⟩, ⟨.indexAddrS 1 (.reg 0) (.reg 1), none, none⟩, ⟨.store 1 (.reg 12) (.reg 7), none, none⟩, ⟨.indexAddrS 1 (.reg 2) (.reg 3), none, none⟩, ⟨.store 1 (.reg 14) (.reg 11), none, none⟩])
 (.seq (.region [⟨.mov (.loc 6), none, none⟩, ⟨.bin .add (.reg 0) (.cst (.int .i64 1)), none, none⟩, ⟨.mov (.reg 1), (some 6), none⟩])
 (.seq (.region [⟨.mov (.loc 7), none, none⟩, ⟨.bin .sub (.reg 0) (.cst (.int .i64 1)), none, none⟩, ⟨.mov (.reg 1), (some 7), none⟩])
 (.seq (.block 4
  (.loop t182L2))
 (.seq (.draw [0, 1, 2, 3, 4, 5, 6, 7, 8, 9, 10, 11, 12] [(13, [], [14]), (15, [], [])] [⟨.mov (.loc 0), none, none⟩, ⟨.mov (.loc 7), none, none⟩, ⟨.mov (.loc 0), none, none⟩, ⟨.mov (.loc 1), none, none⟩, ⟨.mov (.loc 0), none, none⟩, ⟨.mov (.loc 1), none, none⟩, ⟨.indexAddrS 1 (.reg 4) (.reg 5), none, none⟩, ⟨.load1 (.reg 6), none, none⟩, ⟨.mov (.loc 0), none, none⟩, ⟨.mov (.loc 7), none, none⟩, ⟨.indexAddrS 1 (.reg 8) (.reg 9), none, none⟩, ⟨.load1 (.reg 10), none, none⟩, ⟨.indexAddrS 1 (.reg 0) (.reg 1), none, none⟩, ⟨.store 1 (.reg 12) (.reg 7), none, none⟩, ⟨.indexAddrS 1 (.reg 2) (.reg 3), none, none⟩, ⟨.store 1 (.reg 14) (.reg 11), none, none⟩])
 (.seq (.region [⟨.mov (.loc 7), none, none⟩, ⟨.mov (.reg 0), (some 4), none⟩, ⟨.mov (.cst (.bool false)), (some 5), none⟩])
 .ret))))))))))))⟩
theorem c182 : compFunc Tryz.prog opts a182 Tryz.f182 = some t182 := by kernel_rfl
def a183 : Ann := { slots := [0, 2, 4, 8], lb := [], mu := [], trunc := [], draws := [] }
def t183 : TFunc := ⟨1, 4, [.loc 1],
 (.seq (.region [⟨.mov (.cst (.int .i64 0)), (some 1), none⟩])
 (.seq (.seq (.region [⟨.mov (.loc 0), none, none⟩, ⟨.bin .geq (.reg 0) (.cst (.int .u32 65536)), (some 2), none⟩])
 (.cond (.loc 2)
  (.seq (.region [⟨.mov (.loc 0), none, none⟩, ⟨.bin .shr (.reg 0) (.cst (.int .u64 16)), none, none⟩, ⟨.mov (.reg 1), (some 0), none⟩])
  (.region [⟨.mov (.cst (.int .i64 16)), (some 1), none⟩]))
  .skip))
 (.seq (.seq (.region [⟨.mov (.loc 0), none, none⟩, ⟨.bin .geq (.reg 0) (.cst (.int .u32 256)), (some 3), none⟩])
 (.cond (.loc 3)
  (.seq (.region [⟨.mov (.loc 0), none, none⟩, ⟨.bin .shr (.reg 0) (.cst (.int .u64 8)), none, none⟩, ⟨.mov (.reg 1), (some 0), none⟩])
  (.region [⟨.mov (.loc 1), none, none⟩, ⟨.bin .add (.reg 0) (.cst (.int .i64 8)), none, none⟩, ⟨.mov (.reg 1), (some 1), none⟩]))
  .skip))
 (.seq (.region [⟨.mov (.loc 1), none, none⟩, ⟨.mov (.loc 0), none, none⟩, ⟨.conv (.toInt .u8) (.reg 1), none, none⟩, ⟨.indexS (.cst (.str [0, 1, 2, 2, 3, 3, 3, 3, 4, 4, 4, 4, 4, 4, 4, 4, 5, 5, 5, 5, 5, 5, 5, 5, 5, 5, 5, 5, 5, 5, 5, 5, 6, 6, 6, 6, 6, 6, 6, 6, 6, 6, 6, 6, 6, 6, 6, 6, 6, 6, 6, 6, 6, 6, 6, 6, 6, 6, 6, 6, 6, 6, 6, 6, 7, 7, 7, 7, 7, 7, 7, 7, 7, 7, 7, 7, 7, 7, 7, 7, 7, 7, 7, 7, 7, 7, 7, 7, 7, 7, 7, 7, 7, 7, 7, 7, 7, 7, 7, 7, 7, 7, 7, 7, 7, 7, 7, 7, 7, 7, 7, 7, 7, 7, 7, 7, 7, 7, 7, 7, 7, 7, 7, 7, 7, 7, 7, 7, 8, 8, 8, 8, 8, 8, 8, 8, 8, 8, 8, 8, 8, 8, 8, 8, 8, 8, 8, 8, 8, 8, 8, 8, 8, 8, 8, 8, 8, 8, 8, 8, 8, 8, 8, 8, 8, 8, 8, 8, 8, 8, 8, 8, 8, 8, 8, 8, 8, 8, 8, 8, 8, 8, 8, 8, 8, 8, 8, 8, 8, 8, 8, 8, 8, 8, 8, 8, 8, 8, 8, 8, 8, 8, 8, 8, 8, 8, 8, 8, 8, 8, 8, 8, 8, 8, 8, 8, 8, 8, 8, 8, 8, 8, 8, 8, 8, 8, 8, 8, 8, 8, 8, 8, 8, 8, 8, 8, 8, 8, 8, 8, 8, 8, 8, 8, 8, 8, 8, 8, 8, 8, 8, 8, 8, 8, 8, 8])) (.reg 2), none, none⟩, ⟨.conv (.toInt .i64) (.reg 3), none, none⟩, ⟨.bin .add (.reg 0) (.reg 4), none, none⟩, ⟨.mov (.reg 5), (some 1), none⟩])
 .ret))))⟩
theorem c183 : compFunc Tryz.prog opts a183 Tryz.f183 = some t183 := by kernel_rfl
def a184 : Ann := { slots := [0, 2, 4, 8, 14], lb := [], mu := [], trunc := [], draws := [] }
def t184 : TFunc := ⟨1, 5, [.loc 1],
 (.seq (.region [⟨.mov (.cst (.int .i64 0)), (some 1), none⟩])
 (.seq (.seq (.region [⟨.mov (.loc 0), none, none⟩, ⟨.bin .geq (.reg 0) (.cst (.int .u64 4294967296)), (some 2), none⟩])
 (.cond (.loc 2)
  (.seq (.region [⟨.mov (.loc 0), none, none⟩, ⟨.bin .shr (.reg 0) (.cst (.int .u64 32)), none, none⟩, ⟨.mov (.reg 1), (some 0), none⟩])
  (.region [⟨.mov (.cst (.int .i64 32)), (some 1), none⟩]))
  .skip))
 (.seq (.seq (.region [⟨.mov (.loc 0), none, none⟩, ⟨.bin .geq (.reg 0) (.cst (.int .u64 65536)), (some 3), none⟩])
 (.cond (.loc 3)
  (.seq (.region [⟨.mov (.loc 0), none, none⟩, ⟨.bin .shr (.reg 0) (.cst (.int .u64 16)), none, none⟩, ⟨.mov (.reg 1), (some 0), none⟩])
  (.region [⟨.mov (.loc 1), none, none⟩, ⟨.bin .add (.reg 0) (.cst (.int .i64 16)), none, none⟩, ⟨.mov (.reg 1), (some 1), none⟩]))
  .skip))
 (.seq (.seq (.region [⟨.mov (.loc 0), none, none⟩, ⟨.bin .geq (.reg 0) (.cst (.int .u64 256)), (some 4), none⟩])
 (.cond (.loc 4)
  (.seq (.region [⟨.mov (.loc 0), none, none⟩, ⟨.bin .shr (.reg 0) (.cst (.int .u64 8)), none, none⟩, ⟨.mov (.reg 1), (some 0), none⟩])
  (.region [⟨.mov (.loc 1), none, none⟩, ⟨.bin .add (.reg 0) (.cst (.int .i64 8)), none, none⟩, ⟨.mov (.reg 1), (some 1), none⟩]))
  .skip))
 (.seq (.region [⟨.mov (.loc 1), none, none⟩, ⟨.mov (.loc 0), none, none⟩, ⟨.conv (.toInt .u8) (.reg 1), none, none⟩, ⟨.indexS (.cst (.str [0, 1, 2, 2, 3, 3, 3, 3, 4, 4, 4, 4, 4, 4, 4, 4, 5, 5, 5, 5, 5, 5, 5, 5, 5, 5, 5, 5, 5, 5, 5, 5, 6, 6, 6, 6, 6, 6, 6, 6, 6, 6, 6, 6, 6, 6, 6, 6, 6, 6, 6, 6, 6, 6, 6, 6, 6, 6, 6, 6, 6, 6, 6, 6, 7, 7, 7, 7, 7, 7, 7, 7, 7, 7, 7, 7, 7, 7, 7, 7, 7, 7, 7, 7, 7, 7, 7, 7, 7, 7, 7, 7, 7, 7, 7, 7, 7, 7, 7, 7, 7, 7, 7, 7, 7, 7, 7, 7, 7, 7, 7, 7, 7, 7, 7, 7, 7, 7, 7, 7, 7, 7, 7, 7, 7, 7, 7, 7, 8, 8, 8, 8, 8, 8, 8, 8, 8, 8, 8, 8, 8, 8, 8, 8, 8, 8, 8, 8, 8, 8, 8, 8, 8, 8, 8, 8, 8, 8, 8, 8, 8, 8, 8, 8, 8, 8, 8, 8, 8, 8, 8, 8, 8, 8, 8, 8, 8, 8, 8, 8, 8, 8, 8, 8, 8, 8, 8, 8, 8, 8, 8, 8, 8, 8, 8, 8, 8, 8, 8, 8, 8, 8, 8, 8, 8, 8, 8, 8, 8, 8, 8, 8, 8, 8, 8, 8, 8, 8, 8, 8, 8, 8, 8, 8, 8, 8, 8, 8, 8, 8, 8, 8, 8, 8, 8, 8, 8, 8, 8, 8, 8, 8, 8, 8, 8, 8, 8, 8, 8, 8, 8, 8, 8, 8, 8, 8])) (.reg 2), none, none⟩, ⟨.conv (.toInt .i64) (.reg 3), none, none⟩, ⟨.bin .add (.reg 0) (.reg 4), none, none⟩, ⟨.mov (.reg 5), (some 1), none⟩])
 .ret)))))⟩
theorem c184 : compFunc Tryz.prog opts a184 Tryz.f184 = some t184 := by kernel_rfl
def a185 : Ann := { slots := [0, 2], lb := [], mu := [], trunc := [], draws := [] }
def t185 : TFunc := ⟨1, 2, [.loc 1],
 (.seq (.region [⟨.mov (.cst (.int .i64 0)), (some 1), none⟩])
 (.seq (.region [⟨.mov (.loc 0), none, none⟩, ⟨.bin .mul (.reg 0) (.cst (.int .i64 78913)), none, none⟩, ⟨.bin .shr (.reg 1) (.cst (.int .u64 18)), none, none⟩, ⟨.mov (.reg 2), (some 1), none⟩])
 .ret))⟩
theorem c185 : compFunc Tryz.prog opts a185 Tryz.f185 = some t185 := by kernel_rfl
def a186 : Ann := { slots := [0, 2, 3], lb := [], mu := [], trunc := [], draws := [] }
def t186 : TFunc := ⟨1, 3, [.loc 1],
 (.seq (.region [⟨.mov (.cst (.int .i64 0)), (some 1), none⟩])
 (.seq (.seq (.region [⟨.mov (.loc 0), (some 2), none⟩])
 (.cond (.loc 2)
  (.seq (.region [⟨.mov (.cst (.int .i64 1)), (some 1), none⟩])
  .ret)
  .skip))
 (.seq (.region [⟨.mov (.cst (.int .i64 0)), (some 1), none⟩])
 .ret)))⟩
theorem c186 : compFunc Tryz.prog opts a186 Tryz.f186 = some t186 := by kernel_rfl
def a187 : Ann := { slots := [0, 2], lb := [], mu := [], trunc := [], draws := [] }
def t187 : TFunc := ⟨1, 2, [.loc 1],
 (.seq (.region [⟨.mov (.cst (.bool false)), (some 1), none⟩])
 (.seq (.region [⟨.mov (.loc 0), none, none⟩, ⟨.mov (.loc 0), none, none⟩, ⟨.bin .sub (.reg 1) (.cst (.int .i64 1)), none, none⟩, ⟨.bin .and (.reg 0) (.reg 2), none, none⟩, ⟨.bin .eql (.reg 3) (.cst (.int .i64 0)), none, none⟩, ⟨.mov (.reg 4), (some 1), none⟩])
 .ret))⟩
theorem c187 : compFunc Tryz.prog opts a187 Tryz.f187 = some t187 := by kernel_rfl
def a188 : Ann := { slots := [0, 2], lb := [], mu := [], trunc := [], draws := [] }
def t188 : TFunc := ⟨1, 2, [.loc 1],
 (.seq (.region [⟨.mov (.cst (.int .i64 0)), (some 1), none⟩])
 (.seq (.cond (.cst (.bool false))
  (.seq (.region [⟨.mov (.loc 0), none, none⟩, ⟨.conv (.toInt .u32) (.reg 0), none, none⟩, ⟨.call true false 199 [(.reg 1)], none, none⟩, ⟨.mov (.reg 2), (some 1), none⟩])
  .ret)
  .skip)
 (.seq (.region [⟨.mov (.loc 0), none, none⟩, ⟨.call true false 200 [(.reg 0)], none, none⟩, ⟨.mov (.reg 1), (some 1), none⟩])
 .ret)))⟩
theorem c188 : compFunc Tryz.prog opts a188 Tryz.f188 = some t188 := by kernel_rfl
def a190 : Ann := { slots := [0, 1, 4], lb := [], mu := [], trunc := [], draws := [] }
def t190 : TFunc := ⟨2, 3, [.loc 2],
 (.seq (.region [⟨.mov (.cst (.bool false)), (some 2), none⟩])
 (.seq (.region [⟨.mov (.loc 0), none, none⟩, ⟨.len .str (.reg 0), none, none⟩, ⟨.mov (.loc 1), none, none⟩, ⟨.len .str (.reg 2), none, none⟩, ⟨.bin .geq (.reg 1) (.reg 3), none, none⟩, ⟨.mov (.reg 4), none, none⟩, ⟨.mov (.loc 0), none, (some (5, true))⟩, ⟨.mov (.loc 1), none, (some (5, true))⟩, ⟨.len .str (.reg 7), none, (some (5, true))⟩, ⟨.slice .str (.reg 6) none (some (.reg 8)) none, none, (some (5, true))⟩, ⟨.mov (.loc 1), none, (some (5, true))⟩, ⟨.bin .eql (.reg 9) (.reg 10), none, (some (5, true))⟩, ⟨.pick (.reg 5) (.reg 11) (.cst (.bool false)), none, none⟩, ⟨.mov (.reg 12), (some 2), none⟩])
 .ret))⟩
theorem c190 : compFunc Tryz.prog opts a190 Tryz.f190 = some t190 := by kernel_rfl
def a191 : Ann := { slots := [0, 1, 2, 6, 7, 8, 10, 11, 12, 19], lb := [], mu := [], trunc := [], draws := [] }
def t191L0 : TCode := (.seq (.region [⟨.nextS (.loc 6), (some 7), none⟩, ⟨.extract 0 (.reg 0), (some 8), none⟩])
   (.seq (.cond (.loc 8)
    .skip
    (.exit 0))
   (.block 1
    (.seq (.region [⟨.extract 1 (.loc 7), none, none⟩, ⟨.extract 2 (.loc 7), none, none⟩, ⟨.mov (.reg 0), (some 4), none⟩, ⟨.mov (.reg 1), (some 5), none⟩])
    (.seq (.region [⟨.mov (.loc 1), none, none⟩, ⟨.mov (.loc 5), none, none⟩, ⟨.callv (.reg 0) [(.reg 1)], none, none⟩, ⟨.mov (.loc 2), none, none⟩, ⟨.eqB false .bool (.reg 2) (.reg 3), (some 9), none⟩])
    (.cond (.loc 9)
     (.seq (.region [⟨.mov (.loc 4), none, none⟩, ⟨.mov (.reg 0), (some 3), none⟩])
     .ret)
     .skip))))))
def t191 : TFunc := ⟨3, 10, [.loc 3],
 (.seq (.region [⟨.mov (.cst (.int .i64 0)), (some 3), none⟩])
 (.seq (.seq (.region [⟨.mov (.loc 0), none, none⟩, ⟨.range true (.reg 0), (some 6), none⟩])
 (.block 0
  (.loop t191L0)))
 (.seq (.region [⟨.mov (.cst (.int .i64 (-1))), (some 3), none⟩])
 .ret)))⟩
theorem c191 : compFunc Tryz.prog opts a191 Tryz.f191 = some t191 := by kernel_rfl
def a192 : Ann := { slots := [0, 2, 3, 4, 5, 6, 7, 8, 9, 10, 11, 12, 16, 24, 47, 60, 62, 79, 81, 103], lb := [9], mu := [], trunc := [], draws := [] }
def t192 : TFunc := ⟨1, 20, [.loc 1, .loc 2],
 (.seq (.region [⟨.mov (.cst (.int .i32 0)), (some 1), none⟩, ⟨.mov (.cst (.int .i64 0)), (some 2), none⟩])
 (.seq (.region [⟨.mov (.loc 0), none, none⟩, ⟨.len .sl (.reg 0), none, none⟩, ⟨.mov (.reg 1), (some 3), none⟩])
 (.seq (.seq (.region [⟨.mov (.loc 3), none, none⟩, ⟨.bin .lss (.reg 0) (.cst (.int .i64 1)), (some 12), none⟩])
 (.cond (.loc 12)
  (.seq (.region [⟨.mov (.cst (.int .i32 65533)), (some 1), none⟩, ⟨.mov (.cst (.int .i64 0)), (some 2), none⟩])
  .ret)
  .skip))
 (.seq (.region [⟨.mov (.loc 0), none, none⟩, ⟨.indexAddrS 1 (.reg 0) (.cst (.int .i64 0)), none, none⟩, ⟨.load1 (.reg 1), none, none⟩, ⟨.mov (.reg 2), (some 4), none⟩])
 (.seq (.region [⟨.mov (.loc 4), none, none⟩, ⟨.indexAddrA 256 1 (.glob 2) (.reg 0), none, none⟩, ⟨.load1 (.reg 1), none, none⟩, ⟨.mov (.reg 2), (some 5), none⟩])
 (.seq (.seq (.region [⟨.mov (.loc 5), none, none⟩, ⟨.bin .geq (.reg 0) (.cst (.int .u8 240)), (some 13), none⟩])
 (.cond (.loc 13)
  (.seq (.region [⟨.mov (.loc 5), none, none⟩, ⟨.conv (.toInt .i32) (.reg 0), none, none⟩, ⟨.bin .shl (.reg 1) (.cst (.int .u64 31)), none, none⟩, ⟨.bin .shr (.reg 2) (.cst (.int .u64 31)), none, none⟩, ⟨.mov (.reg 3), (some 6), none⟩])
  (.seq (.region [⟨.mov (.loc 0), none, none⟩, ⟨.indexAddrS 1 (.reg 0) (.cst (.int .i64 0)), none, none⟩, ⟨.load1 (.reg 1), none, none⟩, ⟨.conv (.toInt .i32) (.reg 2), none, none⟩, ⟨.mov (.loc 6), none, none⟩, ⟨.bin .andNot (.reg 3) (.reg 4), none, none⟩, ⟨.mov (.loc 6), none, none⟩, ⟨.bin .and (.cst (.int .i32 65533)) (.reg 6), none, none⟩, ⟨.bin .or (.reg 5) (.reg 7), none, none⟩, ⟨.mov (.reg 8), (some 1), none⟩, ⟨.mov (.cst (.int .i64 1)), (some 2), none⟩])
  .ret))
  .skip))
 (.seq (.region [⟨.mov (.loc 5), none, none⟩, ⟨.bin .and (.reg 0) (.cst (.int .u8 7)), none, none⟩, ⟨.conv (.toInt .i64) (.reg 1), none, none⟩, ⟨.mov (.reg 2), (some 7), none⟩])
 (.seq (.region [⟨.mov (.loc 5), none, none⟩, ⟨.bin .shr (.reg 0) (.cst (.int .u64 4)), none, none⟩, ⟨.indexAddrA 16 2 (.glob 3) (.reg 1), none, none⟩, ⟨.loadN 2 (.reg 2), none, none⟩, ⟨.allocL 8 [(.int .u8 0), (.int .u8 0)], none, none⟩, ⟨.store 2 (.reg 4) (.reg 3), none, none⟩])
 (.seq (.seq (.region [⟨.mov (.loc 3), none, none⟩, ⟨.mov (.loc 7), none, none⟩, ⟨.bin .lss (.reg 0) (.reg 1), (some 14), none⟩])
 (.cond (.loc 14)
  (.seq (.region [⟨.mov (.cst (.int .i32 65533)), (some 1), none⟩, ⟨.mov (.cst (.int .i64 1)), (some 2), none⟩])
  .ret)
  .skip))
 (.seq (.region [⟨.mov (.loc 0), none, none⟩, ⟨.indexAddrS 1 (.reg 0) (.cst (.int .i64 1)), none, none⟩, ⟨.load1 (.reg 1), none, none⟩, ⟨.mov (.reg 2), (some 9), none⟩])
 (.seq (.seq (.region [⟨.mov (.loc 9), none, none⟩, ⟨.fieldAddr 0 (.loc 8), none, none⟩, ⟨.load1 (.reg 1), none, none⟩, ⟨.bin .lss (.reg 0) (.reg 2), none, none⟩, ⟨.mov (.reg 3), none, none⟩, ⟨.fieldAddr 1 (.loc 8), none, (some (4, false))⟩, ⟨.load1 (.reg 5), none, (some (4, false))⟩, ⟨.mov (.loc 9), none, (some (4, false))⟩, ⟨.bin .lss (.reg 6) (.reg 7), none, (some (4, false))⟩, ⟨.pick (.reg 4) (.cst (.bool true)) (.reg 8), (some 15), none⟩])
 (.cond (.loc 15)
  (.seq (.region [⟨.mov (.cst (.int .i32 65533)), (some 1), none⟩, ⟨.mov (.cst (.int .i64 1)), (some 2), none⟩])
  .ret)
  .skip))
 (.seq (.seq (.region [⟨.mov (.loc 7), none, none⟩, ⟨.bin .leq (.reg 0) (.cst (.int .i64 2)), (some 16), none⟩])
 (.cond (.loc 16)
  (.seq (.region [⟨.mov (.loc 4), none, none⟩, ⟨.bin .and (.reg 0) (.cst (.int .u8 31)), none, none⟩, ⟨.conv (.toInt .i32) (.reg 1), none, none⟩, ⟨.bin .shl (.reg 2) (.cst (.int .u64 6)), none, none⟩, ⟨.mov (.loc 9), none, none⟩, ⟨.bin .and (.reg 4) (.cst (.int .u8 63)), none, none⟩, ⟨.conv (.toInt .i32) (.reg 5), none, none⟩, ⟨.bin .or (.reg 3) (.reg 6), none, none⟩, ⟨.mov (.reg 7), (some 1), none⟩, ⟨.mov (.cst (.int .i64 2)), (some 2), none⟩])
  .ret)
  .skip))
 (.seq (.region [⟨.mov (.loc 0), none, none⟩, ⟨.indexAddrS 1 (.reg 0) (.cst (.int .i64 2)), none, none⟩, ⟨.load1 (.reg 1), none, none⟩, ⟨.mov (.reg 2), (some 10), none⟩])
 (.seq (.seq (.region [⟨.mov (.loc 10), none, none⟩, ⟨.bin .lss (.reg 0) (.cst (.int .u8 128)), none, none⟩, ⟨.mov (.reg 1), none, none⟩, ⟨.mov (.loc 10), none, (some (2, false))⟩, ⟨.bin .lss (.cst (.int .u8 191)) (.reg 3), none, (some (2, false))⟩, ⟨.pick (.reg 2) (.cst (.bool true)) (.reg 4), (some 17), none⟩])
 (.cond (.loc 17)
  (.seq (.region [⟨.mov (.cst (.int .i32 65533)), (some 1), none⟩, ⟨.mov (.cst (.int .i64 1)), (some 2), none⟩])
  .ret)
  .skip))
 (.seq (.seq (.region [⟨.mov (.loc 7), none, none⟩, ⟨.bin .leq (.reg 0) (.cst (.int .i64 3)), (some 18), none⟩])
 (.cond (.loc 18)
  (.seq (.region [⟨.mov (.loc 4), none, none⟩, ⟨.bin .and (.reg 0) (.cst (.int .u8 15)), none, none⟩, ⟨.conv (.toInt .i32) (.reg 1), none, none⟩, ⟨.bin .shl (.reg 2) (.cst (.int .u64 12)), none, none⟩, ⟨.mov (.loc 9), none, none⟩, ⟨.bin .and (.reg 4) (.cst (.int .u8 63)), none, none⟩, ⟨.conv (.toInt .i32) (.reg 5), none, none⟩, ⟨.bin .shl (.reg 6) (.cst (.int .u64 6)), none, none⟩, ⟨.bin .or (.reg 3) (.reg 7), none, none⟩, ⟨.mov (.loc 10), none, none⟩, ⟨.bin .and (.reg 9) (.cst (.int .u8 63)), none, none⟩, ⟨.conv (.toInt .i32) (.reg 10), none, none⟩, ⟨.bin .or (.reg 8) (.reg 11), none, none⟩, ⟨.mov (.reg 12), (some 1), none⟩, ⟨.mov (.cst (.int .i64 3)), (some 2), none⟩])
  .ret)
  .skip))
 (.seq (.region [⟨.mov (.loc 0), none, none⟩, ⟨.indexAddrS 1 (.reg 0) (.cst (.int .i64 3)), none, none⟩, ⟨.load1 (.reg 1), none, none⟩, ⟨.mov (.reg 2), (some 11), none⟩])
 (.seq (.seq (.region [⟨.mov (.loc 11), none, none⟩, ⟨.bin .lss (.reg 0) (.cst (.int .u8 128)), none, none⟩, ⟨.mov (.reg 1), none, none⟩, ⟨.mov (.loc 11), none, (some (2, false))⟩, ⟨.bin .lss (.cst (.int .u8 191)) (.reg 3), none, (some (2, false))⟩, ⟨.pick (.reg 2) (.cst (.bool true)) (.reg 4), (some 19), none⟩])
 (.cond (.loc 19)
  (.seq (.region [⟨.mov (.cst (.int .i32 65533)), (some 1), none⟩, ⟨.mov (.cst (.int .i64 1)), (some 2), none⟩])
  .ret)
  .skip))
 (.seq (.region [⟨.mov (.loc 4), none, none⟩, ⟨.bin .and (.reg 0) (.cst (.int .u8 7)), none, none⟩, ⟨.conv (.toInt .i32) (.reg 1), none, none⟩, ⟨.bin .shl (.reg 2) (.cst (.int .u64 18)), none, none⟩, ⟨.mov (.loc 9), none, none⟩, ⟨.bin .and (.reg 4) (.cst (.int .u8 63)), none, none⟩, ⟨.conv (.toInt .i32) (.reg 5), none, none⟩, ⟨.bin .shl (.reg 6) (.cst (.int .u64 12)), none, none⟩, ⟨.bin .or (.reg 3) (.reg 7), none, none⟩, ⟨.mov (.loc 10), none, none⟩, ⟨.bin .and (.reg 9) (.cst (.int .u8 63)), none, none⟩, ⟨.conv (.toInt .i32) (.reg 10), none, none⟩, ⟨.bin .shl (.reg 11) (.cst (.int .u64 6)), none, none⟩, ⟨.bin .or (.reg 8) (.reg 12), none, none⟩, ⟨.mov (.loc 11), none, none⟩, ⟨.bin .and (.reg 14) (.cst (.int .u8 63)), none, none⟩, ⟨.conv (.toInt .i32) (.reg 15), none, none⟩, ⟨.bin .or (.reg 13) (.reg 16), none, none⟩, ⟨.mov (.reg 17), (some 1), none⟩, ⟨.mov (.cst (.int .i64 4)), (some 2), none⟩])
 .ret))))))))))))))))))⟩
theorem c192 : compFunc Tryz.prog opts a192 Tryz.f192 = some t192 := by kernel_rfl
def a193 : Ann := { slots := [0, 1, 2, 3, 8, 9, 16, 36, 52], lb := [], mu := [], trunc := [], draws := [(3, ⟨[0, 1, 0, 7, 15, 31, 31, 31, 223, 511, 1023, 31, 31, 31, 12319, 28703, 63519, 129055, 262143, 524287], [0, 1, 2, 3, 4, 5, 6, 7, 8, 9, 10, 11, 12, 13, 14, 15, 16, 17], [(18, [], [19])]⟩), (5, ⟨[0, 0, 0, 6, 15, 31, 0, 0, 0, 384, 960, 1984, 4095, 8191], [0, 1, 2, 3, 4, 5, 6, 7, 8, 9, 10, 11], [(12, [], [13])]⟩), (6, ⟨[0, 0, 0, 6, 0, 0, 0, 96, 0, 0, 0, 1536, 3840, 7936, 0, 0, 0, 98304, 245760, 507904, 1048335, 2096911, 4194303, 8388607], [0, 1, 2, 3, 4, 5, 6, 7, 8, 9, 10, 11, 12, 13, 14, 15, 16, 17, 18, 19, 20], [(21, [], [22]), (23, [], [])]⟩)] }
def t193L0 : TCode := (.block 1
    (.seq (.region [⟨.mov (.loc 4), none, none⟩, ⟨.bin .mul (.cst (.int .i64 2)) (.reg 0), none, none⟩, ⟨.bin .add (.reg 1) (.cst (.int .i64 1)), none, none⟩, ⟨.mov (.reg 2), (some 5), none⟩])
    (.seq (.seq (.region [⟨.mov (.loc 5), none, none⟩, ⟨.mov (.loc 2), none, none⟩, ⟨.bin .geq (.reg 0) (.reg 1), (some 6), none⟩])
    (.cond (.loc 6)
     (.exit 0)
     .skip))
    (.seq (.seq (.draw [0, 1, 2, 3, 4, 5, 6, 7, 8, 9, 10, 11, 12, 13, 14, 15, 16, 17] [(18, [], [19])] [⟨.mov (.loc 5), none, none⟩, ⟨.bin .add (.reg 0) (.cst (.int .i64 1)), none, none⟩, ⟨.mov (.loc 2), none, none⟩, ⟨.bin .lss (.reg 1) (.reg 2), none, none⟩, ⟨.mov (.reg 3), none, none⟩, ⟨.mov (.loc 0), none, (some (4, true))⟩, ⟨.mov (.loc 3), none, (some (4, true))⟩, ⟨.mov (.loc 5), none, (some (4, true))⟩, ⟨.bin .add (.reg 6) (.reg 7), none, (some (4, true))⟩, ⟨.indexAddrS 1 (.reg 5) (.reg 8), none, (some (4, true))⟩, ⟨.load1 (.reg 9), none, (some (4, true))⟩, ⟨.mov (.loc 0), none, (some (4, true))⟩, ⟨.mov (.loc 3), none, (some (4, true))⟩, ⟨.mov (.loc 5), none, (some (4, true))⟩, ⟨.bin .add (.reg 12) (.reg 13), none, (some (4, true))⟩, ⟨.bin .add (.reg 14) (.cst (.int .i64 1)), none, (some (4, true))⟩, ⟨.indexAddrS 1 (.reg 11) (.reg 15), none, (some (4, true))⟩, ⟨.load1 (.reg 16), none, (some (4, true))⟩, ⟨.call true false 180 [(.reg 10), (.reg 17)], none, (some (4, true))⟩, ⟨.pick (.reg 4) (.reg 18) (.cst (.bool false)), (some 7), none⟩])
    (.cond (.loc 7)
     (.region [⟨.mov (.loc 5), none, none⟩, ⟨.bin .add (.reg 0) (.cst (.int .i64 1)), none, none⟩, ⟨.mov (.reg 1), (some 5), none⟩])
     .skip))
    (.seq (.seq (.draw [0, 1, 2, 3, 4, 5, 6, 7, 8, 9, 10, 11] [(12, [], [13])] [⟨.mov (.loc 0), none, none⟩, ⟨.mov (.loc 3), none, none⟩, ⟨.mov (.loc 4), none, none⟩, ⟨.bin .add (.reg 1) (.reg 2), none, none⟩, ⟨.indexAddrS 1 (.reg 0) (.reg 3), none, none⟩, ⟨.load1 (.reg 4), none, none⟩, ⟨.mov (.loc 0), none, none⟩, ⟨.mov (.loc 3), none, none⟩, ⟨.mov (.loc 5), none, none⟩, ⟨.bin .add (.reg 7) (.reg 8), none, none⟩, ⟨.indexAddrS 1 (.reg 6) (.reg 9), none, none⟩, ⟨.load1 (.reg 10), none, none⟩, ⟨.call true false 180 [(.reg 5), (.reg 11)], none, none⟩, ⟨.un .not (.reg 12), (some 8), none⟩])
    (.cond (.loc 8)
     .ret
     .skip))
    (.seq (.draw [0, 1, 2, 3, 4, 5, 6, 7, 8, 9, 10, 11, 12, 13, 14, 15, 16, 17, 18, 19, 20] [(21, [], [22]), (23, [], [])] [⟨.mov (.loc 0), none, none⟩, ⟨.mov (.loc 3), none, none⟩, ⟨.mov (.loc 4), none, none⟩, ⟨.bin .add (.reg 1) (.reg 2), none, none⟩, ⟨.mov (.loc 0), none, none⟩, ⟨.mov (.loc 3), none, none⟩, ⟨.mov (.loc 5), none, none⟩, ⟨.bin .add (.reg 5) (.reg 6), none, none⟩, ⟨.mov (.loc 0), none, none⟩, ⟨.mov (.loc 3), none, none⟩, ⟨.mov (.loc 5), none, none⟩, ⟨.bin .add (.reg 9) (.reg 10), none, none⟩, ⟨.indexAddrS 1 (.reg 8) (.reg 11), none, none⟩, ⟨.load1 (.reg 12), none, none⟩, ⟨.mov (.loc 0), none, none⟩, ⟨.mov (.loc 3), none, none⟩, ⟨.mov (.loc 4), none, none⟩, ⟨.bin .add (.reg 15) (.reg 16), none, none⟩, ⟨.indexAddrS 1 (.reg 14) (.reg 17), none, none⟩, ⟨.load1 (.reg 18), none, none⟩, ⟨.indexAddrS 1 (.reg 0) (.reg 3), none, none⟩, ⟨.store 1 (.reg 20) (.reg 13), none, none⟩, ⟨.indexAddrS 1 (.reg 4) (.reg 7), none, none⟩, ⟨.store 1 (.reg 22) (.reg 19), none, none⟩])
    (.region [⟨.mov (.loc 5), none, none⟩, ⟨.mov (.reg 0), (some 4), none⟩])))))))
def t193 : TFunc := ⟨4, 9, [],
 (.seq (.region [⟨.mov (.loc 1), none, none⟩, ⟨.mov (.reg 0), (some 4), none⟩])
 (.block 0
  (.loop t193L0)))⟩
theorem c193 : compFunc Tryz.prog opts a193 Tryz.f193 = some t193 := by kernel_rfl
def a194 : Ann := { slots := [0, 2], lb := [], mu := [], trunc := [], draws := [] }
def t194 : TFunc := ⟨1, 2, [.loc 1],
 (.seq (.region [⟨.mov (.cst (.int .u64 0)), (some 1), none⟩])
 (.seq (.region [⟨.mov (.loc 0), none, none⟩, ⟨.conv (.toInt .u64) (.reg 0), none, none⟩, ⟨.call true false 156 [(.reg 1)], none, none⟩, ⟨.bin .shl (.cst (.int .u64 1)) (.reg 2), none, none⟩, ⟨.mov (.reg 3), (some 1), none⟩])
 .ret))⟩
theorem c194 : compFunc Tryz.prog opts a194 Tryz.f194 = some t194 := by kernel_rfl
def a195 : Ann := { slots := [0, 2], lb := [], mu := [], trunc := [], draws := [(1, ⟨[0, 1, 3, 0, 8, 24, 56, 127, 255, 511], [0, 1, 2, 3, 4, 5, 6, 7, 8], [(9, [], [])]⟩), (2, ⟨[0, 1, 3, 0, 8, 24, 56, 127, 255, 511], [0, 1, 2, 3, 4, 5, 6, 7, 8], [(9, [], [])]⟩), (3, ⟨[0, 1, 3, 0, 8, 24, 56, 127, 255, 511], [0, 1, 2, 3, 4, 5, 6, 7, 8], [(9, [], [])]⟩)] }
def t195 : TFunc := ⟨1, 2, [.loc 1],
 (.seq (.region [⟨.mov (.cst (.int .u64 0)), (some 1), none⟩])
 (.seq (.draw [0, 1, 2, 3, 4, 5, 6, 7, 8] [(9, [], [])] [⟨.mov (.loc 0), none, none⟩, ⟨.nilCheck (.reg 0), none, none⟩, ⟨.load1 (.reg 1), none, none⟩, ⟨.mov (.loc 0), none, none⟩, ⟨.nilCheck (.reg 3), none, none⟩, ⟨.load1 (.reg 4), none, none⟩, ⟨.bin .shl (.reg 5) (.cst (.int .u64 13)), none, none⟩, ⟨.bin .xor (.reg 2) (.reg 6), none, none⟩, ⟨.nilCheck (.reg 0), none, none⟩, ⟨.store 1 (.reg 8) (.reg 7), none, none⟩])
 (.seq (.draw [0, 1, 2, 3, 4, 5, 6, 7, 8] [(9, [], [])] [⟨.mov (.loc 0), none, none⟩, ⟨.nilCheck (.reg 0), none, none⟩, ⟨.load1 (.reg 1), none, none⟩, ⟨.mov (.loc 0), none, none⟩, ⟨.nilCheck (.reg 3), none, none⟩, ⟨.load1 (.reg 4), none, none⟩, ⟨.bin .shr (.reg 5) (.cst (.int .u64 7)), none, none⟩, ⟨.bin .xor (.reg 2) (.reg 6), none, none⟩, ⟨.nilCheck (.reg 0), none, none⟩, ⟨.store 1 (.reg 8) (.reg 7), none, none⟩])
 (.seq (.draw [0, 1, 2, 3, 4, 5, 6, 7, 8] [(9, [], [])] [⟨.mov (.loc 0), none, none⟩, ⟨.nilCheck (.reg 0), none, none⟩, ⟨.load1 (.reg 1), none, none⟩, ⟨.mov (.loc 0), none, none⟩, ⟨.nilCheck (.reg 3), none, none⟩, ⟨.load1 (.reg 4), none, none⟩, ⟨.bin .shl (.reg 5) (.cst (.int .u64 17)), none, none⟩, ⟨.bin .xor (.reg 2) (.reg 6), none, none⟩, ⟨.nilCheck (.reg 0), none, none⟩, ⟨.store 1 (.reg 8) (.reg 7), none, none⟩])
 (.seq (.region [⟨.mov (.loc 0), none, none⟩, ⟨.nilCheck (.reg 0), none, none⟩, ⟨.load1 (.reg 1), none, none⟩, ⟨.mov (.reg 2), (some 1), none⟩])
 .ret)))))⟩
theorem c195 : compFunc Tryz.prog opts a195 Tryz.f195 = some t195 := by kernel_rfl
def a196 : Ann := { slots := [0, 1, 2, 6], lb := [], mu := [], trunc := [], draws := [] }
def t196 : TFunc := ⟨3, 4, [.loc 3],
 (.seq (.region [⟨.mov (.cst (.int .i64 0)), (some 3), none⟩])
 (.seq (.region [⟨.mov (.loc 0), none, none⟩, ⟨.mov (.loc 1), none, none⟩, ⟨.bin .sub (.reg 1) (.cst (.int .i64 1)), none, none⟩, ⟨.mov (.loc 1), none, none⟩, ⟨.mov (.loc 1), none, none⟩, ⟨.bin .add (.reg 4) (.cst (.int .i64 1)), none, none⟩, ⟨.mov (.loc 2), none, none⟩, ⟨.call false false 197 [(.reg 0), (.reg 2), (.reg 3), (.reg 5), (.reg 6)], none, none⟩, ⟨.mov (.reg 7), (some 3), none⟩])
 .ret))⟩
theorem c196 : compFunc Tryz.prog opts a196 Tryz.f196 = some t196 := by kernel_rfl
def a197 : Ann := { slots := [0, 1, 2, 3, 4, 10], lb := [], mu := [], trunc := [], draws := [] }
def t197 : TFunc := ⟨5, 6, [.loc 5],
 (.seq (.region [⟨.mov (.cst (.int .i64 0)), (some 5), none⟩])
 (.seq (.region [⟨.mov (.loc 0), none, none⟩, ⟨.mov (.loc 1), none, none⟩, ⟨.mov (.loc 2), none, none⟩, ⟨.mov (.loc 4), none, none⟩, ⟨.call false false 201 [(.reg 0), (.reg 1), (.reg 2), (.reg 3)], none, none⟩, ⟨.mov (.reg 4), none, none⟩, ⟨.extract 0 (.reg 5), none, none⟩, ⟨.extract 1 (.reg 5), none, none⟩, ⟨.mov (.reg 6), (some 1), none⟩, ⟨.mov (.reg 7), (some 2), none⟩])
 (.seq (.region [⟨.mov (.loc 0), none, none⟩, ⟨.mov (.loc 2), none, none⟩, ⟨.mov (.loc 3), none, none⟩, ⟨.mov (.loc 4), none, none⟩, ⟨.call false false 201 [(.reg 0), (.reg 1), (.reg 2), (.reg 3)], none, none⟩, ⟨.mov (.reg 4), none, none⟩, ⟨.extract 0 (.reg 5), none, none⟩, ⟨.extract 1 (.reg 5), none, none⟩, ⟨.mov (.reg 6), (some 2), none⟩, ⟨.mov (.reg 7), (some 3), none⟩])
 (.seq (.region [⟨.mov (.loc 0), none, none⟩, ⟨.mov (.loc 1), none, none⟩, ⟨.mov (.loc 2), none, none⟩, ⟨.mov (.loc 4), none, none⟩, ⟨.call false false 201 [(.reg 0), (.reg 1), (.reg 2), (.reg 3)], none, none⟩, ⟨.mov (.reg 4), none, none⟩, ⟨.extract 0 (.reg 5), none, none⟩, ⟨.extract 1 (.reg 5), none, none⟩, ⟨.mov (.reg 6), (some 1), none⟩, ⟨.mov (.reg 7), (some 2), none⟩])
 (.seq (.region [⟨.mov (.loc 2), none, none⟩, ⟨.mov (.reg 0), (some 5), none⟩])
 .ret)))))⟩
theorem c197 : compFunc Tryz.prog opts a197 Tryz.f197 = some t197 := by kernel_rfl
def a198 : Ann := { slots := [0, 2], lb := [], mu := [], trunc := [], draws := [] }
def t198 : TFunc := ⟨1, 2, [.loc 1],
 (.seq (.region [⟨.mov (.cst (.bool false)), (some 1), none⟩])
 (.seq (.region [⟨.mov (.loc 0), none, none⟩, ⟨.mov (.loc 0), none, none⟩, ⟨.bin .neq (.reg 0) (.reg 1), none, none⟩, ⟨.mov (.reg 2), (some 1), none⟩])
 .ret))⟩
theorem c198 : compFunc Tryz.prog opts a198 Tryz.f198 = some t198 := by kernel_rfl
def a199 : Ann := { slots := [0, 2, 4], lb := [], mu := [], trunc := [], draws := [] }
def t199 : TFunc := ⟨1, 3, [.loc 1],
 (.seq (.region [⟨.mov (.cst (.int .i64 0)), (some 1), none⟩])
 (.seq (.seq (.region [⟨.mov (.loc 0), none, none⟩, ⟨.bin .eql (.reg 0) (.cst (.int .u32 0)), (some 2), none⟩])
 (.cond (.loc 2)
  (.seq (.region [⟨.mov (.cst (.int .i64 32)), (some 1), none⟩])
  .ret)
  .skip))
 (.seq (.region [⟨.mov (.loc 0), none, none⟩, ⟨.mov (.loc 0), none, none⟩, ⟨.un .neg (.reg 1), none, none⟩, ⟨.bin .and (.reg 0) (.reg 2), none, none⟩, ⟨.bin .mul (.reg 3) (.cst (.int .u32 125613361)), none, none⟩, ⟨.bin .shr (.reg 4) (.cst (.int .u64 27)), none, none⟩, ⟨.indexAddrA 32 1 (.glob 4) (.reg 5), none, none⟩, ⟨.load1 (.reg 6), none, none⟩, ⟨.conv (.toInt .i64) (.reg 7), none, none⟩, ⟨.mov (.reg 8), (some 1), none⟩])
 .ret)))⟩
theorem c199 : compFunc Tryz.prog opts a199 Tryz.f199 = some t199 := by kernel_rfl
def a200 : Ann := { slots := [0, 2, 4], lb := [], mu := [], trunc := [], draws := [] }
def t200 : TFunc := ⟨1, 3, [.loc 1],
 (.seq (.region [⟨.mov (.cst (.int .i64 0)), (some 1), none⟩])
 (.seq (.seq (.region [⟨.mov (.loc 0), none, none⟩, ⟨.bin .eql (.reg 0) (.cst (.int .u64 0)), (some 2), none⟩])
 (.cond (.loc 2)
  (.seq (.region [⟨.mov (.cst (.int .i64 64)), (some 1), none⟩])
  .ret)
  .skip))
 (.seq (.region [⟨.mov (.loc 0), none, none⟩, ⟨.mov (.loc 0), none, none⟩, ⟨.un .neg (.reg 1), none, none⟩, ⟨.bin .and (.reg 0) (.reg 2), none, none⟩, ⟨.bin .mul (.reg 3) (.cst (.int .u64 285870213051353865)), none, none⟩, ⟨.bin .shr (.reg 4) (.cst (.int .u64 58)), none, none⟩, ⟨.indexAddrA 64 1 (.glob 5) (.reg 5), none, none⟩, ⟨.load1 (.reg 6), none, none⟩, ⟨.conv (.toInt .i64) (.reg 7), none, none⟩, ⟨.mov (.reg 8), (some 1), none⟩])
 .ret)))⟩
theorem c200 : compFunc Tryz.prog opts a200 Tryz.f200 = some t200 := by kernel_rfl
def a201 : Ann := { slots := [0, 1, 2, 3, 8, 9, 18], lb := [], mu := [], trunc := [], draws := [(1, ⟨[0, 0, 3, 7, 0, 0, 48, 112, 255], [0, 1, 2, 3, 4, 5, 6, 7], [(8, [], [])]⟩)] }
def t201 : TFunc := ⟨4, 7, [.loc 4, .loc 5],
 (.seq (.region [⟨.mov (.cst (.int .i64 0)), (some 4), none⟩, ⟨.mov (.cst (.int .i64 0)), (some 5), none⟩])
 (.seq (.seq (.draw [0, 1, 2, 3, 4, 5, 6, 7] [(8, [], [])] [⟨.mov (.loc 0), none, none⟩, ⟨.mov (.loc 2), none, none⟩, ⟨.indexAddrS 1 (.reg 0) (.reg 1), none, none⟩, ⟨.load1 (.reg 2), none, none⟩, ⟨.mov (.loc 0), none, none⟩, ⟨.mov (.loc 1), none, none⟩, ⟨.indexAddrS 1 (.reg 4) (.reg 5), none, none⟩, ⟨.load1 (.reg 6), none, none⟩, ⟨.call true false 180 [(.reg 3), (.reg 7)], (some 6), none⟩])
 (.cond (.loc 6)
  (.seq (.region [⟨.mov (.loc 3), none, none⟩, ⟨.nilCheck (.reg 0), none, none⟩, ⟨.load1 (.reg 1), none, none⟩, ⟨.bin .add (.reg 2) (.cst (.int .i64 1)), none, none⟩, ⟨.nilCheck (.reg 0), none, none⟩, ⟨.store 1 (.reg 4) (.reg 3), none, none⟩])
  (.seq (.region [⟨.mov (.loc 2), none, none⟩, ⟨.mov (.loc 1), none, none⟩, ⟨.mov (.reg 0), (some 4), none⟩, ⟨.mov (.reg 1), (some 5), none⟩])
  .ret))
  .skip))
 (.seq (.region [⟨.mov (.loc 1), none, none⟩, ⟨.mov (.loc 2), none, none⟩, ⟨.mov (.reg 0), (some 4), none⟩, ⟨.mov (.reg 1), (some 5), none⟩])
 .ret)))⟩
theorem c201 : compFunc Tryz.prog opts a201 Tryz.f201 = some t201 := by kernel_rfl
def g0 : List IV := [(.int .u64 1), (.int .u64 10), (.int .u64 100), (.int .u64 1000), (.int .u64 10000), (.int .u64 100000), (.int .u64 1000000), (.int .u64 10000000), (.int .u64 100000000), (.int .u64 1000000000), (.int .u64 10000000000), (.int .u64 100000000000), (.int .u64 1000000000000), (.int .u64 10000000000000), (.int .u64 100000000000000), (.int .u64 1000000000000000), (.int .u64 10000000000000000), (.int .u64 100000000000000000), (.int .u64 1000000000000000000), (.int .u64 10000000000000000000)]
def g2 : List IV := [(.int .u8 240), (.int .u8 240), (.int .u8 240), (.int .u8 240), (.int .u8 240), (.int .u8 240), (.int .u8 240), (.int .u8 240), (.int .u8 240), (.int .u8 240), (.int .u8 240), (.int .u8 240), (.int .u8 240), (.int .u8 240), (.int .u8 240), (.int .u8 240), (.int .u8 240), (.int .u8 240), (.int .u8 240), (.int .u8 240), (.int .u8 240), (.int .u8 240), (.int .u8 240), (.int .u8 240), (.int .u8 240), (.int .u8 240), (.int .u8 240), (.int .u8 240), (.int .u8 240), (.int .u8 240), (.int .u8 240), (.int .u8 240), (.int .u8 240), (.int .u8 240), (.int .u8 240), (.int .u8 240), (.int .u8 240), (.int .u8 240), (.int .u8 240), (.int .u8 240), (.int .u8 240), (.int .u8 240), (.int .u8 240), (.int .u8 240), (.int .u8 240), (.int .u8 240), (.int .u8 240), (.int .u8 240), (.int .u8 240), (.int .u8 240), (.int .u8 240), (.int .u8 240), (.int .u8 240), (.int .u8 240), (.int .u8 240), (.int .u8 240), (.int .u8 240), (.int .u8 240), (.int .u8 240), (.int .u8 240), (.int .u8 240), (.int .u8 240), (.int .u8 240), (.int .u8 240), (.int .u8 240), (.int .u8 240), (.int .u8 240), (.int .u8 240), (.int .u8 240), (.int .u8 240), (.int .u8 240), (.int .u8 240), (.int .u8 240), (.int .u8 240), (.int .u8 240), (.int .u8 240), (.int .u8 240), (.int .u8 240), (.int .u8 240), (.int .u8 240), (.int .u8 240), (.int .u8 240), (.int .u8 240), (.int .u8 240), (.int .u8 240), (.int .u8 240), (.int .u8 240), (.int .u8 240), (.int .u8 240), (.int .u8 240), (.int .u8 240), (.int .u8 240), (.int .u8 240), (.int .u8 240), (.int .u8 240), (.int .u8 240), (.int .u8 240), (.int .u8 240), (.int .u8 240), (.int .u8 240), (.int .u8 240), (.int .u8 240), (.int .u8 240), (.int .u8 240), (.int .u8 240), (.int .u8 240), (.int .u8 240), (.int .u8 240), (.int .u8 240), (.int .u8 240), (.int .u8 240), (.int .u8 240), (.int .u8 240), (.int .u8 240), (.int .u8 240), (.int .u8 240), (.int .u8 240), (.int .u8 240), (.int .u8 240), (.int .u8 240), (.int .u8 240), (.int .u8 240), (.int .u8 240), (.int .u8 240), (.int .u8 240), (.int .u8 240), (.int .u8 240), (.int .u8 240), (.int .u8 241), (.int .u8 241), (.int .u8 241), (.int .u8 241), (.int .u8 241), (.int .u8 241), (.int .u8 241), (.int .u8 241), (.int .u8 241), (.int .u8 241), (.int .u8 241), (.int .u8 241), (.int .u8 241), (.int .u8 241), (.int .u8 241), (.int .u8 241), (.int .u8 241), (.int .u8 241), (.int .u8 241), (.int .u8 241), (.int .u8 241), (.int .u8 241), (.int .u8 241), (.int .u8 241), (.int .u8 241), (.int .u8 241), (.int .u8 241), (.int .u8 241), (.int .u8 241), (.int .u8 241), (.int .u8 241), (.int .u8 241), (.int .u8 241), (.int .u8 241), (.int .u8 241), (.int .u8 241), (.int .u8 241), (.int .u8 241), (.int .u8 241), (.int .u8 241), (.int .u8 241), (.int .u8 241), (.int .u8 241), (.int .u8 241), (.int .u8 241), (.int .u8 241), (.int .u8 241), (.int .u8 241), (.int .u8 241), (.int .u8 241), (.int .u8 241), (.int .u8 241), (.int .u8 241), (.int .u8 241), (.int .u8 241), (.int .u8 241), (.int .u8 241), (.int .u8 241), (.int .u8 241), (.int .u8 241), (.int .u8 241), (.int .u8 241), (.int .u8 241), (.int .u8 241), (.int .u8 241), (.int .u8 241), (.int .u8 2), (.int .u8 2), (.int .u8 2), (.int .u8 2), (.int .u8 2), (.int .u8 2), (.int .u8 2), (.int .u8 2), (.int .u8 2), (.int .u8 2), (.int .u8 2), (.int .u8 2), (.int .u8 2), (.int .u8 2), (.int .u8 2), (.int .u8 2), (.int .u8 2), (.int .u8 2), (.int .u8 2), (.int .u8 2), (.int .u8 2), (.int .u8 2), (.int .u8 2), (.int .u8 2), (.int .u8 2), (.int .u8 2), (.int .u8 2), (.int .u8 2), (.int .u8 2), (.int .u8 2), (.int .u8 19), (.int .u8 3), (.int .u8 3), (.int .u8 3), (.int .u8 3), (.int .u8 3), (.int .u8 3), (.int .u8 3), (.int .u8 3), (.int .u8 3), (.int .u8 3), (.int .u8 3), (.int .u8 3), (.int .u8 35), (.int .u8 3), (.int .u8 3), (.int .u8 52), (.int .u8 4), (.int .u8 4), (.int .u8 4), (.int .u8 68), (.int .u8 241), (.int .u8 241), (.int .u8 241), (.int .u8 241), (.int .u8 241), (.int .u8 241), (.int .u8 241), (.int .u8 241), (.int .u8 241), (.int .u8 241), (.int .u8 241)]
def g3 : List IV := [(.int .u8 128), (.int .u8 191), (.int .u8 160), (.int .u8 191), (.int .u8 128), (.int .u8 159), (.int .u8 144), (.int .u8 191), (.int .u8 128), (.int .u8 143), (.int .u8 0), (.int .u8 0), (.int .u8 0), (.int .u8 0), (.int .u8 0), (.int .u8 0), (.int .u8 0), (.int .u8 0), (.int .u8 0), (.int .u8 0), (.int .u8 0), (.int .u8 0), (.int .u8 0), (.int .u8 0), (.int .u8 0), (.int .u8 0), (.int .u8 0), (.int .u8 0), (.int .u8 0), (.int .u8 0), (.int .u8 0), (.int .u8 0)]
def g4 : List IV := [(.int .u8 0), (.int .u8 1), (.int .u8 28), (.int .u8 2), (.int .u8 29), (.int .u8 14), (.int .u8 24), (.int .u8 3), (.int .u8 30), (.int .u8 22), (.int .u8 20), (.int .u8 15), (.int .u8 25), (.int .u8 17), (.int .u8 4), (.int .u8 8), (.int .u8 31), (.int .u8 27), (.int .u8 13), (.int .u8 23), (.int .u8 21), (.int .u8 19), (.int .u8 16), (.int .u8 7), (.int .u8 26), (.int .u8 12), (.int .u8 18), (.int .u8 6), (.int .u8 11), (.int .u8 5), (.int .u8 10), (.int .u8 9)]
def g5 : List IV := [(.int .u8 0), (.int .u8 1), (.int .u8 56), (.int .u8 2), (.int .u8 57), (.int .u8 49), (.int .u8 28), (.int .u8 3), (.int .u8 61), (.int .u8 58), (.int .u8 42), (.int .u8 50), (.int .u8 38), (.int .u8 29), (.int .u8 17), (.int .u8 4), (.int .u8 62), (.int .u8 47), (.int .u8 59), (.int .u8 36), (.int .u8 45), (.int .u8 43), (.int .u8 51), (.int .u8 22), (.int .u8 53), (.int .u8 39), (.int .u8 33), (.int .u8 30), (.int .u8 24), (.int .u8 18), (.int .u8 12), (.int .u8 5), (.int .u8 63), (.int .u8 55), (.int .u8 48), (.int .u8 27), (.int .u8 60), (.int .u8 41), (.int .u8 37), (.int .u8 16), (.int .u8 46), (.int .u8 35), (.int .u8 44), (.int .u8 21), (.int .u8 52), (.int .u8 32), (.int .u8 23), (.int .u8 11), (.int .u8 54), (.int .u8 26), (.int .u8 40), (.int .u8 15), (.int .u8 34), (.int .u8 20), (.int .u8 31), (.int .u8 10), (.int .u8 25), (.int .u8 14), (.int .u8 19), (.int .u8 9), (.int .u8 13), (.int .u8 8), (.int .u8 7), (.int .u8 6)]
def tbl : List (Option TFunc) := [none, none, none, none, some t4, none, none, none, none, some t9, some t10, some t11, none, some t13, none, none, none, some t17, some t18, some t19, some t20, none, none, none, none, none, none, none, none, none, none, none, none, some t33, some t34, some t35, some t36, some t37, some t38, none, some t40, some t41, some t42, some t43, some t44, some t45, none, some t47, none, some t49, some t50, some t51, some t52, some t53, some t54, some t55, some t56, some t57, some t58, none, none, none, none, none, none, none, none, none, none, none, none, none, none, some t73, some t74, some t75, some t76, some t77, some t78, none, none, some t81, some t82, some t83, some t84, some t85, some t86, some t87, some t88, some t89, some t90, some t91, some t92, some t93, none, none, none, none, none, none, none, none, none, none, none, none, none, none, some t108, some t109, some t110, some t111, some t112, none, none, some t115, some t116, some t117, some t118, some t119, some t120, some t121, some t122, some t123, some t124, some t125, none, none, none, none, none, none, none, none, none, none, none, none, some t138, some t139, none, none, none, none, none, none, none, none, some t148, some t149, some t150, some t151, some t152, some t153, some t154, some t155, some t156, some t157, some t158, none, none, some t161, some t162, some t163, some t164, none, none, none, none, none, some t170, some t171, some t172, some t173, some t174, some t175, some t176, some t177, some t178, some t179, some t180, some t181, some t182, some t183, some t184, some t185, some t186, some t187, some t188, none, some t190, some t191, some t192, some t193, some t194, some t195, some t196, some t197, some t198, some t199, some t200, some t201]
def gtbl : List (Option (List IV)) := [some g0, none, some g2, some g3, some g4, some g5]
def K : TM.Prog := ⟨fun k => tbl.getD k none, fun g => gtbl.getD g none, fun f => primAt prims f⟩
def Good (k : Nat) (tf : TFunc) : Prop := ∃ (A : Ann) (fn : Func), Tryz.prog.funcs[k]? = some fn ∧ fn.name ≠ "runtime.NumGoroutine" ∧ compFunc Tryz.prog opts A fn = some tf
theorem n4 : (Tryz.f4.name == "runtime.NumGoroutine") = false := by kernel_rfl
theorem q4 : Good 4 t4 := ⟨a4, Tryz.f4, Tryz.func4, fun e => by have h := n4; rw [e] at h; simp at h, c4⟩
theorem n9 : (Tryz.f9.name == "runtime.NumGoroutine") = false := by kernel_rfl
theorem q9 : Good 9 t9 := ⟨a9, Tryz.f9, Tryz.func9, fun e => by have h := n9; rw [e] at h; simp at h, c9⟩
theorem n10 : (Tryz.f10.name == "runtime.NumGoroutine") = false := by kernel_rfl
theorem q10 : Good 10 t10 := ⟨a10, Tryz.f10, Tryz.func10, fun e => by have h := n10; rw [e] at h; simp at h, c10⟩
theorem n11 : (Tryz.f11.name == "runtime.NumGoroutine") = false := by kernel_rfl
theorem q11 : Good 11 t11 := ⟨a11, Tryz.f11, Tryz.func11, fun e => by have h := n11; rw [e] at h; simp at h, c11⟩
theorem n13 : (Tryz.f13.name == "runtime.NumGoroutine") = false := by kernel_rfl
theorem q13 : Good 13 t13 := ⟨a13, Tryz.f13, Tryz.func13, fun e => by have h := n13; rw [e] at h; simp at h, c13⟩
theorem n17 : (Tryz.f17.name == "runtime.NumGoroutine") = false := by kernel_rfl
theorem q17 : Good 17 t17 := ⟨a17, Tryz.f17, Tryz.func17, fun e => by have h := n17; rw [e] at h; simp at h, c17⟩
theorem n18 : (Tryz.f18.name == "runtime.NumGoroutine") = false := by kernel_rfl
theorem q18 : Good 18 t18 := ⟨a18, Tryz.f18, Tryz.func18, fun e => by have h := n18; rw [e] at h; simp at h, c18⟩
theorem n19 : (Tryz.f19.name == "runtime.NumGoroutine") = false := by kernel_rfl
theorem q19 : Good 19 t19 := ⟨a19, Tryz.f19, Tryz.func19, fun e => by have h := n19; rw [e] at h; simp at h, c19⟩
theorem n20 : (Tryz.f20.name == "runtime.NumGoroutine") = false := by kernel_rfl
theorem q20 : Good 20 t20 := ⟨a20, Tryz.f20, Tryz.func20, fun e => by have h := n20; rw [e] at h; simp at h, c20⟩
theorem n33 : (Tryz.f33.name == "runtime.NumGoroutine") = false := by kernel_rfl
theorem q33 : Good 33 t33 := ⟨a33, Tryz.f33, Tryz.func33, fun e => by have h := n33; rw [e] at h; simp at h, c33⟩
theorem n34 : (Tryz.f34.name == "runtime.NumGoroutine") = false := by kernel_rfl
theorem q34 : Good 34 t34 := ⟨a34, Tryz.f34, Tryz.func34, fun e => by have h := n34; rw [e] at h; simp at h, c34⟩
theorem n35 : (Tryz.f35.name == "runtime.NumGoroutine") = false := by kernel_rfl
theorem q35 : Good 35 t35 := ⟨a35, Tryz.f35, Tryz.func35, fun e => by have h := n35; rw [e] at h; simp at h, c35⟩
theorem n36 : (Tryz.f36.name == "runtime.NumGoroutine") = false := by kernel_rfl
theorem q36 : Good 36 t36 := ⟨a36, Tryz.f36, Tryz.func36, fun e => by have h := n36; rw [e] at h; simp at h, c36⟩
theorem n37 : (Tryz.f37.name == "runtime.NumGoroutine") = false := by kernel_rfl
theorem q37 : Good 37 t37 := ⟨a37, Tryz.f37, Tryz.func37, fun e => by have h := n37; rw [e] at h; simp at h, c37⟩
theorem n38 : (Tryz.f38.name == "runtime.NumGoroutine") = false := by kernel_rfl
theorem q38 : Good 38 t38 := ⟨a38, Tryz.f38, Tryz.func38, fun e => by have h := n38; rw [e] at h; simp at h, c38⟩
theorem n40 : (Tryz.f40.name == "runtime.NumGoroutine") = false := by kernel_rfl
theorem q40 : Good 40 t40 := ⟨a40, Tryz.f40, Tryz.func40, fun e => by have h := n40; rw [e] at h; simp at h, c40⟩
theorem n41 : (Tryz.f41.name == "runtime.NumGoroutine") = false := by kernel_rfl
theorem q41 : Good 41 t41 := ⟨a41, Tryz.f41, Tryz.func41, fun e => by have h := n41; rw [e] at h; simp at h, c41⟩
theorem n42 : (Tryz.f42.name == "runtime.NumGoroutine") = false := by kernel_rfl
theorem q42 : Good 42 t42 := ⟨a42, Tryz.f42, Tryz.func42, fun e => by have h := n42; rw [e] at h; simp at h, c42⟩
theorem n43 : (Tryz.f43.name == "runtime.NumGoroutine") = false := by kernel_rfl
theorem q43 : Good 43 t43 := ⟨a43, Tryz.f43, Tryz.func43, fun e => by have h := n43; rw [e] at h; simp at h, c43⟩
theorem n44 : (Tryz.f44.name == "runtime.NumGoroutine") = false := by kernel_rfl
theorem q44 : Good 44 t44 := ⟨a44, Tryz.f44, Tryz.func44, fun e => by have h := n44; rw [e] at h; simp at h, c44⟩
theorem n45 : (Tryz.f45.name == "runtime.NumGoroutine") = false := by kernel_rfl
theorem q45 : Good 45 t45 := ⟨a45, Tryz.f45, Tryz.func45, fun e => by have h := n45; rw [e] at h; simp at h, c45⟩
theorem n47 : (Tryz.f47.name == "runtime.NumGoroutine") = false := by kernel_rfl
theorem q47 : Good 47 t47 := ⟨a47, Tryz.f47, Tryz.func47, fun e => by have h := n47; rw [e] at h; simp at h, c47⟩
theorem n49 : (Tryz.f49.name == "runtime.NumGoroutine") = false := by kernel_rfl
theorem q49 : Good 49 t49 := ⟨a49, Tryz.f49, Tryz.func49, fun e => by have h := n49; rw [e] at h; simp at h, c49⟩
theorem n50 : (Tryz.f50.name == "runtime.NumGoroutine") = false := by kernel_rfl
theorem q50 : Good 50 t50 := ⟨a50, Tryz.f50, Tryz.func50, fun e => by have h := n50; rw [e] at h; simp at h, c50⟩
theorem n51 : (Tryz.f51.name == "runtime.NumGoroutine") = false := by kernel_rfl
theorem q51 : Good 51 t51 := ⟨a51, Tryz.f51, Tryz.func51, fun e => by have h := n51; rw [e] at h; simp at h, c51⟩
theorem n52 : (Tryz.f52.name == "runtime.NumGoroutine") = false := by kernel_rfl
theorem q52 : Good 52 t52 := ⟨a52, Tryz.f52, Tryz.func52, fun e => by have h := n52; rw [e] at h; simp at h, c52⟩
theorem n53 : (Tryz.f53.name == "runtime.NumGoroutine") = false := by kernel_rfl
theorem q53 : Good 53 t53 := ⟨a53, Tryz.f53, Tryz.func53, fun e => by have h := n53; rw [e] at h; simp at h, c53⟩
theorem n54 : (Tryz.f54.name == "runtime.NumGoroutine") = false := by kernel_rfl
theorem q54 : Good 54 t54 := ⟨a54, Tryz.f54, Tryz.func54, fun e => by have h := n54; rw [e] at h; simp at h, c54⟩
theorem n55 : (Tryz.f55.name == "runtime.NumGoroutine") = false := by kernel_rfl
theorem q55 : Good 55 t55 := ⟨a55, Tryz.f55, Tryz.func55, fun e => by have h := n55; rw [e] at h; simp at h, c55⟩
theorem n56 : (Tryz.f56.name == "runtime.NumGoroutine") = false := by kernel_rfl
theorem q56 : Good 56 t56 := ⟨a56, Tryz.f56, Tryz.func56, fun e => by have h := n56; rw [e] at h; simp at h, c56⟩
theorem n57 : (Tryz.f57.name == "runtime.NumGoroutine") = false := by kernel_rfl
theorem q57 : Good 57 t57 := ⟨a57, Tryz.f57, Tryz.func57, fun e => by have h := n57; rw [e] at h; simp at h, c57⟩
theorem n58 : (Tryz.f58.name == "runtime.NumGoroutine") = false := by kernel_rfl
theorem q58 : Good 58 t58 := ⟨a58, Tryz.f58, Tryz.func58, fun e => by have h := n58; rw [e] at h; simp at h, c58⟩
theorem n73 : (Tryz.f73.name == "runtime.NumGoroutine") = false := by kernel_rfl
theorem q73 : Good 73 t73 := ⟨a73, Tryz.f73, Tryz.func73, fun e => by have h := n73; rw [e] at h; simp at h, c73⟩
theorem n74 : (Tryz.f74.name == "runtime.NumGoroutine") = false := by kernel_rfl
theorem q74 : Good 74 t74 := ⟨a74, Tryz.f74, Tryz.func74, fun e => by have h := n74; rw [e] at h; simp at h, c74⟩
theorem n75 : (Tryz.f75.name == "runtime.NumGoroutine") = false := by kernel_rfl
theorem q75 : Good 75 t75 := ⟨a75, Tryz.f75, Tryz.func75, fun e => by have h := n75; rw [e] at h; simp at h, c75⟩
theorem n76 : (Tryz.f76.name == "runtime.NumGoroutine") = false := by kernel_rfl
theorem q76 : Good 76 t76 := ⟨a76, Tryz.f76, Tryz.func76, fun e => by have h := n76; rw [e] at h; simp at h, c76⟩
theorem n77 : (Tryz.f77.name == "runtime.NumGoroutine") = false := by kernel_rfl
theorem q77 : Good 77 t77 := ⟨a77, Tryz.f77, Tryz.func77, fun e => by have h := n77; rw [e] at h; simp at h, c77⟩
theorem n78 : (Tryz.f78.name == "runtime.NumGoroutine") = false := by kernel_rfl
theorem q78 : Good 78 t78 := ⟨a78, Tryz.f78, Tryz.func78, fun e => by have h := n78; rw [e] at h; simp at h, c78⟩
theorem n81 : (Tryz.f81.name == "runtime.NumGoroutine") = false := by kernel_rfl
theorem q81 : Good 81 t81 := ⟨a81, Tryz.f81, Tryz.func81, fun e => by have h := n81; rw [e] at h; simp at h, c81⟩
theorem n82 : (Tryz.f82.name == "runtime.NumGoroutine") = false := by kernel_rfl
theorem q82 : Good 82 t82 := ⟨a82, Tryz.f82, Tryz.func82, fun e => by have h := n82; rw [e] at h; simp at h, c82⟩
theorem n83 : (Tryz.f83.name == "runtime.NumGoroutine") = false := by kernel_rfl
theorem q83 : Good 83 t83 := ⟨a83, Tryz.f83, Tryz.func83, fun e => by have h := n83; rw [e] at h; simp at h, c83⟩
theorem n84 : (Tryz.f84.name == "runtime.NumGoroutine") = false := by kernel_rfl
theorem q84 : Good 84 t84 := ⟨a84, Tryz.f84, Tryz.func84, fun e => by have h := n84; rw [e] at h; simp at h, c84⟩
theorem n85 : (Tryz.f85.name == "runtime.NumGoroutine") = false := by kernel_rfl
theorem q85 : Good 85 t85 := ⟨a85, Tryz.f85, Tryz.func85, fun e => by have h := n85; rw [e] at h; simp at h, c85⟩
theorem n86 : (Tryz.f86.name == "runtime.NumGoroutine") = false := by kernel_rfl
theorem q86 : Good 86 t86 := ⟨a86, Tryz.f86, Tryz.func86, fun e => by have h := n86; rw [e] at h; simp at h, c86⟩
theorem n87 : (Tryz.f87.name == "runtime.NumGoroutine") = false := by kernel_rfl
theorem q87 : Good 87 t87 := ⟨a87, Tryz.f87, Tryz.func87, fun e => by have h := n87; rw [e] at h; simp at h, c87⟩
theorem n88 : (Tryz.f88.name == "runtime.NumGoroutine") = false := by kernel_rfl
theorem q88 : Good 88 t88 := ⟨a88, Tryz.f88, Tryz.func88, fun e => by have h := n88; rw [e] at h; simp at h, c88⟩
theorem n89 : (Tryz.f89.name == "runtime.NumGoroutine") = false := by kernel_rfl
theorem q89 : Good 89 t89 := ⟨a89, Tryz.f89, Tryz.func89, fun e => by have h := n89; rw [e] at h; simp at h, c89⟩
theorem n90 : (Tryz.f90.name == "runtime.NumGoroutine") = false := by kernel_rfl
theorem q90 : Good 90 t90 := ⟨a90, Tryz.f90, Tryz.func90, fun e => by have h := n90; rw [e] at h; simp at h, c90⟩
theorem n91 : (Tryz.f91.name == "runtime.NumGoroutine") = false := by kernel_rfl
theorem q91 : Good 91 t91 := ⟨a91, Tryz.f91, Tryz.func91, fun e => by have h := n91; rw [e] at h; simp at h, c91⟩
theorem n92 : (Tryz.f92.name == "runtime.NumGoroutine") = false := by kernel_rfl
theorem q92 : Good 92 t92 := ⟨a92, Tryz.f92, Tryz.func92, fun e => by have h := n92; rw [e] at h; simp at h, c92⟩
theorem n93 : (Tryz.f93.name == "runtime.NumGoroutine") = false := by kernel_rfl
theorem q93 : Good 93 t93 := ⟨a93, Tryz.f93, Tryz.func93, fun e => by have h := n93; rw [e] at h; simp at h, c93⟩
theorem n108 : (Tryz.f108.name == "runtime.NumGoroutine") = false := by kernel_rfl
theorem q108 : Good 108 t108 := ⟨a108, Tryz.f108, Tryz.func108, fun e => by have h := n108; rw [e] at h; simp at h, c108⟩
theorem n109 : (Tryz.f109.name == "runtime.NumGoroutine") = false := by kernel_rfl
theorem q109 : Good 109 t109 := ⟨a109, Tryz.f109, Tryz.func109, fun e => by have h := n109; rw [e] at h; simp at h, c109⟩
theorem n110 : (Tryz.f110.name == "runtime.NumGoroutine") = false := by kernel_rfl
theorem q110 : Good 110 t110 := ⟨a110, Tryz.f110, Tryz.func110, fun e => by have h := n110; rw [e] at h; simp at h, c110⟩
theorem n111 : (Tryz.f111.name == "runtime.NumGoroutine") = false := by kernel_rfl
theorem q111 : Good 111 t111 := ⟨a111, Tryz.f111, Tryz.func111, fun e => by have h := n111; rw [e] at h; simp at h, c111⟩
theorem n112 : (Tryz.f112.name == "runtime.NumGoroutine") = false := by kernel_rfl
theorem q112 : Good 112 t112 := ⟨a112, Tryz.f112, Tryz.func112, fun e => by have h := n112; rw [e] at h; simp at h, c112⟩
theorem n115 : (Tryz.f115.name == "runtime.NumGoroutine") = false := by kernel_rfl
theorem q115 : Good 115 t115 := ⟨a115, Tryz.f115, Tryz.func115, fun e => by have h := n115; rw [e] at h; simp at h, c115⟩
theorem n116 : (Tryz.f116.name == "runtime.NumGoroutine") = false := by kernel_rfl
theorem q116 : Good 116 t116 := ⟨a116, Tryz.f116, Tryz.func116, fun e => by have h := n116; rw [e] at h; simp at h, c116⟩
theorem n117 : (Tryz.f117.name == "runtime.NumGoroutine") = false := by kernel_rfl
theorem q117 : Good 117 t117 := ⟨a117, Tryz.f117, Tryz.func117, fun e => by have h := n117; rw [e] at h; simp at h, c117⟩
theorem n118 : (Tryz.f118.name == "runtime.NumGoroutine") = false := by kernel_rfl
theorem q118 : Good 118 t118 := ⟨a118, Tryz.f118, Tryz.func118, fun e => by have h := n118; rw [e] at h; simp at h, c118⟩
theorem n119 : (Tryz.f119.name == "runtime.NumGoroutine") = false := by kernel_rfl
theorem q119 : Good 119 t119 := ⟨a119, Tryz.f119, Tryz.func119, fun e => by have h := n119; rw [e] at h; simp at h, c119⟩
theorem n120 : (Tryz.f120.name == "runtime.NumGoroutine") = false := by kernel_rfl
theorem q120 : Good 120 t120 := ⟨a120, Tryz.f120, Tryz.func120, fun e => by have h := n120; rw [e] at h; simp at h, c120⟩
theorem n121 : (Tryz.f121.name == "runtime.NumGoroutine") = false := by kernel_rfl
theorem q121 : Good 121 t121 := ⟨a121, Tryz.f121, Tryz.func121, fun e => by have h := n121; rw [e] at h; simp at h, c121⟩
theorem n122 : (Tryz.f122.name == "runtime.NumGoroutine") = false := by kernel_rfl
theorem q122 : Good 122 t122 := ⟨a122, Tryz.f122, Tryz.func122, fun e => by have h := n122; rw [e] at h; simp at h, c122⟩
theorem n123 : (Tryz.f123.name == "runtime.NumGoroutine") = false := by kernel_rfl
theorem q123 : Good 123 t123 := ⟨a123, Tryz.f123, Tryz.func123, fun e => by have h := n123; rw [e] at h; simp at h, c123⟩
theorem n124 : (Tryz.f124.name == "runtime.NumGoroutine") = false := by kernel_rfl
theorem q124 : Good 124 t124 := ⟨a124, Tryz.f124, Tryz.func124, fun e => by have h := n124; rw [e] at h; simp at h, c124⟩
theorem n125 : (Tryz.f125.name == "runtime.NumGoroutine") = false := by kernel_rfl
theorem q125 : Good 125 t125 := ⟨a125, Tryz.f125, Tryz.func125, fun e => by have h := n125; rw [e] at h; simp at h, c125⟩
theorem n138 : (Tryz.f138.name == "runtime.NumGoroutine") = false := by kernel_rfl
theorem q138 : Good 138 t138 := ⟨a138, Tryz.f138, Tryz.func138, fun e => by have h := n138; rw [e] at h; simp at h, c138⟩
theorem n139 : (Tryz.f139.name == "runtime.NumGoroutine") = false := by kernel_rfl
theorem q139 : Good 139 t139 := ⟨a139, Tryz.f139, Tryz.func139, fun e => by have h := n139; rw [e] at h; simp at h, c139⟩
theorem n148 : (Tryz.f148.name == "runtime.NumGoroutine") = false := by kernel_rfl
theorem q148 : Good 148 t148 := ⟨a148, Tryz.f148, Tryz.func148, fun e => by have h := n148; rw [e] at h; simp at h, c148⟩
theorem n149 : (Tryz.f149.name == "runtime.NumGoroutine") = false := by kernel_rfl
theorem q149 : Good 149 t149 := ⟨a149, Tryz.f149, Tryz.func149, fun e => by have h := n149; rw [e] at h; simp at h, c149⟩
theorem n150 : (Tryz.f150.name == "runtime.NumGoroutine") = false := by kernel_rfl
theorem q150 : Good 150 t150 := ⟨a150, Tryz.f150, Tryz.func150, fun e => by have h := n150; rw [e] at h; simp at h, c150⟩
theorem n151 : (Tryz.f151.name == "runtime.NumGoroutine") = false := by kernel_rfl
theorem q151 : Good 151 t151 := ⟨a151, Tryz.f151, Tryz.func151, fun e => by have h := n151; rw [e] at h; simp at h, c151⟩
theorem n152 : (Tryz.f152.name == "runtime.NumGoroutine") = false := by kernel_rfl
theorem q152 : Good 152 t152 := ⟨a152, Tryz.f152, Tryz.func152, fun e => by have h := n152; rw [e] at h; simp at h, c152⟩
theorem n153 : (Tryz.f153.name == "runtime.NumGoroutine") = false := by kernel_rfl
theorem q153 : Good 153 t153 := ⟨a153, Tryz.f153, Tryz.func153, fun e => by have h := n153; rw [e] at h; simp at h, c153⟩
theorem n154 : (Tryz.f154.name == "runtime.NumGoroutine") = false := by kernel_rfl
theorem q154 : Good 154 t154 := ⟨a154, Tryz.f154, Tryz.func154, fun e => by have h := n154; rw [e] at h; simp at h, c154⟩
theorem n155 : (Tryz.f155.name == "runtime.NumGoroutine") = false := by kernel_rfl
theorem q155 : Good 155 t155 := ⟨a155, Tryz.f155, Tryz.func155, fun e => by have h := n155; rw [e] at h; simp at h, c155⟩
theorem n156 : (Tryz.f156.name == "runtime.NumGoroutine") = false := by kernel_rfl
theorem q156 : Good 156 t156 := ⟨a156, Tryz.f156, Tryz.func156, fun e => by have h := n156; rw [e] at h; simp at h, c156⟩
theorem n157 : (Tryz.f157.name == "runtime.NumGoroutine") = false := by kernel_rfl
theorem q157 : Good 157 t157 := ⟨a157, Tryz.f157, Tryz.func157, fun e => by have h := n157; rw [e] at h; simp at h, c157⟩
theorem n158 : (Tryz.f158.name == "runtime.NumGoroutine") = false := by kernel_rfl
theorem q158 : Good 158 t158 := ⟨a158, Tryz.f158, Tryz.func158, fun e => by have h := n158; rw [e] at h; simp at h, c158⟩
theorem n161 : (Tryz.f161.name == "runtime.NumGoroutine") = false := by kernel_rfl
theorem q161 : Good 161 t161 := ⟨a161, Tryz.f161, Tryz.func161, fun e => by have h := n161; rw [e] at h; simp at h, c161⟩
theorem n162 : (Tryz.f162.name == "runtime.NumGoroutine") = false := by kernel_rfl
theorem q162 : Good 162 t162 := ⟨a162, Tryz.f162, Tryz.func162, fun e => by have h := n162; rw [e] at h; simp at h, c162⟩
theorem n163 : (Tryz.f163.name == "runtime.NumGoroutine") = false := by kernel_rfl
theorem q163 : Good 163 t163 := ⟨a163, Tryz.f163, Tryz.func163, fun e => by have h := n163; rw [e] at h; simp at h, c163⟩
theorem n164 : (Tryz.f164.name == "runtime.NumGoroutine") = false := by kernel_rfl
theorem q164 : Good 164 t164 := ⟨a164, Tryz.f164, Tryz.func164, fun e => by have h := n164; rw [e] at h; simp at h, c164⟩
theorem n170 : (Tryz.f170.name == "runtime.NumGoroutine") = false := by kernel_rfl
theorem q170 : Good 170 t170 := ⟨a170, Tryz.f170, Tryz.func170, fun e => by have h := n170; rw [e] at h; simp at h, c170⟩
theorem n171 : (Tryz.f171.name == "runtime.NumGoroutine") = false := by kernel_rfl
theorem q171 : Good 171 t171 := ⟨a171, Tryz.f171, Tryz.func171, fun e => by have h := n171; rw [e] at h; simp at h, c171⟩
theorem n172 : (Tryz.f172.name == "runtime.NumGoroutine") = false := by kernel_rfl
theorem q172 : Good 172 t172 := ⟨a172, Tryz.f172, Tryz.func172, fun e => by have h := n172; rw [e] at h; simp at h, c172⟩
theorem n173 : (Tryz.f173.name == "runtime.NumGoroutine") = false := by kernel_rfl
theorem q173 : Good 173 t173 := ⟨a173, Tryz.f173, Tryz.func173, fun e => by have h := n173; rw [e] at h; simp at h, c173⟩
theorem n174 : (Tryz.f174.name == "runtime.NumGoroutine") = false := by kernel_rfl
theorem q174 : Good 174 t174 := ⟨a174, Tryz.f174, Tryz.func174, fun e => by have h := n174; rw [e] at h; simp at h, c174⟩
theorem n175 : (Tryz.f175.name == "runtime.NumGoroutine") = false := by kernel_rfl
theorem q175 : Good 175 t175 := ⟨a175, Tryz.f175, Tryz.func175, fun e => by have h := n175; rw [e] at h; simp at h, c175⟩
theorem n176 : (Tryz.f176.name == "runtime.NumGoroutine") = false := by kernel_rfl
theorem q176 : Good 176 t176 := ⟨a176, Tryz.f176, Tryz.func176, fun e => by have h := n176; rw [e] at h; simp at h, c176⟩
theorem n177 : (Tryz.f177.name == "runtime.NumGoroutine") = false := by kernel_rfl
theorem q177 : Good 177 t177 := ⟨a177, Tryz.f177, Tryz.func177, fun e => by have h := n177; rw [e] at h; simp at h, c177⟩
theorem n178 : (Tryz.f178.name == "runtime.NumGoroutine") = false := by kernel_rfl
theorem q178 : Good 178 t178 := ⟨a178, Tryz.f178, Tryz.func178, fun e => by have h := n178; rw [e] at h; simp at h, c178⟩
theorem n179 : (Tryz.f179.name == "runtime.NumGoroutine") = false := by kernel_rfl
theorem q179 : Good 179 t179 := ⟨a179, Tryz.f179, Tryz.func179, fun e => by have h := n179; rw [e] at h; simp at h, c179⟩
theorem n180 : (Tryz.f180.name == "runtime.NumGoroutine") = false := by kernel_rfl
theorem q180 : Good 180 t180 := ⟨a180, Tryz.f180, Tryz.func180, fun e => by have h := n180; rw [e] at h; simp at h, c180⟩
theorem n181 : (Tryz.f181.name == "runtime.NumGoroutine") = false := by kernel_rfl
theorem q181 : Good 181 t181 := ⟨a181, Tryz.f181, Tryz.func181, fun e => by have h := n181; rw [e] at h; simp at h, c181⟩
theorem n182 : (Tryz.f182.name == "runtime.NumGoroutine") = false := by kernel_rfl
theorem q182 : Good 182 t182 := ⟨a182, Tryz.f182, Tryz.func182, fun e => by have h := n182; rw [e] at h; simp at h, c182⟩
theorem n183 : (Tryz.f183.name == "runtime.NumGoroutine") = false := by kernel_rfl
theorem q183 : Good 183 t183 := ⟨a183, Tryz.f183, Tryz.func183, fun e => by have h := n183; rw [e] at h; simp at h, c183⟩
theorem n184 : (Tryz.f184.name == "runtime.NumGoroutine") = false := by kernel_rfl
theorem q184 : Good 184 t184 := ⟨a184, Tryz.f184, Tryz.func184, fun e => by have h := n184; rw [e] at h; simp at h, c184⟩
theorem n185 : (Tryz.f185.name == "runtime.NumGoroutine") = false := by kernel_rfl
theorem q185 : Good 185 t185 := ⟨a185, Tryz.f185, Tryz.func185, fun e => by have h := n185; rw [e] at h; simp at h, c185⟩
theorem n186 : (Tryz.f186.name == "runtime.NumGoroutine") = false := by kernel_rfl
theorem q186 : Good 186 t186 := ⟨a186, Tryz.f186, Tryz.func186, fun e => by have h := n186; rw [e] at h; simp at h, c186⟩
theorem n187 : (Tryz.f187.name == "runtime.NumGoroutine") = false := by kernel_rfl
theorem q187 : Good 187 t187 := ⟨a187, Tryz.f187, Tryz.func187, fun e => by have h := n187; rw [e] at h; simp at h, c187⟩
theorem n188 : (Tryz.f188.name == "runtime.NumGoroutine") = false := by kernel_rfl
theorem q188 : Good 188 t188 := ⟨a188, Tryz.f188, Tryz.func188, fun e => by have h := n188; rw [e] at h; simp at h, c188⟩
theorem n190 : (Tryz.f190.name == "runtime.NumGoroutine") = false := by kernel_rfl
theorem q190 : Good 190 t190 := ⟨a190, Tryz.f190, Tryz.func190, fun e => by have h := n190; rw [e] at h; simp at h, c190⟩
theorem n191 : (Tryz.f191.name == "runtime.NumGoroutine") = false := by kernel_rfl
theorem q191 : Good 191 t191 := ⟨a191, Tryz.f191, Tryz.func191, fun e => by have h := n191; rw [e] at h; simp at h, c191⟩
theorem n192 : (Tryz.f192.name == "runtime.NumGoroutine") = false := by kernel_rfl
theorem q192 : Good 192 t192 := ⟨a192, Tryz.f192, Tryz.func192, fun e => by have h := n192; rw [e] at h; simp at h, c192⟩
theorem n193 : (Tryz.f193.name == "runtime.NumGoroutine") = false := by kernel_rfl
theorem q193 : Good 193 t193 := ⟨a193, Tryz.f193, Tryz.func193, fun e => by have h := n193; rw [e] at h; simp at h, c193⟩
theorem n194 : (Tryz.f194.name == "runtime.NumGoroutine") = false := by kernel_rfl
theorem q194 : Good 194 t194 := ⟨a194, Tryz.f194, Tryz.func194, fun e => by have h := n194; rw [e] at h; simp at h, c194⟩
theorem n195 : (Tryz.f195.name == "runtime.NumGoroutine") = false := by kernel_rfl
theorem q195 : Good 195 t195 := ⟨a195, Tryz.f195, Tryz.func195, fun e => by have h := n195; rw [e] at h; simp at h, c195⟩
theorem n196 : (Tryz.f196.name == "runtime.NumGoroutine") = false := by kernel_rfl
theorem q196 : Good 196 t196 := ⟨a196, Tryz.f196, Tryz.func196, fun e => by have h := n196; rw [e] at h; simp at h, c196⟩
theorem n197 : (Tryz.f197.name == "runtime.NumGoroutine") = false := by kernel_rfl
theorem q197 : Good 197 t197 := ⟨a197, Tryz.f197, Tryz.func197, fun e => by have h := n197; rw [e] at h; simp at h, c197⟩
theorem n198 : (Tryz.f198.name == "runtime.NumGoroutine") = false := by kernel_rfl
theorem q198 : Good 198 t198 := ⟨a198, Tryz.f198, Tryz.func198, fun e => by have h := n198; rw [e] at h; simp at h, c198⟩
theorem n199 : (Tryz.f199.name == "runtime.NumGoroutine") = false := by kernel_rfl
theorem q199 : Good 199 t199 := ⟨a199, Tryz.f199, Tryz.func199, fun e => by have h := n199; rw [e] at h; simp at h, c199⟩
theorem n200 : (Tryz.f200.name == "runtime.NumGoroutine") = false := by kernel_rfl
theorem q200 : Good 200 t200 := ⟨a200, Tryz.f200, Tryz.func200, fun e => by have h := n200; rw [e] at h; simp at h, c200⟩
theorem n201 : (Tryz.f201.name == "runtime.NumGoroutine") = false := by kernel_rfl
theorem q201 : Good 201 t201 := ⟨a201, Tryz.f201, Tryz.func201, fun e => by have h := n201; rw [e] at h; simp at h, c201⟩
theorem good : AllAt Good 0 tbl := ⟨q4, q9, q10, q11, q13, q17, q18, q19, q20, q33, q34, q35, q36, q37, q38, q40, q41, q42, q43, q44, q45, q47, q49, q50, q51, q52, q53, q54, q55, q56, q57, q58, q73, q74, q75, q76, q77, q78, q81, q82, q83, q84, q85, q86, q87, q88, q89, q90, q91, q92, q93, q108, q109, q110, q111, q112, q115, q116, q117, q118, q119, q120, q121, q122, q123, q124, q125, q138, q139, q148, q149, q150, q151, q152, q153, q154, q155, q156, q157, q158, q161, q162, q163, q164, q170, q171, q172, q173, q174, q175, q176, q177, q178, q179, q180, q181, q182, q183, q184, q185, q186, q187, q188, q190, q191, q192, q193, q194, q195, q196, q197, q198, q199, q200, q201, trivial⟩
theorem kok : KOK Tryz.prog opts K := ⟨fun k tf h => allAt_get good k tf h, fun f p h => primAt_ok (prims_ok opts K) h, by kernel_rfl⟩
end Go.Proofs.YtookmpaholmmfaaGreatDoor
