/- The functions of this seat, compiled for the evaluator TM, a part. By program. Condition: none. -/
import Derived.Test.YtjbpbohpmfpoiaaGreatDoorTmProg1
set_option maxRecDepth 100000
set_option linter.unusedVariables false
namespace Go.Proofs.YtjbpbohpmfpoiaaGreatDoor
open Go Go.TM
def a146 : Ann := { slots := [0,1,2,3,4,10,11,12,13,14,15,16,17,18,28,30,34,46,68,89,94],lb := [],mu := [],trunc := [],draws := [] }
def t146L0 : TCode := (.seq (.seq (.region [o_ (.mov (.loc 1)),o_ (.mov (.loc 12)),s_ 18 (.bin .geq (.reg 0) (.reg 1))])
(.cond (.loc 18)
.skip
(.exit 2)))
(.block 3
(.seq (.region [o_ (.mov (.loc 8)),o_ (.bin .sub (.reg 0) (i_ 1)),s_ 8 (.mov (.reg 1))])
(.seq (.region [o_ (.mov (.loc 1)),o_ (.mov (.loc 12)),o_ (.bin .quo (.reg 0) (.reg 1)),s_ 13 (.mov (.reg 2))])
(.seq (.region [o_ (.mov (.loc 8)),o_ (.mov (.loc 1)),o_ (.mov (.loc 13)),o_ (.mov (.loc 12)),o_ (.bin .mul (.reg 2) (.reg 3)),o_ (.bin .sub (.reg 1) (.reg 4)),o_ (.indexS (.cst (.str [48,49,50,51,52,53,54,55,56,57,97,98,99,100,101,102,103,104,105,106,107,108,109,110,111,112,113,114,115,116,117,118,119,120,121,122])) (.reg 5)),o_ (.indexAddrA 65 1 (.loc 7) (.reg 0)),o_ (.store 1 (.reg 7) (.reg 6))])
(.region [o_ (.mov (.loc 13)),s_ 1 (.mov (.reg 0))]))))))
def t146L1 : TCode := (.seq (.seq (.region [o_ (.mov (.loc 1)),o_ (.mov (.loc 10)),s_ 17 (.bin .geq (.reg 0) (.reg 1))])
(.cond (.loc 17)
.skip
(.exit 0)))
(.block 1
(.seq (.region [o_ (.mov (.loc 8)),o_ (.bin .sub (.reg 0) (i_ 1)),s_ 8 (.mov (.reg 1))])
(.seq (.region [o_ (.mov (.loc 8)),o_ (.mov (.loc 1)),o_ (.mov (.loc 11)),o_ (.bin .and (.reg 1) (.reg 2)),o_ (.indexS (.cst (.str [48,49,50,51,52,53,54,55,56,57,97,98,99,100,101,102,103,104,105,106,107,108,109,110,111,112,113,114,115,116,117,118,119,120,121,122])) (.reg 3)),o_ (.indexAddrA 65 1 (.loc 7) (.reg 0)),o_ (.store 1 (.reg 5) (.reg 4))])
(.region [o_ (.mov (.loc 1)),o_ (.mov (.loc 9)),o_ (.bin .shr (.reg 0) (.reg 1)),s_ 1 (.mov (.reg 2))])))))
def t146 : TFunc := ⟨5,21,[.loc 5,.loc 6],
(.seq (.region [s_ 5 (.mov (.cst (.sl .nil []))),s_ 6 (.mov (.cst (.str [])))])
(.seq (.seq (.region [o_ (.mov (.loc 2)),o_ (.bin .lss (.reg 0) (i_ 2)),o_ (.mov (.reg 1)),⟨.mov (.loc 2),none,(some (2,false))⟩,⟨.bin .eql (.reg 3) (i_ 10),none,(some (2,false))⟩,o_ (.pick (.reg 2) (.cst (.bool true)) (.reg 4)),o_ (.mov (.reg 5)),⟨.mov (.loc 2),none,(some (6,false))⟩,⟨.bin .gtr (.reg 7) (i_ 36),none,(some (6,false))⟩,s_ 14 (.pick (.reg 6) (.cst (.bool true)) (.reg 8))])
(.cond (.loc 14)
(.region [o_ (.bad),o_ (.bad)])
.skip))
(.seq (.region [s_ 7 (.allocH 227 [(.int .u8 0),(.int .u8 0),(.int .u8 0),(.int .u8 0),(.int .u8 0),(.int .u8 0),(.int .u8 0),(.int .u8 0),(.int .u8 0),(.int .u8 0),(.int .u8 0),(.int .u8 0),(.int .u8 0),(.int .u8 0),(.int .u8 0),(.int .u8 0),(.int .u8 0),(.int .u8 0),(.int .u8 0),(.int .u8 0),(.int .u8 0),(.int .u8 0),(.int .u8 0),(.int .u8 0),(.int .u8 0),(.int .u8 0),(.int .u8 0),(.int .u8 0),(.int .u8 0),(.int .u8 0),(.int .u8 0),(.int .u8 0),(.int .u8 0),(.int .u8 0),(.int .u8 0),(.int .u8 0),(.int .u8 0),(.int .u8 0),(.int .u8 0),(.int .u8 0),(.int .u8 0),(.int .u8 0),(.int .u8 0),(.int .u8 0),(.int .u8 0),(.int .u8 0),(.int .u8 0),(.int .u8 0),(.int .u8 0),(.int .u8 0),(.int .u8 0),(.int .u8 0),(.int .u8 0),(.int .u8 0),(.int .u8 0),(.int .u8 0),(.int .u8 0),(.int .u8 0),(.int .u8 0),(.int .u8 0),(.int .u8 0),(.int .u8 0),(.int .u8 0),(.int .u8 0),(.int .u8 0)])])
(.seq (.region [s_ 8 (.mov (i_ 65))])
(.seq (.seq (.region [s_ 15 (.mov (.loc 3))])
(.cond (.loc 15)
(.region [o_ (.mov (.loc 1)),o_ (.un .neg (.reg 0)),s_ 1 (.mov (.reg 1))])
.skip))
(.seq (.seq (.region [o_ (.mov (.loc 2)),s_ 16 (.call true false 154 [(.reg 0)])])
(.cond (.loc 16)
(.seq (.region [o_ (.mov (.loc 2)),o_ (.conv (.toInt .u64) (.reg 0)),o_ (.call true false 155 [(.reg 1)]),o_ (.conv (.toInt .u64) (.reg 2)),s_ 9 (.mov (.reg 3))])
(.seq (.region [o_ (.mov (.loc 2)),o_ (.conv (.toInt .u64) (.reg 0)),s_ 10 (.mov (.reg 1))])
(.seq (.region [o_ (.mov (.loc 2)),o_ (.conv (.toInt .u64) (.reg 0)),o_ (.bin .sub (.reg 1) (.cst (.int .u64 1))),s_ 11 (.mov (.reg 2))])
(.seq (.block 0
(.loop t146L1))
(.seq (.region [o_ (.mov (.loc 8)),o_ (.bin .sub (.reg 0) (i_ 1)),s_ 8 (.mov (.reg 1))])
(.region [o_ (.mov (.loc 8)),o_ (.mov (.loc 1)),o_ (.indexS (.cst (.str [48,49,50,51,52,53,54,55,56,57,97,98,99,100,101,102,103,104,105,106,107,108,109,110,111,112,113,114,115,116,117,118,119,120,121,122])) (.reg 1)),o_ (.indexAddrA 65 1 (.loc 7) (.reg 0)),o_ (.store 1 (.reg 3) (.reg 2))]))))))
(.seq (.region [o_ (.mov (.loc 2)),o_ (.conv (.toInt .u64) (.reg 0)),s_ 12 (.mov (.reg 1))])
(.seq (.block 2
(.loop t146L0))
(.seq (.region [o_ (.mov (.loc 8)),o_ (.bin .sub (.reg 0) (i_ 1)),s_ 8 (.mov (.reg 1))])
(.region [o_ (.mov (.loc 8)),o_ (.mov (.loc 1)),o_ (.indexS (.cst (.str [48,49,50,51,52,53,54,55,56,57,97,98,99,100,101,102,103,104,105,106,107,108,109,110,111,112,113,114,115,116,117,118,119,120,121,122])) (.reg 1)),o_ (.indexAddrA 65 1 (.loc 7) (.reg 0)),o_ (.store 1 (.reg 3) (.reg 2))]))))))
(.seq (.seq (.region [s_ 19 (.mov (.loc 3))])
(.cond (.loc 19)
(.seq (.region [o_ (.mov (.loc 8)),o_ (.bin .sub (.reg 0) (i_ 1)),s_ 8 (.mov (.reg 1))])
(.region [o_ (.mov (.loc 8)),o_ (.indexAddrA 65 1 (.loc 7) (.reg 0)),o_ (.store 1 (.reg 1) (.cst (.int .u8 45)))]))
.skip))
(.seq (.seq (.region [s_ 20 (.mov (.loc 4))])
(.cond (.loc 20)
(.seq (.region [o_ (.mov (.loc 0)),o_ (.mov (.loc 8)),o_ (.slice (.arr 65 1) (.loc 7) (some (.reg 1)) none none),o_ (.append false 1 1 5 (.reg 0) (.reg 2)),s_ 5 (.mov (.reg 3))])
.ret)
.skip))
(.seq (.region [o_ (.mov (.loc 8)),o_ (.slice (.arr 65 1) (.loc 7) (some (.reg 0)) none none),o_ (.conv .bytesStr (.reg 1)),s_ 6 (.mov (.reg 2))])
.ret)))))))))⟩
theorem c146 : compFunc Tryz.prog opts a146 Tryz.f146 = some t146 := by kernel_rfl
def a148 : Ann := { slots := [0,1,4],lb := [],mu := [],trunc := [],draws := [] }
def t148 : TFunc := ⟨2,3,[.loc 2],
(.seq (.region [s_ 2 (.mov (i_ 0))])
(.seq (.region [o_ (.mov (.loc 0)),o_ (.mov (.loc 1)),o_ (.call true false 156 [(.reg 0),(.reg 1)]),s_ 2 (.mov (.reg 2))])
.ret))⟩
theorem c148 : compFunc Tryz.prog opts a148 Tryz.f148 = some t148 := by kernel_rfl
def a151 : Ann := { slots := [0,2],lb := [],mu := [],trunc := [],draws := [] }
def t151 : TFunc := ⟨1,2,[.loc 1],
(.seq (.region [s_ 1 (.mov (i_ 0))])
(.seq (.region [o_ (.mov (.loc 0)),o_ (.bin .mul (.reg 0) (i_ 78913)),o_ (.bin .shr (.reg 1) (.cst (.int .u64 18))),s_ 1 (.mov (.reg 2))])
.ret))⟩
theorem c151 : compFunc Tryz.prog opts a151 Tryz.f151 = some t151 := by kernel_rfl
def a152 : Ann := { slots := [0,2,4,8,14],lb := [],mu := [],trunc := [],draws := [] }
def t152 : TFunc := ⟨1,5,[.loc 1],
(.seq (.region [s_ 1 (.mov (i_ 0))])
(.seq (.seq (.region [o_ (.mov (.loc 0)),s_ 2 (.bin .geq (.reg 0) (.cst (.int .u64 4294967296)))])
(.cond (.loc 2)
(.seq (.region [o_ (.mov (.loc 0)),o_ (.bin .shr (.reg 0) (.cst (.int .u64 32))),s_ 0 (.mov (.reg 1))])
(.region [s_ 1 (.mov (i_ 32))]))
.skip))
(.seq (.seq (.region [o_ (.mov (.loc 0)),s_ 3 (.bin .geq (.reg 0) (.cst (.int .u64 65536)))])
(.cond (.loc 3)
(.seq (.region [o_ (.mov (.loc 0)),o_ (.bin .shr (.reg 0) (.cst (.int .u64 16))),s_ 0 (.mov (.reg 1))])
(.region [o_ (.mov (.loc 1)),o_ (.bin .add (.reg 0) (i_ 16)),s_ 1 (.mov (.reg 1))]))
.skip))
(.seq (.seq (.region [o_ (.mov (.loc 0)),s_ 4 (.bin .geq (.reg 0) (.cst (.int .u64 256)))])
(.cond (.loc 4)
(.seq (.region [o_ (.mov (.loc 0)),o_ (.bin .shr (.reg 0) (.cst (.int .u64 8))),s_ 0 (.mov (.reg 1))])
(.region [o_ (.mov (.loc 1)),o_ (.bin .add (.reg 0) (i_ 8)),s_ 1 (.mov (.reg 1))]))
.skip))
(.seq (.region [o_ (.mov (.loc 1)),o_ (.mov (.loc 0)),o_ (.conv (.toInt .u8) (.reg 1)),o_ (.indexS (.cst (.str [0,1,2,2,3,3,3,3,4,4,4,4,4,4,4,4,5,5,5,5,5,5,5,5,5,5,5,5,5,5,5,5,6,6,6,6,6,6,6,6,6,6,6,6,6,6,6,6,6,6,6,6,6,6,6,6,6,6,6,6,6,6,6,6,7,7,7,7,7,7,7,7,7,7,7,7,7,7,7,7,7,7,7,7,7,7,7,7,7,7,7,7,7,7,7,7,7,7,7,7,7,7,7,7,7,7,7,7,7,7,7,7,7,7,7,7,7,7,7,7,7,7,7,7,7,7,7,7,8,8,8,8,8,8,8,8,8,8,8,8,8,8,8,8,8,8,8,8,8,8,8,8,8,8,8,8,8,8,8,8,8,8,8,8,8,8,8,8,8,8,8,8,8,8,8,8,8,8,8,8,8,8,8,8,8,8,8,8,8,8,8,8,8,8,8,8,8,8,8,8,8,8,8,8,8,8,8,8,8,8,8,8,8,8,8,8,8,8,8,8,8,8,8,8,8,8,8,8,8,8,8,8,8,8,8,8,8,8,8,8,8,8,8,8,8,8,8,8,8,8,8,8,8,8,8,8])) (.reg 2)),o_ (.conv (.toInt .i64) (.reg 3)),o_ (.bin .add (.reg 0) (.reg 4)),s_ 1 (.mov (.reg 5))])
.ret)))))⟩
theorem c152 : compFunc Tryz.prog opts a152 Tryz.f152 = some t152 := by kernel_rfl
def a153 : Ann := { slots := [0,2,3],lb := [],mu := [],trunc := [],draws := [] }
def t153 : TFunc := ⟨1,3,[.loc 1],
(.seq (.region [s_ 1 (.mov (i_ 0))])
(.seq (.seq (.region [s_ 2 (.mov (.loc 0))])
(.cond (.loc 2)
(.seq (.region [s_ 1 (.mov (i_ 1))])
.ret)
.skip))
(.seq (.region [s_ 1 (.mov (i_ 0))])
.ret)))⟩
theorem c153 : compFunc Tryz.prog opts a153 Tryz.f153 = some t153 := by kernel_rfl
def a154 : Ann := { slots := [0,2],lb := [],mu := [],trunc := [],draws := [] }
def t154 : TFunc := ⟨1,2,[.loc 1],
(.seq (.region [s_ 1 (.mov (.cst (.bool false)))])
(.seq (.region [o_ (.mov (.loc 0)),o_ (.mov (.loc 0)),o_ (.bin .sub (.reg 1) (i_ 1)),o_ (.bin .and (.reg 0) (.reg 2)),o_ (.bin .eql (.reg 3) (i_ 0)),s_ 1 (.mov (.reg 4))])
.ret))⟩
theorem c154 : compFunc Tryz.prog opts a154 Tryz.f154 = some t154 := by kernel_rfl
def a155 : Ann := { slots := [0,2],lb := [],mu := [],trunc := [],draws := [] }
def t155 : TFunc := ⟨1,2,[.loc 1],
(.seq (.region [s_ 1 (.mov (i_ 0))])
(.seq (.cond (.cst (.bool false))
(.seq (.region [o_ (.mov (.loc 0)),o_ (.conv (.toInt .u32) (.reg 0)),o_ (.call true false 157 [(.reg 1)]),s_ 1 (.mov (.reg 2))])
.ret)
.skip)
(.seq (.region [o_ (.mov (.loc 0)),o_ (.call true false 158 [(.reg 0)]),s_ 1 (.mov (.reg 1))])
.ret)))⟩
theorem c155 : compFunc Tryz.prog opts a155 Tryz.f155 = some t155 := by kernel_rfl
def a156 : Ann := { slots := [0,1,4],lb := [],mu := [],trunc := [],draws := [] }
def t156 : TFunc := ⟨2,3,[.loc 2],
(.seq (.region [s_ 2 (.mov (i_ 0))])
(.seq (.region [o_ (.mov (.loc 0)),o_ (.mov (.loc 1)),o_ (.prim 159 [(.reg 0),(.reg 1)]),s_ 2 (.mov (.reg 2))])
.ret))⟩
theorem c156 : compFunc Tryz.prog opts a156 Tryz.f156 = some t156 := by kernel_rfl
def a157 : Ann := { slots := [0,2,4],lb := [],mu := [],trunc := [],draws := [] }
def t157 : TFunc := ⟨1,3,[.loc 1],
(.seq (.region [s_ 1 (.mov (i_ 0))])
(.seq (.seq (.region [o_ (.mov (.loc 0)),s_ 2 (.bin .eql (.reg 0) (.cst (.int .u32 0)))])
(.cond (.loc 2)
(.seq (.region [s_ 1 (.mov (i_ 32))])
.ret)
.skip))
(.seq (.region [o_ (.mov (.loc 0)),o_ (.mov (.loc 0)),o_ (.un .neg (.reg 1)),o_ (.bin .and (.reg 0) (.reg 2)),o_ (.bin .mul (.reg 3) (.cst (.int .u32 125613361))),o_ (.bin .shr (.reg 4) (.cst (.int .u64 27))),o_ (.indexAddrA 32 1 (.glob 4) (.reg 5)),o_ (.load1 (.reg 6)),o_ (.conv (.toInt .i64) (.reg 7)),s_ 1 (.mov (.reg 8))])
.ret)))⟩
theorem c157 : compFunc Tryz.prog opts a157 Tryz.f157 = some t157 := by kernel_rfl
def a158 : Ann := { slots := [0,2,4],lb := [],mu := [],trunc := [],draws := [] }
def t158 : TFunc := ⟨1,3,[.loc 1],
(.seq (.region [s_ 1 (.mov (i_ 0))])
(.seq (.seq (.region [o_ (.mov (.loc 0)),s_ 2 (.bin .eql (.reg 0) (.cst (.int .u64 0)))])
(.cond (.loc 2)
(.seq (.region [s_ 1 (.mov (i_ 64))])
.ret)
.skip))
(.seq (.region [o_ (.mov (.loc 0)),o_ (.mov (.loc 0)),o_ (.un .neg (.reg 1)),o_ (.bin .and (.reg 0) (.reg 2)),o_ (.bin .mul (.reg 3) (.cst (.int .u64 285870213051353865))),o_ (.bin .shr (.reg 4) (.cst (.int .u64 58))),o_ (.indexAddrA 64 1 (.glob 5) (.reg 5)),o_ (.load1 (.reg 6)),o_ (.conv (.toInt .i64) (.reg 7)),s_ 1 (.mov (.reg 8))])
.ret)))⟩
theorem c158 : compFunc Tryz.prog opts a158 Tryz.f158 = some t158 := by kernel_rfl
def g0 : List IV := [(.int .u8 240),(.int .u8 240),(.int .u8 240),(.int .u8 240),(.int .u8 240),(.int .u8 240),(.int .u8 240),(.int .u8 240),(.int .u8 240),(.int .u8 240),(.int .u8 240),(.int .u8 240),(.int .u8 240),(.int .u8 240),(.int .u8 240),(.int .u8 240),(.int .u8 240),(.int .u8 240),(.int .u8 240),(.int .u8 240),(.int .u8 240),(.int .u8 240),(.int .u8 240),(.int .u8 240),(.int .u8 240),(.int .u8 240),(.int .u8 240),(.int .u8 240),(.int .u8 240),(.int .u8 240),(.int .u8 240),(.int .u8 240),(.int .u8 240),(.int .u8 240),(.int .u8 240),(.int .u8 240),(.int .u8 240),(.int .u8 240),(.int .u8 240),(.int .u8 240),(.int .u8 240),(.int .u8 240),(.int .u8 240),(.int .u8 240),(.int .u8 240),(.int .u8 240),(.int .u8 240),(.int .u8 240),(.int .u8 240),(.int .u8 240),(.int .u8 240),(.int .u8 240),(.int .u8 240),(.int .u8 240),(.int .u8 240),(.int .u8 240),(.int .u8 240),(.int .u8 240),(.int .u8 240),(.int .u8 240),(.int .u8 240),(.int .u8 240),(.int .u8 240),(.int .u8 240),(.int .u8 240),(.int .u8 240),(.int .u8 240),(.int .u8 240),(.int .u8 240),(.int .u8 240),(.int .u8 240),(.int .u8 240),(.int .u8 240),(.int .u8 240),(.int .u8 240),(.int .u8 240),(.int .u8 240),(.int .u8 240),(.int .u8 240),(.int .u8 240),(.int .u8 240),(.int .u8 240),(.int .u8 240),(.int .u8 240),(.int .u8 240),(.int .u8 240),(.int .u8 240),(.int .u8 240),(.int .u8 240),(.int .u8 240),(.int .u8 240),(.int .u8 240),(.int .u8 240),(.int .u8 240),(.int .u8 240),(.int .u8 240),(.int .u8 240),(.int .u8 240),(.int .u8 240),(.int .u8 240),(.int .u8 240),(.int .u8 240),(.int .u8 240),(.int .u8 240),(.int .u8 240),(.int .u8 240),(.int .u8 240),(.int .u8 240),(.int .u8 240),(.int .u8 240),(.int .u8 240),(.int .u8 240),(.int .u8 240),(.int .u8 240),(.int .u8 240),(.int .u8 240),(.int .u8 240),(.int .u8 240),(.int .u8 240),(.int .u8 240),(.int .u8 240),(.int .u8 240),(.int .u8 240),(.int .u8 240),(.int .u8 240),(.int .u8 240),(.int .u8 240),(.int .u8 240),(.int .u8 241),(.int .u8 241),(.int .u8 241),(.int .u8 241),(.int .u8 241),(.int .u8 241),(.int .u8 241),(.int .u8 241),(.int .u8 241),(.int .u8 241),(.int .u8 241),(.int .u8 241),(.int .u8 241),(.int .u8 241),(.int .u8 241),(.int .u8 241),(.int .u8 241),(.int .u8 241),(.int .u8 241),(.int .u8 241),(.int .u8 241),(.int .u8 241),(.int .u8 241),(.int .u8 241),(.int .u8 241),(.int .u8 241),(.int .u8 241),(.int .u8 241),(.int .u8 241),(.int .u8 241),(.int .u8 241),(.int .u8 241),(.int .u8 241),(.int .u8 241),(.int .u8 241),(.int .u8 241),(.int .u8 241),(.int .u8 241),(.int .u8 241),(.int .u8 241),(.int .u8 241),(.int .u8 241),(.int .u8 241),(.int .u8 241),(.int .u8 241),(.int .u8 241),(.int .u8 241),(.int .u8 241),(.int .u8 241),(.int .u8 241),(.int .u8 241),(.int .u8 241),(.int .u8 241),(.int .u8 241),(.int .u8 241),(.int .u8 241),(.int .u8 241),(.int .u8 241),(.int .u8 241),(.int .u8 241),(.int .u8 241),(.int .u8 241),(.int .u8 241),(.int .u8 241),(.int .u8 241),(.int .u8 241),(.int .u8 2),(.int .u8 2),(.int .u8 2),(.int .u8 2),(.int .u8 2),(.int .u8 2),(.int .u8 2),(.int .u8 2),(.int .u8 2),(.int .u8 2),(.int .u8 2),(.int .u8 2),(.int .u8 2),(.int .u8 2),(.int .u8 2),(.int .u8 2),(.int .u8 2),(.int .u8 2),(.int .u8 2),(.int .u8 2),(.int .u8 2),(.int .u8 2),(.int .u8 2),(.int .u8 2),(.int .u8 2),(.int .u8 2),(.int .u8 2),(.int .u8 2),(.int .u8 2),(.int .u8 2),(.int .u8 19),(.int .u8 3),(.int .u8 3),(.int .u8 3),(.int .u8 3),(.int .u8 3),(.int .u8 3),(.int .u8 3),(.int .u8 3),(.int .u8 3),(.int .u8 3),(.int .u8 3),(.int .u8 3),(.int .u8 35),(.int .u8 3),(.int .u8 3),(.int .u8 52),(.int .u8 4),(.int .u8 4),(.int .u8 4),(.int .u8 68),(.int .u8 241),(.int .u8 241),(.int .u8 241),(.int .u8 241),(.int .u8 241),(.int .u8 241),(.int .u8 241),(.int .u8 241),(.int .u8 241),(.int .u8 241),(.int .u8 241)]
def g1 : List IV := [(.int .u8 128),(.int .u8 191),(.int .u8 160),(.int .u8 191),(.int .u8 128),(.int .u8 159),(.int .u8 144),(.int .u8 191),(.int .u8 128),(.int .u8 143),(.int .u8 0),(.int .u8 0),(.int .u8 0),(.int .u8 0),(.int .u8 0),(.int .u8 0),(.int .u8 0),(.int .u8 0),(.int .u8 0),(.int .u8 0),(.int .u8 0),(.int .u8 0),(.int .u8 0),(.int .u8 0),(.int .u8 0),(.int .u8 0),(.int .u8 0),(.int .u8 0),(.int .u8 0),(.int .u8 0),(.int .u8 0),(.int .u8 0)]
def g2 : List IV := [(.int .u64 1),(.int .u64 10),(.int .u64 100),(.int .u64 1000),(.int .u64 10000),(.int .u64 100000),(.int .u64 1000000),(.int .u64 10000000),(.int .u64 100000000),(.int .u64 1000000000),(.int .u64 10000000000),(.int .u64 100000000000),(.int .u64 1000000000000),(.int .u64 10000000000000),(.int .u64 100000000000000),(.int .u64 1000000000000000),(.int .u64 10000000000000000),(.int .u64 100000000000000000),(.int .u64 1000000000000000000),(.int .u64 10000000000000000000)]
def g4 : List IV := [(.int .u8 0),(.int .u8 1),(.int .u8 28),(.int .u8 2),(.int .u8 29),(.int .u8 14),(.int .u8 24),(.int .u8 3),(.int .u8 30),(.int .u8 22),(.int .u8 20),(.int .u8 15),(.int .u8 25),(.int .u8 17),(.int .u8 4),(.int .u8 8),(.int .u8 31),(.int .u8 27),(.int .u8 13),(.int .u8 23),(.int .u8 21),(.int .u8 19),(.int .u8 16),(.int .u8 7),(.int .u8 26),(.int .u8 12),(.int .u8 18),(.int .u8 6),(.int .u8 11),(.int .u8 5),(.int .u8 10),(.int .u8 9)]
def g5 : List IV := [(.int .u8 0),(.int .u8 1),(.int .u8 56),(.int .u8 2),(.int .u8 57),(.int .u8 49),(.int .u8 28),(.int .u8 3),(.int .u8 61),(.int .u8 58),(.int .u8 42),(.int .u8 50),(.int .u8 38),(.int .u8 29),(.int .u8 17),(.int .u8 4),(.int .u8 62),(.int .u8 47),(.int .u8 59),(.int .u8 36),(.int .u8 45),(.int .u8 43),(.int .u8 51),(.int .u8 22),(.int .u8 53),(.int .u8 39),(.int .u8 33),(.int .u8 30),(.int .u8 24),(.int .u8 18),(.int .u8 12),(.int .u8 5),(.int .u8 63),(.int .u8 55),(.int .u8 48),(.int .u8 27),(.int .u8 60),(.int .u8 41),(.int .u8 37),(.int .u8 16),(.int .u8 46),(.int .u8 35),(.int .u8 44),(.int .u8 21),(.int .u8 52),(.int .u8 32),(.int .u8 23),(.int .u8 11),(.int .u8 54),(.int .u8 26),(.int .u8 40),(.int .u8 15),(.int .u8 34),(.int .u8 20),(.int .u8 31),(.int .u8 10),(.int .u8 25),(.int .u8 14),(.int .u8 19),(.int .u8 9),(.int .u8 13),(.int .u8 8),(.int .u8 7),(.int .u8 6)]
def tbl : List (Option TFunc) := [none,none,none,none,none,some t5,none,some t7,some t8,none,none,some t11,some t12,some t13,some t14,some t15,some t16,some t17,none,some t19,some t20,some t21,some t22,some t23,some t24,some t25,none,none,none,none,some t30,some t31,some t32,some t33,some t34,some t35,some t36,some t37,none,none,none,none,some t42,some t43,some t44,some t45,some t46,some t47,some t48,some t49,some t50,some t51,some t52,some t53,some t54,some t55,some t56,some t57,some t58,some t59,some t60,none,none,none,none,none,none,some t67,some t68,some t69,some t70,some t71,none,some t73,some t74,some t75,some t76,some t77,some t78,some t79,some t80,some t81,some t82,some t83,some t84,none,none,none,none,none,none,none,some t92,some t93,some t94,some t95,some t96,some t97,none,some t99,some t100,some t101,some t102,some t103,some t104,some t105,some t106,some t107,some t108,none,none,none,none,none,none,none,some t116,some t117,some t118,some t119,some t120,some t121,some t122,none,some t124,some t125,some t126,some t127,some t128,some t129,some t130,some t131,none,none,none,some t135,some t136,some t137,some t138,some t139,some t140,some t141,none,some t143,some t144,some t145,some t146,none,some t148,none,none,some t151,some t152,some t153,some t154,some t155,some t156,some t157,some t158]
def gtbl : List (Option (List IV)) := [some g0,some g1,some g2,none,some g4,some g5]
def K : TM.Prog := ⟨fun k => tbl.getD k none,fun g => gtbl.getD g none,fun f => primAt prims f⟩
def Good (k : Nat) (tf : TFunc) : Prop := ∃ (A : Ann) (fn : Func), Tryz.prog.funcs[k]? = some fn ∧ fn.name ≠ "runtime.NumGoroutine" ∧ compFunc Tryz.prog opts A fn = some tf
theorem n5 : (Tryz.f5.name == "runtime.NumGoroutine") = false := by kernel_rfl
theorem q5 : Good 5 t5 := ⟨a5,Tryz.f5,Tryz.func5,fun e => by have h := n5; rw [e] at h; simp at h,c5⟩
theorem n7 : (Tryz.f7.name == "runtime.NumGoroutine") = false := by kernel_rfl
theorem q7 : Good 7 t7 := ⟨a7,Tryz.f7,Tryz.func7,fun e => by have h := n7; rw [e] at h; simp at h,c7⟩
theorem n8 : (Tryz.f8.name == "runtime.NumGoroutine") = false := by kernel_rfl
theorem q8 : Good 8 t8 := ⟨a8,Tryz.f8,Tryz.func8,fun e => by have h := n8; rw [e] at h; simp at h,c8⟩
theorem n11 : (Tryz.f11.name == "runtime.NumGoroutine") = false := by kernel_rfl
theorem q11 : Good 11 t11 := ⟨a11,Tryz.f11,Tryz.func11,fun e => by have h := n11; rw [e] at h; simp at h,c11⟩
theorem n12 : (Tryz.f12.name == "runtime.NumGoroutine") = false := by kernel_rfl
theorem q12 : Good 12 t12 := ⟨a12,Tryz.f12,Tryz.func12,fun e => by have h := n12; rw [e] at h; simp at h,c12⟩
theorem n13 : (Tryz.f13.name == "runtime.NumGoroutine") = false := by kernel_rfl
theorem q13 : Good 13 t13 := ⟨a13,Tryz.f13,Tryz.func13,fun e => by have h := n13; rw [e] at h; simp at h,c13⟩
theorem n14 : (Tryz.f14.name == "runtime.NumGoroutine") = false := by kernel_rfl
theorem q14 : Good 14 t14 := ⟨a14,Tryz.f14,Tryz.func14,fun e => by have h := n14; rw [e] at h; simp at h,c14⟩
theorem n15 : (Tryz.f15.name == "runtime.NumGoroutine") = false := by kernel_rfl
theorem q15 : Good 15 t15 := ⟨a15,Tryz.f15,Tryz.func15,fun e => by have h := n15; rw [e] at h; simp at h,c15⟩
theorem n16 : (Tryz.f16.name == "runtime.NumGoroutine") = false := by kernel_rfl
theorem q16 : Good 16 t16 := ⟨a16,Tryz.f16,Tryz.func16,fun e => by have h := n16; rw [e] at h; simp at h,c16⟩
theorem n17 : (Tryz.f17.name == "runtime.NumGoroutine") = false := by kernel_rfl
theorem q17 : Good 17 t17 := ⟨a17,Tryz.f17,Tryz.func17,fun e => by have h := n17; rw [e] at h; simp at h,c17⟩
theorem n19 : (Tryz.f19.name == "runtime.NumGoroutine") = false := by kernel_rfl
theorem q19 : Good 19 t19 := ⟨a19,Tryz.f19,Tryz.func19,fun e => by have h := n19; rw [e] at h; simp at h,c19⟩
theorem n20 : (Tryz.f20.name == "runtime.NumGoroutine") = false := by kernel_rfl
theorem q20 : Good 20 t20 := ⟨a20,Tryz.f20,Tryz.func20,fun e => by have h := n20; rw [e] at h; simp at h,c20⟩
theorem n21 : (Tryz.f21.name == "runtime.NumGoroutine") = false := by kernel_rfl
theorem q21 : Good 21 t21 := ⟨a21,Tryz.f21,Tryz.func21,fun e => by have h := n21; rw [e] at h; simp at h,c21⟩
theorem n22 : (Tryz.f22.name == "runtime.NumGoroutine") = false := by kernel_rfl
theorem q22 : Good 22 t22 := ⟨a22,Tryz.f22,Tryz.func22,fun e => by have h := n22; rw [e] at h; simp at h,c22⟩
theorem n23 : (Tryz.f23.name == "runtime.NumGoroutine") = false := by kernel_rfl
theorem q23 : Good 23 t23 := ⟨a23,Tryz.f23,Tryz.func23,fun e => by have h := n23; rw [e] at h; simp at h,c23⟩
theorem n24 : (Tryz.f24.name == "runtime.NumGoroutine") = false := by kernel_rfl
theorem q24 : Good 24 t24 := ⟨a24,Tryz.f24,Tryz.func24,fun e => by have h := n24; rw [e] at h; simp at h,c24⟩
theorem n25 : (Tryz.f25.name == "runtime.NumGoroutine") = false := by kernel_rfl
theorem q25 : Good 25 t25 := ⟨a25,Tryz.f25,Tryz.func25,fun e => by have h := n25; rw [e] at h; simp at h,c25⟩
theorem n30 : (Tryz.f30.name == "runtime.NumGoroutine") = false := by kernel_rfl
theorem q30 : Good 30 t30 := ⟨a30,Tryz.f30,Tryz.func30,fun e => by have h := n30; rw [e] at h; simp at h,c30⟩
theorem n31 : (Tryz.f31.name == "runtime.NumGoroutine") = false := by kernel_rfl
theorem q31 : Good 31 t31 := ⟨a31,Tryz.f31,Tryz.func31,fun e => by have h := n31; rw [e] at h; simp at h,c31⟩
theorem n32 : (Tryz.f32.name == "runtime.NumGoroutine") = false := by kernel_rfl
theorem q32 : Good 32 t32 := ⟨a32,Tryz.f32,Tryz.func32,fun e => by have h := n32; rw [e] at h; simp at h,c32⟩
theorem n33 : (Tryz.f33.name == "runtime.NumGoroutine") = false := by kernel_rfl
theorem q33 : Good 33 t33 := ⟨a33,Tryz.f33,Tryz.func33,fun e => by have h := n33; rw [e] at h; simp at h,c33⟩
theorem n34 : (Tryz.f34.name == "runtime.NumGoroutine") = false := by kernel_rfl
theorem q34 : Good 34 t34 := ⟨a34,Tryz.f34,Tryz.func34,fun e => by have h := n34; rw [e] at h; simp at h,c34⟩
theorem n35 : (Tryz.f35.name == "runtime.NumGoroutine") = false := by kernel_rfl
theorem q35 : Good 35 t35 := ⟨a35,Tryz.f35,Tryz.func35,fun e => by have h := n35; rw [e] at h; simp at h,c35⟩
theorem n36 : (Tryz.f36.name == "runtime.NumGoroutine") = false := by kernel_rfl
theorem q36 : Good 36 t36 := ⟨a36,Tryz.f36,Tryz.func36,fun e => by have h := n36; rw [e] at h; simp at h,c36⟩
theorem n37 : (Tryz.f37.name == "runtime.NumGoroutine") = false := by kernel_rfl
theorem q37 : Good 37 t37 := ⟨a37,Tryz.f37,Tryz.func37,fun e => by have h := n37; rw [e] at h; simp at h,c37⟩
theorem n42 : (Tryz.f42.name == "runtime.NumGoroutine") = false := by kernel_rfl
theorem q42 : Good 42 t42 := ⟨a42,Tryz.f42,Tryz.func42,fun e => by have h := n42; rw [e] at h; simp at h,c42⟩
theorem n43 : (Tryz.f43.name == "runtime.NumGoroutine") = false := by kernel_rfl
theorem q43 : Good 43 t43 := ⟨a43,Tryz.f43,Tryz.func43,fun e => by have h := n43; rw [e] at h; simp at h,c43⟩
theorem n44 : (Tryz.f44.name == "runtime.NumGoroutine") = false := by kernel_rfl
theorem q44 : Good 44 t44 := ⟨a44,Tryz.f44,Tryz.func44,fun e => by have h := n44; rw [e] at h; simp at h,c44⟩
theorem n45 : (Tryz.f45.name == "runtime.NumGoroutine") = false := by kernel_rfl
theorem q45 : Good 45 t45 := ⟨a45,Tryz.f45,Tryz.func45,fun e => by have h := n45; rw [e] at h; simp at h,c45⟩
theorem n46 : (Tryz.f46.name == "runtime.NumGoroutine") = false := by kernel_rfl
theorem q46 : Good 46 t46 := ⟨a46,Tryz.f46,Tryz.func46,fun e => by have h := n46; rw [e] at h; simp at h,c46⟩
theorem n47 : (Tryz.f47.name == "runtime.NumGoroutine") = false := by kernel_rfl
theorem q47 : Good 47 t47 := ⟨a47,Tryz.f47,Tryz.func47,fun e => by have h := n47; rw [e] at h; simp at h,c47⟩
theorem n48 : (Tryz.f48.name == "runtime.NumGoroutine") = false := by kernel_rfl
theorem q48 : Good 48 t48 := ⟨a48,Tryz.f48,Tryz.func48,fun e => by have h := n48; rw [e] at h; simp at h,c48⟩
theorem n49 : (Tryz.f49.name == "runtime.NumGoroutine") = false := by kernel_rfl
theorem q49 : Good 49 t49 := ⟨a49,Tryz.f49,Tryz.func49,fun e => by have h := n49; rw [e] at h; simp at h,c49⟩
theorem n50 : (Tryz.f50.name == "runtime.NumGoroutine") = false := by kernel_rfl
theorem q50 : Good 50 t50 := ⟨a50,Tryz.f50,Tryz.func50,fun e => by have h := n50; rw [e] at h; simp at h,c50⟩
theorem n51 : (Tryz.f51.name == "runtime.NumGoroutine") = false := by kernel_rfl
theorem q51 : Good 51 t51 := ⟨a51,Tryz.f51,Tryz.func51,fun e => by have h := n51; rw [e] at h; simp at h,c51⟩
theorem n52 : (Tryz.f52.name == "runtime.NumGoroutine") = false := by kernel_rfl
theorem q52 : Good 52 t52 := ⟨a52,Tryz.f52,Tryz.func52,fun e => by have h := n52; rw [e] at h; simp at h,c52⟩
theorem n53 : (Tryz.f53.name == "runtime.NumGoroutine") = false := by kernel_rfl
theorem q53 : Good 53 t53 := ⟨a53,Tryz.f53,Tryz.func53,fun e => by have h := n53; rw [e] at h; simp at h,c53⟩
theorem n54 : (Tryz.f54.name == "runtime.NumGoroutine") = false := by kernel_rfl
theorem q54 : Good 54 t54 := ⟨a54,Tryz.f54,Tryz.func54,fun e => by have h := n54; rw [e] at h; simp at h,c54⟩
theorem n55 : (Tryz.f55.name == "runtime.NumGoroutine") = false := by kernel_rfl
theorem q55 : Good 55 t55 := ⟨a55,Tryz.f55,Tryz.func55,fun e => by have h := n55; rw [e] at h; simp at h,c55⟩
theorem n56 : (Tryz.f56.name == "runtime.NumGoroutine") = false := by kernel_rfl
theorem q56 : Good 56 t56 := ⟨a56,Tryz.f56,Tryz.func56,fun e => by have h := n56; rw [e] at h; simp at h,c56⟩
theorem n57 : (Tryz.f57.name == "runtime.NumGoroutine") = false := by kernel_rfl
theorem q57 : Good 57 t57 := ⟨a57,Tryz.f57,Tryz.func57,fun e => by have h := n57; rw [e] at h; simp at h,c57⟩
theorem n58 : (Tryz.f58.name == "runtime.NumGoroutine") = false := by kernel_rfl
theorem q58 : Good 58 t58 := ⟨a58,Tryz.f58,Tryz.func58,fun e => by have h := n58; rw [e] at h; simp at h,c58⟩
theorem n59 : (Tryz.f59.name == "runtime.NumGoroutine") = false := by kernel_rfl
theorem q59 : Good 59 t59 := ⟨a59,Tryz.f59,Tryz.func59,fun e => by have h := n59; rw [e] at h; simp at h,c59⟩
theorem n60 : (Tryz.f60.name == "runtime.NumGoroutine") = false := by kernel_rfl
theorem q60 : Good 60 t60 := ⟨a60,Tryz.f60,Tryz.func60,fun e => by have h := n60; rw [e] at h; simp at h,c60⟩
theorem n67 : (Tryz.f67.name == "runtime.NumGoroutine") = false := by kernel_rfl
theorem q67 : Good 67 t67 := ⟨a67,Tryz.f67,Tryz.func67,fun e => by have h := n67; rw [e] at h; simp at h,c67⟩
theorem n68 : (Tryz.f68.name == "runtime.NumGoroutine") = false := by kernel_rfl
theorem q68 : Good 68 t68 := ⟨a68,Tryz.f68,Tryz.func68,fun e => by have h := n68; rw [e] at h; simp at h,c68⟩
theorem n69 : (Tryz.f69.name == "runtime.NumGoroutine") = false := by kernel_rfl
theorem q69 : Good 69 t69 := ⟨a69,Tryz.f69,Tryz.func69,fun e => by have h := n69; rw [e] at h; simp at h,c69⟩
theorem n70 : (Tryz.f70.name == "runtime.NumGoroutine") = false := by kernel_rfl
theorem q70 : Good 70 t70 := ⟨a70,Tryz.f70,Tryz.func70,fun e => by have h := n70; rw [e] at h; simp at h,c70⟩
theorem n71 : (Tryz.f71.name == "runtime.NumGoroutine") = false := by kernel_rfl
theorem q71 : Good 71 t71 := ⟨a71,Tryz.f71,Tryz.func71,fun e => by have h := n71; rw [e] at h; simp at h,c71⟩
theorem n73 : (Tryz.f73.name == "runtime.NumGoroutine") = false := by kernel_rfl
theorem q73 : Good 73 t73 := ⟨a73,Tryz.f73,Tryz.func73,fun e => by have h := n73; rw [e] at h; simp at h,c73⟩
theorem n74 : (Tryz.f74.name == "runtime.NumGoroutine") = false := by kernel_rfl
theorem q74 : Good 74 t74 := ⟨a74,Tryz.f74,Tryz.func74,fun e => by have h := n74; rw [e] at h; simp at h,c74⟩
theorem n75 : (Tryz.f75.name == "runtime.NumGoroutine") = false := by kernel_rfl
theorem q75 : Good 75 t75 := ⟨a75,Tryz.f75,Tryz.func75,fun e => by have h := n75; rw [e] at h; simp at h,c75⟩
theorem n76 : (Tryz.f76.name == "runtime.NumGoroutine") = false := by kernel_rfl
theorem q76 : Good 76 t76 := ⟨a76,Tryz.f76,Tryz.func76,fun e => by have h := n76; rw [e] at h; simp at h,c76⟩
theorem n77 : (Tryz.f77.name == "runtime.NumGoroutine") = false := by kernel_rfl
theorem q77 : Good 77 t77 := ⟨a77,Tryz.f77,Tryz.func77,fun e => by have h := n77; rw [e] at h; simp at h,c77⟩
theorem n78 : (Tryz.f78.name == "runtime.NumGoroutine") = false := by kernel_rfl
theorem q78 : Good 78 t78 := ⟨a78,Tryz.f78,Tryz.func78,fun e => by have h := n78; rw [e] at h; simp at h,c78⟩
theorem n79 : (Tryz.f79.name == "runtime.NumGoroutine") = false := by kernel_rfl
theorem q79 : Good 79 t79 := ⟨a79,Tryz.f79,Tryz.func79,fun e => by have h := n79; rw [e] at h; simp at h,c79⟩
theorem n80 : (Tryz.f80.name == "runtime.NumGoroutine") = false := by kernel_rfl
theorem q80 : Good 80 t80 := ⟨a80,Tryz.f80,Tryz.func80,fun e => by have h := n80; rw [e] at h; simp at h,c80⟩
theorem n81 : (Tryz.f81.name == "runtime.NumGoroutine") = false := by kernel_rfl
theorem q81 : Good 81 t81 := ⟨a81,Tryz.f81,Tryz.func81,fun e => by have h := n81; rw [e] at h; simp at h,c81⟩
theorem n82 : (Tryz.f82.name == "runtime.NumGoroutine") = false := by kernel_rfl
theorem q82 : Good 82 t82 := ⟨a82,Tryz.f82,Tryz.func82,fun e => by have h := n82; rw [e] at h; simp at h,c82⟩
theorem n83 : (Tryz.f83.name == "runtime.NumGoroutine") = false := by kernel_rfl
theorem q83 : Good 83 t83 := ⟨a83,Tryz.f83,Tryz.func83,fun e => by have h := n83; rw [e] at h; simp at h,c83⟩
theorem n84 : (Tryz.f84.name == "runtime.NumGoroutine") = false := by kernel_rfl
theorem q84 : Good 84 t84 := ⟨a84,Tryz.f84,Tryz.func84,fun e => by have h := n84; rw [e] at h; simp at h,c84⟩
theorem n92 : (Tryz.f92.name == "runtime.NumGoroutine") = false := by kernel_rfl
theorem q92 : Good 92 t92 := ⟨a92,Tryz.f92,Tryz.func92,fun e => by have h := n92; rw [e] at h; simp at h,c92⟩
theorem n93 : (Tryz.f93.name == "runtime.NumGoroutine") = false := by kernel_rfl
theorem q93 : Good 93 t93 := ⟨a93,Tryz.f93,Tryz.func93,fun e => by have h := n93; rw [e] at h; simp at h,c93⟩
theorem n94 : (Tryz.f94.name == "runtime.NumGoroutine") = false := by kernel_rfl
theorem q94 : Good 94 t94 := ⟨a94,Tryz.f94,Tryz.func94,fun e => by have h := n94; rw [e] at h; simp at h,c94⟩
theorem n95 : (Tryz.f95.name == "runtime.NumGoroutine") = false := by kernel_rfl
theorem q95 : Good 95 t95 := ⟨a95,Tryz.f95,Tryz.func95,fun e => by have h := n95; rw [e] at h; simp at h,c95⟩
theorem n96 : (Tryz.f96.name == "runtime.NumGoroutine") = false := by kernel_rfl
theorem q96 : Good 96 t96 := ⟨a96,Tryz.f96,Tryz.func96,fun e => by have h := n96; rw [e] at h; simp at h,c96⟩
theorem n97 : (Tryz.f97.name == "runtime.NumGoroutine") = false := by kernel_rfl
theorem q97 : Good 97 t97 := ⟨a97,Tryz.f97,Tryz.func97,fun e => by have h := n97; rw [e] at h; simp at h,c97⟩
theorem n99 : (Tryz.f99.name == "runtime.NumGoroutine") = false := by kernel_rfl
theorem q99 : Good 99 t99 := ⟨a99,Tryz.f99,Tryz.func99,fun e => by have h := n99; rw [e] at h; simp at h,c99⟩
theorem n100 : (Tryz.f100.name == "runtime.NumGoroutine") = false := by kernel_rfl
theorem q100 : Good 100 t100 := ⟨a100,Tryz.f100,Tryz.func100,fun e => by have h := n100; rw [e] at h; simp at h,c100⟩
theorem n101 : (Tryz.f101.name == "runtime.NumGoroutine") = false := by kernel_rfl
theorem q101 : Good 101 t101 := ⟨a101,Tryz.f101,Tryz.func101,fun e => by have h := n101; rw [e] at h; simp at h,c101⟩
theorem n102 : (Tryz.f102.name == "runtime.NumGoroutine") = false := by kernel_rfl
theorem q102 : Good 102 t102 := ⟨a102,Tryz.f102,Tryz.func102,fun e => by have h := n102; rw [e] at h; simp at h,c102⟩
theorem n103 : (Tryz.f103.name == "runtime.NumGoroutine") = false := by kernel_rfl
theorem q103 : Good 103 t103 := ⟨a103,Tryz.f103,Tryz.func103,fun e => by have h := n103; rw [e] at h; simp at h,c103⟩
theorem n104 : (Tryz.f104.name == "runtime.NumGoroutine") = false := by kernel_rfl
theorem q104 : Good 104 t104 := ⟨a104,Tryz.f104,Tryz.func104,fun e => by have h := n104; rw [e] at h; simp at h,c104⟩
theorem n105 : (Tryz.f105.name == "runtime.NumGoroutine") = false := by kernel_rfl
theorem q105 : Good 105 t105 := ⟨a105,Tryz.f105,Tryz.func105,fun e => by have h := n105; rw [e] at h; simp at h,c105⟩
theorem n106 : (Tryz.f106.name == "runtime.NumGoroutine") = false := by kernel_rfl
theorem q106 : Good 106 t106 := ⟨a106,Tryz.f106,Tryz.func106,fun e => by have h := n106; rw [e] at h; simp at h,c106⟩
theorem n107 : (Tryz.f107.name == "runtime.NumGoroutine") = false := by kernel_rfl
theorem q107 : Good 107 t107 := ⟨a107,Tryz.f107,Tryz.func107,fun e => by have h := n107; rw [e] at h; simp at h,c107⟩
theorem n108 : (Tryz.f108.name == "runtime.NumGoroutine") = false := by kernel_rfl
theorem q108 : Good 108 t108 := ⟨a108,Tryz.f108,Tryz.func108,fun e => by have h := n108; rw [e] at h; simp at h,c108⟩
theorem n116 : (Tryz.f116.name == "runtime.NumGoroutine") = false := by kernel_rfl
theorem q116 : Good 116 t116 := ⟨a116,Tryz.f116,Tryz.func116,fun e => by have h := n116; rw [e] at h; simp at h,c116⟩
theorem n117 : (Tryz.f117.name == "runtime.NumGoroutine") = false := by kernel_rfl
theorem q117 : Good 117 t117 := ⟨a117,Tryz.f117,Tryz.func117,fun e => by have h := n117; rw [e] at h; simp at h,c117⟩
theorem n118 : (Tryz.f118.name == "runtime.NumGoroutine") = false := by kernel_rfl
theorem q118 : Good 118 t118 := ⟨a118,Tryz.f118,Tryz.func118,fun e => by have h := n118; rw [e] at h; simp at h,c118⟩
theorem n119 : (Tryz.f119.name == "runtime.NumGoroutine") = false := by kernel_rfl
theorem q119 : Good 119 t119 := ⟨a119,Tryz.f119,Tryz.func119,fun e => by have h := n119; rw [e] at h; simp at h,c119⟩
theorem n120 : (Tryz.f120.name == "runtime.NumGoroutine") = false := by kernel_rfl
theorem q120 : Good 120 t120 := ⟨a120,Tryz.f120,Tryz.func120,fun e => by have h := n120; rw [e] at h; simp at h,c120⟩
theorem n121 : (Tryz.f121.name == "runtime.NumGoroutine") = false := by kernel_rfl
theorem q121 : Good 121 t121 := ⟨a121,Tryz.f121,Tryz.func121,fun e => by have h := n121; rw [e] at h; simp at h,c121⟩
theorem n122 : (Tryz.f122.name == "runtime.NumGoroutine") = false := by kernel_rfl
theorem q122 : Good 122 t122 := ⟨a122,Tryz.f122,Tryz.func122,fun e => by have h := n122; rw [e] at h; simp at h,c122⟩
theorem n124 : (Tryz.f124.name == "runtime.NumGoroutine") = false := by kernel_rfl
theorem q124 : Good 124 t124 := ⟨a124,Tryz.f124,Tryz.func124,fun e => by have h := n124; rw [e] at h; simp at h,c124⟩
theorem n125 : (Tryz.f125.name == "runtime.NumGoroutine") = false := by kernel_rfl
theorem q125 : Good 125 t125 := ⟨a125,Tryz.f125,Tryz.func125,fun e => by have h := n125; rw [e] at h; simp at h,c125⟩
theorem n126 : (Tryz.f126.name == "runtime.NumGoroutine") = false := by kernel_rfl
theorem q126 : Good 126 t126 := ⟨a126,Tryz.f126,Tryz.func126,fun e => by have h := n126; rw [e] at h; simp at h,c126⟩
theorem n127 : (Tryz.f127.name == "runtime.NumGoroutine") = false := by kernel_rfl
theorem q127 : Good 127 t127 := ⟨a127,Tryz.f127,Tryz.func127,fun e => by have h := n127; rw [e] at h; simp at h,c127⟩
theorem n128 : (Tryz.f128.name == "runtime.NumGoroutine") = false := by kernel_rfl
theorem q128 : Good 128 t128 := ⟨a128,Tryz.f128,Tryz.func128,fun e => by have h := n128; rw [e] at h; simp at h,c128⟩
theorem n129 : (Tryz.f129.name == "runtime.NumGoroutine") = false := by kernel_rfl
theorem q129 : Good 129 t129 := ⟨a129,Tryz.f129,Tryz.func129,fun e => by have h := n129; rw [e] at h; simp at h,c129⟩
theorem n130 : (Tryz.f130.name == "runtime.NumGoroutine") = false := by kernel_rfl
theorem q130 : Good 130 t130 := ⟨a130,Tryz.f130,Tryz.func130,fun e => by have h := n130; rw [e] at h; simp at h,c130⟩
theorem n131 : (Tryz.f131.name == "runtime.NumGoroutine") = false := by kernel_rfl
theorem q131 : Good 131 t131 := ⟨a131,Tryz.f131,Tryz.func131,fun e => by have h := n131; rw [e] at h; simp at h,c131⟩
theorem n135 : (Tryz.f135.name == "runtime.NumGoroutine") = false := by kernel_rfl
theorem q135 : Good 135 t135 := ⟨a135,Tryz.f135,Tryz.func135,fun e => by have h := n135; rw [e] at h; simp at h,c135⟩
theorem n136 : (Tryz.f136.name == "runtime.NumGoroutine") = false := by kernel_rfl
theorem q136 : Good 136 t136 := ⟨a136,Tryz.f136,Tryz.func136,fun e => by have h := n136; rw [e] at h; simp at h,c136⟩
theorem n137 : (Tryz.f137.name == "runtime.NumGoroutine") = false := by kernel_rfl
theorem q137 : Good 137 t137 := ⟨a137,Tryz.f137,Tryz.func137,fun e => by have h := n137; rw [e] at h; simp at h,c137⟩
theorem n138 : (Tryz.f138.name == "runtime.NumGoroutine") = false := by kernel_rfl
theorem q138 : Good 138 t138 := ⟨a138,Tryz.f138,Tryz.func138,fun e => by have h := n138; rw [e] at h; simp at h,c138⟩
theorem n139 : (Tryz.f139.name == "runtime.NumGoroutine") = false := by kernel_rfl
theorem q139 : Good 139 t139 := ⟨a139,Tryz.f139,Tryz.func139,fun e => by have h := n139; rw [e] at h; simp at h,c139⟩
theorem n140 : (Tryz.f140.name == "runtime.NumGoroutine") = false := by kernel_rfl
theorem q140 : Good 140 t140 := ⟨a140,Tryz.f140,Tryz.func140,fun e => by have h := n140; rw [e] at h; simp at h,c140⟩
theorem n141 : (Tryz.f141.name == "runtime.NumGoroutine") = false := by kernel_rfl
theorem q141 : Good 141 t141 := ⟨a141,Tryz.f141,Tryz.func141,fun e => by have h := n141; rw [e] at h; simp at h,c141⟩
theorem n143 : (Tryz.f143.name == "runtime.NumGoroutine") = false := by kernel_rfl
theorem q143 : Good 143 t143 := ⟨a143,Tryz.f143,Tryz.func143,fun e => by have h := n143; rw [e] at h; simp at h,c143⟩
theorem n144 : (Tryz.f144.name == "runtime.NumGoroutine") = false := by kernel_rfl
theorem q144 : Good 144 t144 := ⟨a144,Tryz.f144,Tryz.func144,fun e => by have h := n144; rw [e] at h; simp at h,c144⟩
theorem n145 : (Tryz.f145.name == "runtime.NumGoroutine") = false := by kernel_rfl
theorem q145 : Good 145 t145 := ⟨a145,Tryz.f145,Tryz.func145,fun e => by have h := n145; rw [e] at h; simp at h,c145⟩
theorem n146 : (Tryz.f146.name == "runtime.NumGoroutine") = false := by kernel_rfl
theorem q146 : Good 146 t146 := ⟨a146,Tryz.f146,Tryz.func146,fun e => by have h := n146; rw [e] at h; simp at h,c146⟩
theorem n148 : (Tryz.f148.name == "runtime.NumGoroutine") = false := by kernel_rfl
theorem q148 : Good 148 t148 := ⟨a148,Tryz.f148,Tryz.func148,fun e => by have h := n148; rw [e] at h; simp at h,c148⟩
theorem n151 : (Tryz.f151.name == "runtime.NumGoroutine") = false := by kernel_rfl
theorem q151 : Good 151 t151 := ⟨a151,Tryz.f151,Tryz.func151,fun e => by have h := n151; rw [e] at h; simp at h,c151⟩
theorem n152 : (Tryz.f152.name == "runtime.NumGoroutine") = false := by kernel_rfl
theorem q152 : Good 152 t152 := ⟨a152,Tryz.f152,Tryz.func152,fun e => by have h := n152; rw [e] at h; simp at h,c152⟩
theorem n153 : (Tryz.f153.name == "runtime.NumGoroutine") = false := by kernel_rfl
theorem q153 : Good 153 t153 := ⟨a153,Tryz.f153,Tryz.func153,fun e => by have h := n153; rw [e] at h; simp at h,c153⟩
theorem n154 : (Tryz.f154.name == "runtime.NumGoroutine") = false := by kernel_rfl
theorem q154 : Good 154 t154 := ⟨a154,Tryz.f154,Tryz.func154,fun e => by have h := n154; rw [e] at h; simp at h,c154⟩
theorem n155 : (Tryz.f155.name == "runtime.NumGoroutine") = false := by kernel_rfl
theorem q155 : Good 155 t155 := ⟨a155,Tryz.f155,Tryz.func155,fun e => by have h := n155; rw [e] at h; simp at h,c155⟩
theorem n156 : (Tryz.f156.name == "runtime.NumGoroutine") = false := by kernel_rfl
theorem q156 : Good 156 t156 := ⟨a156,Tryz.f156,Tryz.func156,fun e => by have h := n156; rw [e] at h; simp at h,c156⟩
theorem n157 : (Tryz.f157.name == "runtime.NumGoroutine") = false := by kernel_rfl
theorem q157 : Good 157 t157 := ⟨a157,Tryz.f157,Tryz.func157,fun e => by have h := n157; rw [e] at h; simp at h,c157⟩
theorem n158 : (Tryz.f158.name == "runtime.NumGoroutine") = false := by kernel_rfl
theorem q158 : Good 158 t158 := ⟨a158,Tryz.f158,Tryz.func158,fun e => by have h := n158; rw [e] at h; simp at h,c158⟩
theorem good : AllAt Good 0 tbl := ⟨q5,q7,q8,q11,q12,q13,q14,q15,q16,q17,q19,q20,q21,q22,q23,q24,q25,q30,q31,q32,q33,q34,q35,q36,q37,q42,q43,q44,q45,q46,q47,q48,q49,q50,q51,q52,q53,q54,q55,q56,q57,q58,q59,q60,q67,q68,q69,q70,q71,q73,q74,q75,q76,q77,q78,q79,q80,q81,q82,q83,q84,q92,q93,q94,q95,q96,q97,q99,q100,q101,q102,q103,q104,q105,q106,q107,q108,q116,q117,q118,q119,q120,q121,q122,q124,q125,q126,q127,q128,q129,q130,q131,q135,q136,q137,q138,q139,q140,q141,q143,q144,q145,q146,q148,q151,q152,q153,q154,q155,q156,q157,q158,trivial⟩
theorem kok : KOK Tryz.prog opts K := ⟨fun k tf h => allAt_get good k tf h,fun f p h => primAt_ok (prims_ok opts K) h,by kernel_rfl⟩
end Go.Proofs.YtjbpbohpmfpoiaaGreatDoor
