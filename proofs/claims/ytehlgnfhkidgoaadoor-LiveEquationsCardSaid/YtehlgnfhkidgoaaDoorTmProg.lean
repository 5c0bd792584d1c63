/- The functions of this seat, compiled for the evaluator TM; each held against the translation by the kernel. By program. Condition: none. -/
import Derived.Test.YtehlgnfhkidgoaaDoorPrim
set_option maxRecDepth 100000
set_option linter.unusedVariables false
namespace Go.Proofs.YtehlgnfhkidgoaaDoor
open Go Go.TM
abbrev o_ (x : TOp) : TOper := ⟨x,none,none⟩
abbrev s_ (n : Nat) (x : TOp) : TOper := ⟨x,some n,none⟩
abbrev i_ (n : Int) : TOpd := .cst (.int .i64 n)
def opts : Opts := ⟨fun f => ([22,23,25,26,30,31,32,33,36,37,42,43,45,47,49,50,56,57,58,59,60,61,63,64,67,69,71,76,78,79,80,87,101,102,103,104,105,106,107] : List Nat).contains f,fun f => ([32] : List Nat).contains f⟩
def a5 : Ann := { slots := [0,1,2,3,4,5,6,7,8,9,10,11,12,13,14,16,33,61,66,81,107,129,156,174],lb := [8,1],mu := [],trunc := [],draws := [(13,⟨[0,1,0,7,15,31],[0,2],[(1,[2],[]),(3,[],[4,5])]⟩)] }
def t5L0 : TCode := (.seq (.seq (.region [o_ (.mov (.loc 11)), o_ (.fieldAddr 1 (.loc 1)), o_ (.load1 (.reg 1)), s_ 19 (.bin .lss (.reg 0) (.reg 2))])
(.cond (.loc 19)
.skip
(.exit 2)))
(.seq (.block 3
(.seq (.seq (.region [o_ (.mov (.loc 3)),o_ (.mov (.loc 7)),o_ (.indexAddrS 1 (.reg 0) (.reg 1)),o_ (.load1 (.reg 2)),o_ (.mov (.loc 11)),o_ (.call true false 19 [(.reg 3),(.reg 4)]),o_ (.mov (.loc 9)),o_ (.mov (.loc 11)),o_ (.call true false 19 [(.reg 6),(.reg 7)]),o_ (.mov (.reg 8)),⟨.mov (.loc 5),none,(some (9,false))⟩,⟨.mov (.loc 7),none,(some (9,false))⟩,⟨.indexAddrS 1 (.reg 10) (.reg 11),none,(some (9,false))⟩,⟨.load1 (.reg 12),none,(some (9,false))⟩,⟨.mov (.loc 11),none,(some (9,false))⟩,⟨.call true false 19 [(.reg 13),(.reg 14)],none,(some (9,false))⟩,⟨.mov (.reg 15),none,(some (9,false))⟩,⟨.mov (.loc 10),none,(some (16,true))⟩,⟨.mov (.loc 11),none,(some (16,true))⟩,⟨.call true false 19 [(.reg 17),(.reg 18)],none,(some (16,true))⟩,⟨.un .not (.reg 19),none,(some (16,true))⟩,⟨.pick (.reg 16) (.reg 20) (.cst (.bool false)),none,(some (9,false))⟩,o_ (.pick (.reg 9) (.cst (.bool true)) (.reg 21)),s_ 20 (.eqB true .bool (.reg 5) (.reg 22))])
(.cond (.loc 20)
(.seq (.region [s_ 2 (.mov (.cst (.bool false)))])
.ret)
.skip))
(.seq (.region [s_ 12 (.mov (.cst (.bool false)))])
(.seq (.region [o_ (.fieldAddr 0 (.loc 8)),o_ (.load1 (.reg 0)),o_ (.bin .eql (.reg 1) (i_ 66)),o_ (.mov (.reg 2)),⟨.fieldAddr 0 (.loc 8),none,(some (3,false))⟩,⟨.load1 (.reg 4),none,(some (3,false))⟩,⟨.bin .geq (.reg 5) (i_ 26),none,(some (3,false))⟩,⟨.mov (.reg 6),none,(some (3,false))⟩,⟨.fieldAddr 0 (.loc 8),none,(some (7,true))⟩,⟨.load1 (.reg 8),none,(some (7,true))⟩,⟨.bin .leq (.reg 9) (i_ 31),none,(some (7,true))⟩,⟨.pick (.reg 7) (.reg 10) (.cst (.bool false)),none,(some (3,false))⟩,o_ (.pick (.reg 3) (.cst (.bool true)) (.reg 11)),s_ 13 (.mov (.reg 12))])
(.seq (.seq (.region [o_ (.loadN 7 (.loc 1)),o_ (.fieldAddr 5 (.loc 8)),o_ (.load1 (.reg 1)),o_ (.call true false 20 [(.reg 0),(.reg 2)]),s_ 14 (.mov (.reg 3))])
(.seq (.region [o_ (.mov (.loc 13)),o_ (.mov (.reg 0)),⟨.mov (.loc 14),none,(some (1,true))⟩,⟨.bin .geq (.reg 2) (i_ 0),none,(some (1,true))⟩,s_ 21 (.pick (.reg 1) (.reg 3) (.cst (.bool false)))])
(.cond (.loc 21)
(.region [o_ (.mov (.loc 3)),o_ (.mov (.loc 14)),o_ (.indexAddrS 1 (.reg 0) (.reg 1)),o_ (.load1 (.reg 2)),o_ (.mov (.loc 11)),o_ (.call true false 19 [(.reg 3),(.reg 4)]),s_ 12 (.mov (.reg 5))])
.skip)))
(.seq (.seq (.region [o_ (.fieldAddr 0 (.loc 8)),o_ (.load1 (.reg 0)),o_ (.bin .neq (.reg 1) (i_ 66)),o_ (.mov (.reg 2)),⟨.fieldAddr 0 (.loc 8),none,(some (3,true))⟩,⟨.load1 (.reg 4),none,(some (3,true))⟩,⟨.bin .neq (.reg 5) (i_ 68),none,(some (3,true))⟩,o_ (.pick (.reg 3) (.reg 6) (.cst (.bool false))),o_ (.mov (.reg 7)),⟨.fieldAddr 0 (.loc 8),none,(some (8,true))⟩,⟨.load1 (.reg 9),none,(some (8,true))⟩,⟨.bin .neq (.reg 10) (i_ 72),none,(some (8,true))⟩,o_ (.pick (.reg 8) (.reg 11) (.cst (.bool false))),o_ (.mov (.reg 12)),⟨.mov (.loc 7),none,(some (13,true))⟩,⟨.bin .add (.reg 14) (i_ 1),none,(some (13,true))⟩,⟨.fieldAddr 6 (.loc 1),none,(some (13,true))⟩,⟨.load1 (.reg 16),none,(some (13,true))⟩,⟨.len .sl (.reg 17),none,(some (13,true))⟩,⟨.bin .lss (.reg 15) (.reg 18),none,(some (13,true))⟩,s_ 22 (.pick (.reg 13) (.reg 19) (.cst (.bool false)))])
(.cond (.loc 22)
(.region [o_ (.mov (.loc 12)),o_ (.mov (.reg 0)),⟨.mov (.loc 3),none,(some (1,false))⟩,⟨.mov (.loc 7),none,(some (1,false))⟩,⟨.bin .add (.reg 3) (i_ 1),none,(some (1,false))⟩,⟨.indexAddrS 1 (.reg 2) (.reg 4),none,(some (1,false))⟩,⟨.load1 (.reg 5),none,(some (1,false))⟩,⟨.mov (.loc 11),none,(some (1,false))⟩,⟨.call true false 19 [(.reg 6),(.reg 7)],none,(some (1,false))⟩,o_ (.pick (.reg 1) (.cst (.bool true)) (.reg 8)),s_ 12 (.mov (.reg 9))])
.skip))
(.seq (.region [o_ (.mov (.loc 5)),o_ (.mov (.loc 7)),o_ (.indexAddrS 1 (.reg 0) (.reg 1)),o_ (.load1 (.reg 2)),o_ (.mov (.loc 11)),o_ (.call true false 19 [(.reg 3),(.reg 4)]),o_ (.mov (.loc 12)),s_ 23 (.eqB true .bool (.reg 5) (.reg 6))])
(.cond (.loc 23)
(.seq (.region [s_ 2 (.mov (.cst (.bool false)))])
.ret)
.skip))))))))
(.region [o_ (.mov (.loc 11)),o_ (.bin .add (.reg 0) (i_ 1)),s_ 11 (.mov (.reg 1))])))
def t5L1 : TCode := (.seq (.seq (.region [o_ (.mov (.loc 7)),o_ (.fieldAddr 6 (.loc 1)),o_ (.load1 (.reg 1)),o_ (.len .sl (.reg 2)),s_ 18 (.bin .lss (.reg 0) (.reg 3))])
(.cond (.loc 18)
.skip
(.exit 0)))
(.seq (.block 1
(.seq (.region [o_ (.fieldAddr 6 (.loc 1)),o_ (.load1 (.reg 0)),o_ (.mov (.loc 7)),o_ (.indexAddrS 8 (.reg 1) (.reg 2)),o_ (.loadN 8 (.reg 3)),o_ (.allocL 8 [(.int .i64 0),(.int .i64 0),(.int .i64 0),(.int .i64 0),(.int .i64 0),(.int .i64 0),(.sl .nil []),(.sl .nil [])]),o_ (.store 8 (.reg 5) (.reg 4))])
(.seq (.draw [0,2] [(1,[2],[]),(3,[],[4,5])] [o_ (.loadN 8 (.loc 8)),o_ (.call true false 9 [(.reg 0)]),o_ (.loadN 8 (.loc 8)),o_ (.call true false 11 [(.reg 2)]),s_ 9 (.mov (.reg 1)),s_ 10 (.mov (.reg 3))])
(.seq (.region [s_ 11 (.mov (i_ 1))])
(.block 2
(.loop t5L0))))))
(.region [o_ (.mov (.loc 7)),o_ (.bin .add (.reg 0) (i_ 1)),s_ 7 (.mov (.reg 1))])))
def t5 : TFunc := ⟨1,24,[.loc 2],
(.seq (.region [o_ (.boxL 1 (.loc 0)),s_ 2 (.mov (.cst (.bool false)))])
(.seq (.seq (.region [o_ (.loadN 7 (.loc 1)),s_ 15 (.call true false 6 [(.reg 0)])])
(.cond (.loc 15)
(.seq (.region [o_ (.call true false 7 []),s_ 2 (.mov (.reg 0))])
.ret)
.skip))
(.seq (.region [o_ (.loadN 7 (.loc 1)),o_ (.call true false 13 [(.reg 0)]),o_ (.mov (.reg 1)),o_ (.extract 0 (.reg 2)),o_ (.extract 1 (.reg 2)),s_ 3 (.mov (.reg 3)),s_ 4 (.mov (.reg 4))])
(.seq (.region [o_ (.loadN 7 (.loc 1)),o_ (.call true false 15 [(.reg 0)]),o_ (.mov (.reg 1)),o_ (.extract 0 (.reg 2)),o_ (.extract 1 (.reg 2)),s_ 5 (.mov (.reg 3)),s_ 6 (.mov (.reg 4))])
(.seq (.seq (.region [o_ (.mov (.loc 4)),o_ (.bin .neq (.reg 0) (i_ 0)),o_ (.mov (.reg 1)),⟨.mov (.loc 6),none,(some (2,false))⟩,⟨.bin .neq (.reg 3) (i_ 0),none,(some (2,false))⟩,s_ 16 (.pick (.reg 2) (.cst (.bool true)) (.reg 4))])
(.cond (.loc 16)
(.seq (.region [o_ (.mov (.loc 4)),o_ (.mov (.loc 6)),o_ (.bin .eql (.reg 0) (.reg 1)),o_ (.mov (.reg 2)),⟨.mov (.loc 3),none,(some (3,true))⟩,⟨.len .sl (.reg 4),none,(some (3,true))⟩,⟨.mov (.loc 5),none,(some (3,true))⟩,⟨.len .sl (.reg 6),none,(some (3,true))⟩,⟨.bin .add (.reg 5) (.reg 7),none,(some (3,true))⟩,⟨.bin .eql (.reg 8) (i_ 0),none,(some (3,true))⟩,o_ (.pick (.reg 3) (.reg 9) (.cst (.bool false))),o_ (.mov (.reg 10)),⟨.call true false 7 [],none,(some (11,true))⟩,o_ (.pick (.reg 11) (.reg 12) (.cst (.bool false))),s_ 2 (.mov (.reg 13))])
.ret)
.skip))
(.seq (.seq (.region [o_ (.mov (.loc 3)),o_ (.len .sl (.reg 0)),o_ (.fieldAddr 6 (.loc 1)),o_ (.load1 (.reg 2)),o_ (.len .sl (.reg 3)),o_ (.bin .neq (.reg 1) (.reg 4)),o_ (.mov (.reg 5)),⟨.mov (.loc 5),none,(some (6,false))⟩,⟨.len .sl (.reg 7),none,(some (6,false))⟩,⟨.fieldAddr 6 (.loc 1),none,(some (6,false))⟩,⟨.load1 (.reg 9),none,(some (6,false))⟩,⟨.len .sl (.reg 10),none,(some (6,false))⟩,⟨.bin .neq (.reg 8) (.reg 11),none,(some (6,false))⟩,s_ 17 (.pick (.reg 6) (.cst (.bool true)) (.reg 12))])
(.cond (.loc 17)
(.seq (.region [s_ 2 (.mov (.cst (.bool false)))])
.ret)
.skip))
(.seq (.seq (.region [s_ 7 (.mov (i_ 0))])
(.block 0
(.loop t5L1)))
(.seq (.region [o_ (.call true false 7 []),s_ 2 (.mov (.reg 0))])
.ret))))))))⟩
theorem c5 : compFunc Tryd.prog opts a5 Tryd.f5 = some t5 := by kernel_rfl
def a6 : Ann := { slots := [0,1,2,3,12,22],lb := [1],mu := [],trunc := [],draws := [] }
def t6L0 : TCode := (.seq (.seq (.region [o_ (.mov (.loc 3)),o_ (.fieldAddr 6 (.loc 1)),o_ (.load1 (.reg 1)),o_ (.len .sl (.reg 2)),o_ (.bin .lss (.reg 0) (.reg 3)),o_ (.mov (.reg 4)),⟨.mov (.loc 3),none,(some (5,true))⟩,⟨.bin .lss (.reg 6) (i_ 100),none,(some (5,true))⟩,s_ 4 (.pick (.reg 5) (.reg 7) (.cst (.bool false)))])
(.cond (.loc 4)
.skip
(.exit 0)))
(.seq (.block 1
(.seq (.region [o_ (.fieldAddr 6 (.loc 1)),o_ (.load1 (.reg 0)),o_ (.mov (.loc 3)),o_ (.indexAddrS 8 (.reg 1) (.reg 2)),o_ (.fieldAddr 6 (.reg 3)),o_ (.load1 (.reg 4)),o_ (.len .sl (.reg 5)),s_ 5 (.bin .gtr (.reg 6) (i_ 30))])
(.cond (.loc 5)
(.seq (.region [s_ 2 (.mov (.cst (.bool true)))])
.ret)
.skip)))
(.region [o_ (.mov (.loc 3)),o_ (.bin .add (.reg 0) (i_ 1)),s_ 3 (.mov (.reg 1))])))
def t6 : TFunc := ⟨1,6,[.loc 2],
(.seq (.region [o_ (.boxL 1 (.loc 0)),s_ 2 (.mov (.cst (.bool false)))])
(.seq (.seq (.region [s_ 3 (.mov (i_ 0))])
(.block 0
(.loop t6L0)))
(.seq (.region [o_ (.fieldAddr 6 (.loc 1)),o_ (.load1 (.reg 0)),o_ (.len .sl (.reg 1)),o_ (.bin .gtr (.reg 2) (i_ 80)),o_ (.mov (.reg 3)),⟨.fieldAddr 1 (.loc 1),none,(some (4,false))⟩,⟨.load1 (.reg 5),none,(some (4,false))⟩,⟨.bin .gtr (.reg 6) (i_ 120),none,(some (4,false))⟩,o_ (.pick (.reg 4) (.cst (.bool true)) (.reg 7)),s_ 2 (.mov (.reg 8))])
.ret)))⟩
theorem c6 : compFunc Tryd.prog opts a6 Tryd.f6 = some t6 := by kernel_rfl
def a7 : Ann := { slots := [0,1,2,3,4],lb := [],mu := [],trunc := [],draws := [] }
def t7 : TFunc := ⟨0,5,[.loc 0],
(.seq (.region [s_ 0 (.mov (.cst (.bool false)))])
(.seq (.region [o_ (.call true false 18 []),o_ (.call true false 13 [(.reg 0)]),o_ (.mov (.reg 1)),o_ (.extract 0 (.reg 2)),o_ (.extract 1 (.reg 2)),s_ 1 (.mov (.reg 3)),s_ 2 (.mov (.reg 4))])
(.seq (.region [o_ (.call true false 18 []),o_ (.call true false 15 [(.reg 0)]),o_ (.mov (.reg 1)),o_ (.extract 0 (.reg 2)),o_ (.extract 1 (.reg 2)),s_ 3 (.mov (.reg 3)),s_ 4 (.mov (.reg 4))])
(.seq (.region [o_ (.mov (.loc 2)),o_ (.bin .eql (.reg 0) (i_ 0)),o_ (.mov (.reg 1)),⟨.mov (.loc 4),none,(some (2,true))⟩,⟨.bin .eql (.reg 3) (i_ 0),none,(some (2,true))⟩,o_ (.pick (.reg 2) (.reg 4) (.cst (.bool false))),o_ (.mov (.reg 5)),⟨.mov (.loc 1),none,(some (6,true))⟩,⟨.len .sl (.reg 7),none,(some (6,true))⟩,⟨.bin .eql (.reg 8) (i_ 8),none,(some (6,true))⟩,o_ (.pick (.reg 6) (.reg 9) (.cst (.bool false))),o_ (.mov (.reg 10)),⟨.mov (.loc 3),none,(some (11,true))⟩,⟨.len .sl (.reg 12),none,(some (11,true))⟩,⟨.bin .eql (.reg 13) (i_ 8),none,(some (11,true))⟩,o_ (.pick (.reg 11) (.reg 14) (.cst (.bool false))),o_ (.mov (.reg 15)),⟨.mov (.loc 1),none,(some (16,true))⟩,⟨.indexAddrS 1 (.reg 17) (i_ 0),none,(some (16,true))⟩,⟨.load1 (.reg 18),none,(some (16,true))⟩,⟨.lit false [(.int .i64 0)] 2 [(0,(i_ 4)),(1,(i_ 26))],none,(some (16,true))⟩,⟨.call true false 8 [(.reg 19),(.reg 20)],none,(some (16,true))⟩,o_ (.pick (.reg 16) (.reg 21) (.cst (.bool false))),o_ (.mov (.reg 22)),⟨.mov (.loc 3),none,(some (23,true))⟩,⟨.indexAddrS 1 (.reg 24) (i_ 0),none,(some (23,true))⟩,⟨.load1 (.reg 25),none,(some (23,true))⟩,⟨.lit false [(.int .i64 0)] 3 [(0,(i_ 4)),(1,(i_ 26)),(2,(i_ 32))],none,(some (23,true))⟩,⟨.call true false 8 [(.reg 26),(.reg 27)],none,(some (23,true))⟩,o_ (.pick (.reg 23) (.reg 28) (.cst (.bool false))),o_ (.mov (.reg 29)),⟨.mov (.loc 1),none,(some (30,true))⟩,⟨.indexAddrS 1 (.reg 31) (i_ 3),none,(some (30,true))⟩,⟨.load1 (.reg 32),none,(some (30,true))⟩,⟨.lit false [(.int .i64 0)] 3 [(0,(i_ 26)),(1,(i_ 32)),(2,(i_ 33))],none,(some (30,true))⟩,⟨.call true false 8 [(.reg 33),(.reg 34)],none,(some (30,true))⟩,o_ (.pick (.reg 30) (.reg 35) (.cst (.bool false))),o_ (.mov (.reg 36)),⟨.mov (.loc 3),none,(some (37,true))⟩,⟨.indexAddrS 1 (.reg 38) (i_ 7),none,(some (37,true))⟩,⟨.load1 (.reg 39),none,(some (37,true))⟩,⟨.len .sl (.reg 40),none,(some (37,true))⟩,⟨.bin .eql (.reg 41) (i_ 0),none,(some (37,true))⟩,o_ (.pick (.reg 37) (.reg 42) (.cst (.bool false))),s_ 0 (.mov (.reg 43))])
.ret))))⟩
theorem c7 : compFunc Tryd.prog opts a7 Tryd.f7 = some t7 := by kernel_rfl
def a8 : Ann := { slots := [0,1,4,5,10,14,25],lb := [],mu := [],trunc := [],draws := [(6,⟨[0,0,3,7,0,0,48,112,255],[0,1,2,3,4,5,6,7,8],[]⟩)] }
def t8L0 : TCode := (.seq (.seq (.region [o_ (.mov (.loc 3)),o_ (.mov (.loc 0)),o_ (.len .sl (.reg 1)),s_ 5 (.bin .lss (.reg 0) (.reg 2))])
(.cond (.loc 5)
.skip
(.exit 0)))
(.seq (.block 1
(.seq (.draw [0,1,2,3,4,5,6,7,8] [] [o_ (.mov (.loc 0)),o_ (.mov (.loc 3)),o_ (.indexAddrS 1 (.reg 0) (.reg 1)),o_ (.load1 (.reg 2)),o_ (.mov (.loc 1)),o_ (.mov (.loc 3)),o_ (.indexAddrS 1 (.reg 4) (.reg 5)),o_ (.load1 (.reg 6)),s_ 6 (.bin .neq (.reg 3) (.reg 7))])
(.cond (.loc 6)
(.seq (.region [s_ 2 (.mov (.cst (.bool false)))])
.ret)
.skip)))
(.region [o_ (.mov (.loc 3)),o_ (.bin .add (.reg 0) (i_ 1)),s_ 3 (.mov (.reg 1))])))
def t8 : TFunc := ⟨2,7,[.loc 2],
(.seq (.region [s_ 2 (.mov (.cst (.bool false)))])
(.seq (.seq (.region [o_ (.mov (.loc 0)),o_ (.len .sl (.reg 0)),o_ (.mov (.loc 1)),o_ (.len .sl (.reg 2)),s_ 4 (.bin .neq (.reg 1) (.reg 3))])
(.cond (.loc 4)
(.seq (.region [s_ 2 (.mov (.cst (.bool false)))])
.ret)
.skip))
(.seq (.seq (.region [s_ 3 (.mov (i_ 0))])
(.block 0
(.loop t8L0)))
(.seq (.region [s_ 2 (.mov (.cst (.bool true)))])
.ret))))⟩
theorem c8 : compFunc Tryd.prog opts a8 Tryd.f8 = some t8 := by kernel_rfl
def a9 : Ann := { slots := [0,1,2,3,24,48],lb := [1],mu := [(4,4),(8,2),(12,4)],trunc := [],draws := [] }
def t9 : TFunc := ⟨1,6,[.loc 2],
(.seq (.region [o_ (.boxL 1 (.loc 0)),s_ 2 (.mov (.cst (.sl .nil [])))])
(.seq (.block 0
(.seq (.seq (.region [o_ (.fieldAddr 0 (.loc 1)),o_ (.load1 (.reg 0)),o_ (.bin .geq (.reg 1) (i_ 1)),o_ (.mov (.reg 2)),⟨.fieldAddr 0 (.loc 1),none,(some (3,true))⟩,⟨.load1 (.reg 4),none,(some (3,true))⟩,⟨.bin .leq (.reg 5) (i_ 14),none,(some (3,true))⟩,o_ (.pick (.reg 3) (.reg 6) (.cst (.bool false))),s_ 3 (.mov (.reg 7))])
(.cond (.loc 3)
.skip
(.seq (.region [o_ (.fieldAddr 0 (.loc 1)),o_ (.load1 (.reg 0)),o_ (.bin .eql (.reg 1) (i_ 25)),s_ 3 (.mov (.reg 2))])
(.cond (.loc 3)
.skip
(.region [o_ (.fieldAddr 0 (.loc 1)),o_ (.load1 (.reg 0)),o_ (.call true false 21 [(.reg 1)]),s_ 3 (.mov (.reg 2))])))))
(.cond (.loc 3)
(.seq (.region [o_ (.fieldAddr 2 (.loc 1)),o_ (.load1 (.reg 0)),o_ (.fieldAddr 3 (.loc 1)),o_ (.load1 (.reg 2)),o_ (.lit true [(.int .i64 0)] 2 [(0,(.reg 1)),(1,(.reg 3))]),o_ (.call false false 22 [(.reg 4)]),s_ 2 (.mov (.reg 5))])
.ret)
(.seq (.seq (.region [o_ (.fieldAddr 0 (.loc 1)),o_ (.load1 (.reg 0)),o_ (.bin .geq (.reg 1) (i_ 15)),o_ (.mov (.reg 2)),⟨.fieldAddr 0 (.loc 1),none,(some (3,true))⟩,⟨.load1 (.reg 4),none,(some (3,true))⟩,⟨.bin .leq (.reg 5) (i_ 24),none,(some (3,true))⟩,o_ (.pick (.reg 3) (.reg 6) (.cst (.bool false))),o_ (.mov (.reg 7)),⟨.fieldAddr 0 (.loc 1),none,(some (8,true))⟩,⟨.load1 (.reg 9),none,(some (8,true))⟩,⟨.bin .neq (.reg 10) (i_ 23),none,(some (8,true))⟩,o_ (.pick (.reg 8) (.reg 11) (.cst (.bool false))),s_ 4 (.mov (.reg 12))])
(.cond (.loc 4)
.skip
(.seq (.region [o_ (.fieldAddr 0 (.loc 1)),o_ (.load1 (.reg 0)),o_ (.bin .eql (.reg 1) (i_ 64)),s_ 4 (.mov (.reg 2))])
(.cond (.loc 4)
.skip
(.region [o_ (.fieldAddr 0 (.loc 1)),o_ (.load1 (.reg 0)),o_ (.bin .eql (.reg 1) (i_ 74)),s_ 4 (.mov (.reg 2))])))))
(.cond (.loc 4)
(.seq (.region [o_ (.fieldAddr 2 (.loc 1)),o_ (.load1 (.reg 0)),o_ (.lit true [(.int .i64 0)] 1 [(0,(.reg 1))]),o_ (.call false false 22 [(.reg 2)]),s_ 2 (.mov (.reg 3))])
.ret)
(.seq (.seq (.region [o_ (.fieldAddr 0 (.loc 1)),o_ (.load1 (.reg 0)),o_ (.bin .eql (.reg 1) (i_ 67)),s_ 5 (.mov (.reg 2))])
(.cond (.loc 5)
.skip
(.seq (.region [o_ (.fieldAddr 0 (.loc 1)),o_ (.load1 (.reg 0)),o_ (.bin .eql (.reg 1) (i_ 68)),s_ 5 (.mov (.reg 2))])
(.cond (.loc 5)
.skip
(.region [o_ (.fieldAddr 0 (.loc 1)),o_ (.load1 (.reg 0)),o_ (.bin .eql (.reg 1) (i_ 72)),s_ 5 (.mov (.reg 2))])))))
(.cond (.loc 5)
(.seq (.region [o_ (.fieldAddr 6 (.loc 1)),o_ (.load1 (.reg 0)),o_ (.call false false 23 [(.reg 1)]),o_ (.lit false [(.int .i64 0)] 1 [(0,(i_ 26))]),o_ (.append true 1 8 3 (.reg 2) (.reg 3)),o_ (.call false false 22 [(.reg 4)]),s_ 2 (.mov (.reg 5))])
.ret)
.skip)))))))
(.seq (.region [s_ 2 (.mov (.cst (.sl .nil [])))])
.ret)))⟩
theorem c9 : compFunc Tryd.prog opts a9 Tryd.f9 = some t9 := by kernel_rfl
def a10 : Ann := { slots := [0,1,2,3,4,22,53,70,75],lb := [1],mu := [],trunc := [],draws := [] }
def t10L0 : TCode := (.seq (.seq (.region [o_ (.mov (.loc 4)),o_ (.fieldAddr 6 (.loc 1)),o_ (.load1 (.reg 1)),o_ (.len .sl (.reg 2)),s_ 8 (.bin .lss (.reg 0) (.reg 3))])
(.cond (.loc 8)
.skip
(.exit 0)))
(.seq (.block 1
(.region [o_ (.mov (.loc 3)),o_ (.fieldAddr 6 (.loc 1)),o_ (.load1 (.reg 1)),o_ (.mov (.loc 4)),o_ (.indexAddrS 1 (.reg 2) (.reg 3)),o_ (.load1 (.reg 4)),o_ (.call true false 24 [(.reg 0),(.reg 5)]),s_ 3 (.mov (.reg 6))]))
(.region [o_ (.mov (.loc 4)),o_ (.bin .add (.reg 0) (i_ 1)),s_ 4 (.mov (.reg 1))])))
def t10 : TFunc := ⟨1,9,[.loc 2],
(.seq (.region [o_ (.boxL 1 (.loc 0)),s_ 2 (.mov (.cst (.sl .nil [])))])
(.seq (.region [s_ 3 (.mov (.cst (.sl .nil [])))])
(.seq (.seq (.region [o_ (.fieldAddr 0 (.loc 1)),o_ (.load1 (.reg 0)),o_ (.bin .geq (.reg 1) (i_ 1)),o_ (.mov (.reg 2)),⟨.fieldAddr 0 (.loc 1),none,(some (3,true))⟩,⟨.load1 (.reg 4),none,(some (3,true))⟩,⟨.bin .leq (.reg 5) (i_ 14),none,(some (3,true))⟩,o_ (.pick (.reg 3) (.reg 6) (.cst (.bool false))),o_ (.mov (.reg 7)),⟨.fieldAddr 0 (.loc 1),none,(some (8,false))⟩,⟨.load1 (.reg 9),none,(some (8,false))⟩,⟨.bin .geq (.reg 10) (i_ 25),none,(some (8,false))⟩,⟨.mov (.reg 11),none,(some (8,false))⟩,⟨.fieldAddr 0 (.loc 1),none,(some (12,true))⟩,⟨.load1 (.reg 13),none,(some (12,true))⟩,⟨.bin .leq (.reg 14) (i_ 31),none,(some (12,true))⟩,⟨.pick (.reg 12) (.reg 15) (.cst (.bool false)),none,(some (8,false))⟩,s_ 5 (.pick (.reg 8) (.cst (.bool true)) (.reg 16))])
(.cond (.loc 5)
(.seq (.region [o_ (.mov (.loc 3)),o_ (.fieldAddr 2 (.loc 1)),o_ (.load1 (.reg 1)),o_ (.call true false 24 [(.reg 0),(.reg 2)]),s_ 3 (.mov (.reg 3))])
(.seq (.region [o_ (.mov (.loc 3)),o_ (.fieldAddr 3 (.loc 1)),o_ (.load1 (.reg 1)),o_ (.call true false 24 [(.reg 0),(.reg 2)]),s_ 2 (.mov (.reg 3))])
.ret))
.skip))
(.seq (.seq (.region [o_ (.fieldAddr 0 (.loc 1)),o_ (.load1 (.reg 0)),o_ (.bin .geq (.reg 1) (i_ 15)),o_ (.mov (.reg 2)),⟨.fieldAddr 0 (.loc 1),none,(some (3,true))⟩,⟨.load1 (.reg 4),none,(some (3,true))⟩,⟨.bin .leq (.reg 5) (i_ 24),none,(some (3,true))⟩,o_ (.pick (.reg 3) (.reg 6) (.cst (.bool false))),o_ (.mov (.reg 7)),⟨.fieldAddr 0 (.loc 1),none,(some (8,true))⟩,⟨.load1 (.reg 9),none,(some (8,true))⟩,⟨.bin .neq (.reg 10) (i_ 23),none,(some (8,true))⟩,o_ (.pick (.reg 8) (.reg 11) (.cst (.bool false))),o_ (.mov (.reg 12)),⟨.fieldAddr 0 (.loc 1),none,(some (13,false))⟩,⟨.load1 (.reg 14),none,(some (13,false))⟩,⟨.bin .eql (.reg 15) (i_ 64),none,(some (13,false))⟩,o_ (.pick (.reg 13) (.cst (.bool true)) (.reg 16)),o_ (.mov (.reg 17)),⟨.fieldAddr 0 (.loc 1),none,(some (18,false))⟩,⟨.load1 (.reg 19),none,(some (18,false))⟩,⟨.bin .eql (.reg 20) (i_ 74),none,(some (18,false))⟩,s_ 6 (.pick (.reg 18) (.cst (.bool true)) (.reg 21))])
(.cond (.loc 6)
(.seq (.region [o_ (.mov (.loc 3)),o_ (.fieldAddr 2 (.loc 1)),o_ (.load1 (.reg 1)),o_ (.call true false 24 [(.reg 0),(.reg 2)]),s_ 2 (.mov (.reg 3))])
.ret)
.skip))
(.seq (.seq (.region [o_ (.fieldAddr 0 (.loc 1)),o_ (.load1 (.reg 0)),o_ (.bin .eql (.reg 1) (i_ 67)),o_ (.mov (.reg 2)),⟨.fieldAddr 0 (.loc 1),none,(some (3,false))⟩,⟨.load1 (.reg 4),none,(some (3,false))⟩,⟨.bin .eql (.reg 5) (i_ 68),none,(some (3,false))⟩,o_ (.pick (.reg 3) (.cst (.bool true)) (.reg 6)),o_ (.mov (.reg 7)),⟨.fieldAddr 0 (.loc 1),none,(some (8,false))⟩,⟨.load1 (.reg 9),none,(some (8,false))⟩,⟨.bin .eql (.reg 10) (i_ 72),none,(some (8,false))⟩,s_ 7 (.pick (.reg 8) (.cst (.bool true)) (.reg 11))])
(.cond (.loc 7)
(.seq (.seq (.region [s_ 4 (.mov (i_ 0))])
(.block 0
(.loop t10L0)))
(.seq (.region [o_ (.mov (.loc 3)),o_ (.call true false 24 [(.reg 0),(i_ 26)]),s_ 2 (.mov (.reg 1))])
.ret))
.skip))
(.seq (.region [s_ 2 (.mov (.cst (.sl .nil [])))])
.ret))))))⟩
theorem c10 : compFunc Tryd.prog opts a10 Tryd.f10 = some t10 := by kernel_rfl
def a11 : Ann := { slots := [0,1,2,3,4,5,18,37,44,45],lb := [1],mu := [(2,2),(6,2),(8,2)],trunc := [],draws := [] }
def t11L0 : TCode := (.seq (.region [s_ 9 (.bin .lss (.loc 8) (i_ 25))])
(.seq (.cond (.loc 9)
.skip
(.exit 1))
(.seq (.block 2
(.seq (.region [o_ (.mov (.loc 8)),s_ 4 (.mov (.reg 0))])
(.region [o_ (.mov (.loc 3)),o_ (.mov (.loc 4)),o_ (.bin .add (.reg 1) (i_ 1)),o_ (.lit false [(.int .i64 0)] 1 [(0,(.reg 2))]),o_ (.append false 1 8 3 (.reg 0) (.reg 3)),s_ 3 (.mov (.reg 4))])))
(.region [o_ (.bin .add (.loc 8) (i_ 1)),s_ 8 (.mov (.reg 0))]))))
def t11 : TFunc := ⟨1,10,[.loc 2],
(.seq (.region [o_ (.boxL 1 (.loc 0)),s_ 2 (.mov (.cst (.sl .nil [])))])
(.seq (.block 0
(.seq (.region [o_ (.fieldAddr 0 (.loc 1)),o_ (.load1 (.reg 0)),o_ (.bin .geq (.reg 1) (i_ 1)),o_ (.mov (.reg 2)),⟨.fieldAddr 0 (.loc 1),none,(some (3,true))⟩,⟨.load1 (.reg 4),none,(some (3,true))⟩,⟨.bin .leq (.reg 5) (i_ 24),none,(some (3,true))⟩,o_ (.pick (.reg 3) (.reg 6) (.cst (.bool false))),s_ 5 (.mov (.reg 7))])
(.cond (.loc 5)
(.seq (.region [o_ (.fieldAddr 1 (.loc 1)),o_ (.load1 (.reg 0)),o_ (.lit true [(.int .i64 0)] 1 [(0,(.reg 1))]),o_ (.call false false 22 [(.reg 2)]),s_ 2 (.mov (.reg 3))])
.ret)
(.seq (.seq (.region [o_ (.fieldAddr 0 (.loc 1)),o_ (.load1 (.reg 0)),o_ (.bin .eql (.reg 1) (i_ 64)),s_ 6 (.mov (.reg 2))])
(.cond (.loc 6)
.skip
(.seq (.region [o_ (.fieldAddr 0 (.loc 1)),o_ (.load1 (.reg 0)),o_ (.bin .geq (.reg 1) (i_ 69)),o_ (.mov (.reg 2)),⟨.fieldAddr 0 (.loc 1),none,(some (3,true))⟩,⟨.load1 (.reg 4),none,(some (3,true))⟩,⟨.bin .leq (.reg 5) (i_ 71),none,(some (3,true))⟩,o_ (.pick (.reg 3) (.reg 6) (.cst (.bool false))),s_ 6 (.mov (.reg 7))])
(.cond (.loc 6)
.skip
(.region [o_ (.fieldAddr 0 (.loc 1)),o_ (.load1 (.reg 0)),o_ (.bin .eql (.reg 1) (i_ 73)),s_ 6 (.mov (.reg 2))])))))
(.cond (.loc 6)
(.seq (.region [o_ (.fieldAddr 1 (.loc 1)),o_ (.load1 (.reg 0)),o_ (.lit true [(.int .i64 0)] 1 [(0,(.reg 1))]),o_ (.call false false 22 [(.reg 2)]),s_ 2 (.mov (.reg 3))])
.ret)
(.seq (.region [o_ (.fieldAddr 0 (.loc 1)),o_ (.load1 (.reg 0)),o_ (.bin .eql (.reg 1) (i_ 67)),s_ 7 (.mov (.reg 2))])
(.cond (.loc 7)
(.seq (.region [o_ (.fieldAddr 1 (.loc 1)),o_ (.load1 (.reg 0)),o_ (.lit true [(.int .i64 0)] 3 [(0,(.reg 1)),(1,(i_ 26)),(2,(i_ 31))]),s_ 3 (.mov (.reg 2))])
(.seq (.seq (.region [s_ 8 (.mov (i_ 0))])
(.block 1
(.loop t11L0)))
(.seq (.region [o_ (.mov (.loc 3)),o_ (.call false false 22 [(.reg 0)]),s_ 2 (.mov (.reg 1))])
.ret)))
.skip)))))))
(.seq (.region [s_ 2 (.mov (.cst (.sl .nil [])))])
.ret)))⟩
theorem c11 : compFunc Tryd.prog opts a11 Tryd.f11 = some t11 := by kernel_rfl
def a13 : Ann := { slots := [0,1,2,3,4,5,12],lb := [1],mu := [],trunc := [],draws := [] }
def t13 : TFunc := ⟨1,7,[.loc 2,.loc 3],
(.seq (.region [o_ (.boxL 1 (.loc 0)),s_ 2 (.mov (.cst (.sl .nil []))),s_ 3 (.mov (i_ 0))])
(.seq (.region [o_ (.loadN 7 (.loc 1)),o_ (.call false false 25 [(.reg 0)]),o_ (.mov (.reg 1)),o_ (.extract 0 (.reg 2)),o_ (.extract 1 (.reg 2)),s_ 4 (.mov (.reg 3)),s_ 5 (.mov (.reg 4))])
(.seq (.seq (.region [o_ (.mov (.loc 5)),s_ 6 (.bin .neq (.reg 0) (i_ 0))])
(.cond (.loc 6)
(.seq (.region [o_ (.mov (.loc 5)),s_ 2 (.mov (.cst (.sl .nil []))),s_ 3 (.mov (.reg 0))])
.ret)
.skip))
(.seq (.region [o_ (.mov (.loc 4)),o_ (.nilCheck (.reg 0)),o_ (.fieldAddr 8 (.reg 1)),o_ (.load1 (.reg 2)),o_ (.call false false 26 [(.reg 3)]),s_ 2 (.mov (.reg 4)),s_ 3 (.mov (i_ 0))])
.ret))))⟩
theorem c13 : compFunc Tryd.prog opts a13 Tryd.f13 = some t13 := by kernel_rfl
def a15 : Ann := { slots := [0,1,2,3,4,5,12],lb := [1],mu := [],trunc := [],draws := [] }
def t15 : TFunc := ⟨1,7,[.loc 2,.loc 3],
(.seq (.region [o_ (.boxL 1 (.loc 0)),s_ 2 (.mov (.cst (.sl .nil []))),s_ 3 (.mov (i_ 0))])
(.seq (.region [o_ (.loadN 7 (.loc 1)),o_ (.call false false 25 [(.reg 0)]),o_ (.mov (.reg 1)),o_ (.extract 0 (.reg 2)),o_ (.extract 1 (.reg 2)),s_ 4 (.mov (.reg 3)),s_ 5 (.mov (.reg 4))])
(.seq (.seq (.region [o_ (.mov (.loc 5)),s_ 6 (.bin .neq (.reg 0) (i_ 0))])
(.cond (.loc 6)
(.seq (.region [o_ (.mov (.loc 5)),s_ 2 (.mov (.cst (.sl .nil []))),s_ 3 (.mov (.reg 0))])
.ret)
.skip))
(.seq (.region [o_ (.mov (.loc 4)),o_ (.nilCheck (.reg 0)),o_ (.fieldAddr 9 (.reg 1)),o_ (.load1 (.reg 2)),o_ (.call false false 26 [(.reg 3)]),s_ 2 (.mov (.reg 4)),s_ 3 (.mov (i_ 0))])
.ret))))⟩
theorem c15 : compFunc Tryd.prog opts a15 Tryd.f15 = some t15 := by kernel_rfl
def a18 : Ann := { slots := [0],lb := [0],mu := [],trunc := [],draws := [] }
def t18 : TFunc := ⟨0,1,[.cell 0 7 true],
(.seq (.region [o_ (.allocL 0 [(.int .i64 0),(.int .i64 0),(.int .i64 0),(.int .i64 0),(.int .i64 0),(.bool false),(.sl .nil [])])])
(.seq (.region [o_ (.build [(.int .i64 0),(.int .i64 0),(.int .i64 0),(.int .i64 0),(.int .i64 0),(.int .i64 0),(.sl .nil []),(.sl .nil [])] [(0,1,(i_ 64)),(1,1,(i_ 32)),(2,1,(i_ 4))]),o_ (.build [(.int .i64 0),(.int .i64 0),(.int .i64 0),(.int .i64 0),(.int .i64 0),(.int .i64 0),(.sl .nil []),(.sl .nil [])] [(0,1,(i_ 1)),(1,1,(i_ 33)),(2,1,(i_ 32)),(3,1,(i_ 32))]),o_ (.build [(.int .i64 0),(.int .i64 0),(.int .i64 0),(.int .i64 0),(.int .i64 0),(.int .i64 0),(.sl .nil []),(.sl .nil [])] [(0,1,(i_ 26)),(2,1,(i_ 33)),(5,1,(i_ 7))]),o_ (.build [(.int .i64 0),(.int .i64 0),(.int .i64 0),(.int .i64 0),(.int .i64 0),(.int .i64 0),(.sl .nil []),(.sl .nil [])] [(0,1,(i_ 25)),(2,1,(i_ 32)),(3,1,(i_ 33))]),o_ (.build [(.int .i64 0),(.int .i64 0),(.int .i64 0),(.int .i64 0),(.int .i64 0),(.int .i64 0),(.sl .nil []),(.sl .nil [])] [(0,1,(i_ 72)),(4,1,(i_ 106))]),o_ (.build [(.int .i64 0),(.int .i64 0),(.int .i64 0),(.int .i64 0),(.int .i64 0),(.int .i64 0),(.sl .nil []),(.sl .nil [])] [(0,1,(i_ 65)),(5,1,(i_ 7))]),o_ (.lit false [(.int .i64 0)] 1 [(0,(i_ 4))]),o_ (.build [(.int .i64 0),(.int .i64 0),(.int .i64 0),(.int .i64 0),(.int .i64 0),(.int .i64 0),(.sl .nil []),(.sl .nil [])] [(0,1,(i_ 67)),(4,1,(i_ 8)),(1,1,(i_ 4)),(6,1,(.reg 6))]),o_ (.build [(.int .i64 0),(.int .i64 0),(.int .i64 0),(.int .i64 0),(.int .i64 0),(.int .i64 0),(.sl .nil []),(.sl .nil [])] [(0,1,(i_ 72)),(4,1,(i_ 103))]),o_ (.lit false [(.int .i64 0),(.int .i64 0),(.int .i64 0),(.int .i64 0),(.int .i64 0),(.int .i64 0),(.sl .nil []),(.sl .nil [])] 8 [(0,(.reg 0)),(1,(.reg 1)),(2,(.reg 2)),(3,(.reg 3)),(4,(.reg 4)),(5,(.reg 5)),(6,(.reg 7)),(7,(.reg 8))]),o_ (.build [(.int .i64 0),(.int .i64 0),(.int .i64 0),(.int .i64 0),(.int .i64 0),(.bool false),(.sl .nil [])] [(1,1,(i_ 34)),(6,1,(.reg 9))]),o_ (.store 7 (.loc 0) (.reg 10))])
.ret))⟩
theorem c18 : compFunc Tryd.prog opts a18 Tryd.f18 = some t18 := by kernel_rfl
def a19 : Ann := { slots := [0,1,4,5,9,17],lb := [],mu := [],trunc := [],draws := [] }
def t19L0 : TCode := (.seq (.seq (.region [o_ (.mov (.loc 3)),o_ (.mov (.loc 0)),o_ (.len .sl (.reg 1)),s_ 4 (.bin .lss (.reg 0) (.reg 2))])
(.cond (.loc 4)
.skip
(.exit 0)))
(.seq (.block 1
(.seq (.region [o_ (.mov (.loc 0)),o_ (.mov (.loc 3)),o_ (.indexAddrS 1 (.reg 0) (.reg 1)),o_ (.load1 (.reg 2)),o_ (.mov (.loc 1)),s_ 5 (.bin .eql (.reg 3) (.reg 4))])
(.cond (.loc 5)
(.seq (.region [s_ 2 (.mov (.cst (.bool true)))])
.ret)
.skip)))
(.region [o_ (.mov (.loc 3)),o_ (.bin .add (.reg 0) (i_ 1)),s_ 3 (.mov (.reg 1))])))
def t19 : TFunc := ⟨2,6,[.loc 2],
(.seq (.region [s_ 2 (.mov (.cst (.bool false)))])
(.seq (.seq (.region [s_ 3 (.mov (i_ 0))])
(.block 0
(.loop t19L0)))
(.seq (.region [s_ 2 (.mov (.cst (.bool false)))])
.ret)))⟩
theorem c19 : compFunc Tryd.prog opts a19 Tryd.f19 = some t19 := by kernel_rfl
def a20 : Ann := { slots := [0,1,2,4,5,10,29],lb := [2],mu := [],trunc := [],draws := [] }
def t20L0 : TCode := (.seq (.seq (.region [o_ (.mov (.loc 4)),o_ (.fieldAddr 6 (.loc 2)),o_ (.load1 (.reg 1)),o_ (.len .sl (.reg 2)),s_ 5 (.bin .lss (.reg 0) (.reg 3))])
(.cond (.loc 5)
.skip
(.exit 0)))
(.seq (.block 1
(.seq (.region [o_ (.fieldAddr 6 (.loc 2)),o_ (.load1 (.reg 0)),o_ (.mov (.loc 4)),o_ (.indexAddrS 8 (.reg 1) (.reg 2)),o_ (.fieldAddr 0 (.reg 3)),o_ (.load1 (.reg 4)),o_ (.bin .eql (.reg 5) (i_ 65)),o_ (.mov (.reg 6)),⟨.fieldAddr 6 (.loc 2),none,(some (7,true))⟩,⟨.load1 (.reg 8),none,(some (7,true))⟩,⟨.mov (.loc 4),none,(some (7,true))⟩,⟨.indexAddrS 8 (.reg 9) (.reg 10),none,(some (7,true))⟩,⟨.fieldAddr 5 (.reg 11),none,(some (7,true))⟩,⟨.load1 (.reg 12),none,(some (7,true))⟩,⟨.mov (.loc 1),none,(some (7,true))⟩,⟨.bin .eql (.reg 13) (.reg 14),none,(some (7,true))⟩,s_ 6 (.pick (.reg 7) (.reg 15) (.cst (.bool false)))])
(.cond (.loc 6)
(.seq (.region [o_ (.mov (.loc 4)),s_ 3 (.mov (.reg 0))])
.ret)
.skip)))
(.region [o_ (.mov (.loc 4)),o_ (.bin .add (.reg 0) (i_ 1)),s_ 4 (.mov (.reg 1))])))
def t20 : TFunc := ⟨2,7,[.loc 3],
(.seq (.region [o_ (.boxL 2 (.loc 0)),s_ 3 (.mov (i_ 0))])
(.seq (.seq (.region [s_ 4 (.mov (i_ 0))])
(.block 0
(.loop t20L0)))
(.seq (.region [s_ 3 (.mov (i_ (-1)))])
.ret)))⟩
theorem c20 : compFunc Tryd.prog opts a20 Tryd.f20 = some t20 := by kernel_rfl
def a21 : Ann := { slots := [0,2],lb := [],mu := [],trunc := [],draws := [] }
def t21 : TFunc := ⟨1,2,[.loc 1],
(.seq (.region [s_ 1 (.mov (.cst (.bool false)))])
(.seq (.region [o_ (.mov (.loc 0)),o_ (.bin .geq (.reg 0) (i_ 26)),o_ (.mov (.reg 1)),⟨.mov (.loc 0),none,(some (2,true))⟩,⟨.bin .leq (.reg 3) (i_ 31),none,(some (2,true))⟩,o_ (.pick (.reg 2) (.reg 4) (.cst (.bool false))),s_ 1 (.mov (.reg 5))])
.ret))⟩
theorem c21 : compFunc Tryd.prog opts a21 Tryd.f21 = some t21 := by kernel_rfl
def a22 : Ann := { slots := [0,2],lb := [],mu := [],trunc := [],draws := [] }
def t22 : TFunc := ⟨1,2,[.loc 1],
(.seq (.region [s_ 1 (.mov (.cst (.sl .nil [])))])
(.seq (.region [o_ (.mov (.loc 0)),o_ (.call false false 30 [(.reg 0),(.fn 31)]),s_ 0 (.mov (.reg 1))])
(.seq (.region [o_ (.mov (.loc 0)),o_ (.prim 32 [(.reg 0)])])
(.seq (.region [o_ (.mov (.loc 0)),o_ (.call false false 33 [(.reg 0)]),s_ 1 (.mov (.reg 1))])
.ret))))⟩
theorem c22 : compFunc Tryd.prog opts a22 Tryd.f22 = some t22 := by kernel_rfl
def a23 : Ann := { slots := [0,2,4],lb := [],mu := [(3,2)],trunc := [],draws := [] }
def t23 : TFunc := ⟨1,3,[.loc 1],
(.seq (.region [s_ 1 (.mov (.cst (.sl .nil [])))])
(.seq (.seq (.region [o_ (.mov (.loc 0)),s_ 2 (.eqB false .sl (.reg 0) (.cst (.sl .nil [])))])
(.cond (.loc 2)
(.seq (.region [s_ 1 (.mov (.cst (.sl .nil [])))])
.ret)
.skip))
(.seq (.region [o_ (.lit false [(.int .i64 0)] 0 []),o_ (.mov (.loc 0)),o_ (.append true 1 8 3 (.reg 0) (.reg 1)),s_ 1 (.mov (.reg 2))])
.ret)))⟩
theorem c23 : compFunc Tryd.prog opts a23 Tryd.f23 = some t23 := by kernel_rfl
def a24 : Ann := { slots := [0,1,4,6],lb := [],mu := [],trunc := [],draws := [] }
def t24 : TFunc := ⟨2,4,[.loc 2],
(.seq (.region [s_ 2 (.mov (.cst (.sl .nil [])))])
(.seq (.seq (.region [o_ (.mov (.loc 1)),s_ 3 (.bin .leq (.reg 0) (i_ 0))])
(.cond (.loc 3)
(.seq (.region [o_ (.mov (.loc 0)),s_ 2 (.mov (.reg 0))])
.ret)
.skip))
(.seq (.region [o_ (.mov (.loc 0)),o_ (.mov (.loc 1)),o_ (.call true false 34 [(.reg 0),(.reg 1)]),s_ 2 (.mov (.reg 2))])
.ret)))⟩
theorem c24 : compFunc Tryd.prog opts a24 Tryd.f24 = some t24 := by kernel_rfl
def a25 : Ann := { slots := [0,1,2,3,4,5,6,7,8,9,10,11,12,13,14,18,36,37,38,39,59,103,107],lb := [11,10,1],mu := [],trunc := [],draws := [(5,⟨[0,0,0,4,0,16,63,127,255],[0,1,2,3,4,5,6,7,8],[]⟩),(6,⟨[0,1,0,4,3,31],[0,1,2,3,4,5],[]⟩),(10,⟨[0,1,3,7,0,16,63,127,255,255,0,1535,4095],[0,1,2,3,4,5,6,7,8,9,10],[(11,[],[12])]⟩),(12,⟨[0,1,3,7,0,16,0,64,255],[0,1,2,3,4,5,6,7],[(8,[],[])]⟩),(13,⟨[0,0,0,0,0,16,0,64,240,0,512,0,2544,8176,16371,32755,65535,131071],[0,1,2,3,4,5,6,9,10,11],[(7,[5,10,11],[]),(8,[10,11],[]),(12,[10],[]),(13,[],[14]),(15,[],[16]),(17,[],[])]⟩),(14,⟨[0,1,3,7,0,0,32,96,224,0,0,1024,3072,0,8192,31744,65023,130559,262143,524287],[0,1,2,3,4,5,6,7,8,9,10,11,13,14],[(12,[3,8,14],[]),(15,[3,8],[16]),(17,[],[18]),(19,[],[])]⟩),(22,⟨[0,0,0,0,12,28,0,0,192,448,1023,2047,4095,8191,16383],[0,1,2,3,4,5,6,7,8,9],[(10,[],[11,12,13,14])]⟩)] }
def t25L0 : TCode := (.seq (.seq (.region [o_ (.mov (.loc 14)), s_ 22 (.bin .geq (.reg 0) (i_ 0))])
(.cond (.loc 22)
.skip
(.exit 4)))
(.seq (.block 5
(.draw [0,1,2,3,4,5,6,7,8,9] [(10,[],[11,12,13,14])] [o_ (.mov (.loc 6)),o_ (.mov (.loc 14)),o_ (.mov (.loc 7)),o_ (.mov (.loc 14)),o_ (.indexAddrS 1 (.reg 2) (.reg 3)),o_ (.load1 (.reg 4)),o_ (.mov (.loc 8)),o_ (.mov (.loc 14)),o_ (.indexAddrS 1 (.reg 6) (.reg 7)),o_ (.load1 (.reg 8)),o_ (.call false false 37 [(.reg 0),(.reg 1),(.reg 5),(.reg 9)]),o_ (.mov (.reg 10)),⟨.mov (.loc 13),none,(some (11,false))⟩,o_ (.pick (.reg 11) (.cst (.bool true)) (.reg 12)),s_ 13 (.mov (.reg 13))]))
(.region [o_ (.mov (.loc 14)),o_ (.bin .sub (.reg 0) (i_ 1)),s_ 14 (.mov (.reg 1))])))
def t25L1 : TCode := (.seq (.seq (.region [s_ 21 (.mov (.loc 13))])
(.cond (.loc 21)
.skip
(.exit 2)))
(.block 3
(.seq (.region [s_ 13 (.mov (.cst (.bool false)))])
(.seq (.region [o_ (.mov (.loc 5)),o_ (.bin .sub (.reg 0) (i_ 1)),s_ 14 (.mov (.reg 1))])
(.block 4
(.loop t25L0))))))
def t25L2 : TCode := (.seq (.region [s_ 19 (.bin .lss (.loc 18) (.loc 17))])
(.seq (.cond (.loc 19)
.skip
(.exit 0))
(.seq (.block 1
(.seq (.region [o_ (.mov (.loc 18)),o_ (.indexAddrS 8 (.loc 16) (.loc 18)),o_ (.loadN 8 (.reg 1)),o_ (.allocL 10 [(.int .i64 0),(.int .i64 0),(.int .i64 0),(.int .i64 0),(.int .i64 0),(.int .i64 0),(.sl .nil []),(.sl .nil [])]),s_ 9 (.mov (.reg 0)),o_ (.store 8 (.reg 3) (.reg 2))])
(.seq (.seq (.draw [0,1,2,3,4,5,6,7,8,9,10] [(11,[],[12])] [o_ (.mov (.loc 6)),o_ (.nilCheck (.reg 0)),o_ (.fieldAddr 7 (.reg 1)),o_ (.load1 (.reg 2)),o_ (.fieldAddr 5 (.loc 10)),o_ (.load1 (.reg 4)),o_ (.lookup (.leaf .int) (.agg [(.int .i64 0)]) true (.reg 3) (.reg 5)),o_ (.mov (.reg 6)),o_ (.extract 0 (.reg 7)),o_ (.extract 1 (.reg 7)),s_ 11 (.allocH 63 [(.int .i64 0)]),o_ (.store 1 (.reg 10) (.reg 8)),s_ 12 (.mov (.reg 9))])
(.seq (.region [o_ (.fieldAddr 0 (.loc 10)),o_ (.load1 (.reg 0)),o_ (.bin .eql (.reg 1) (i_ 65)),o_ (.mov (.reg 2)),⟨.mov (.loc 12),none,(some (3,true))⟩,⟨.un .not (.reg 4),none,(some (3,true))⟩,s_ 20 (.pick (.reg 3) (.reg 5) (.cst (.bool false)))])
(.cond (.loc 20)
(.draw [0,1,2,3,4,5,6,7] [(8,[],[])] [o_ (.mov (.loc 6)),o_ (.nilCheck (.reg 0)),o_ (.fieldAddr 7 (.reg 1)),o_ (.load1 (.reg 2)),o_ (.fieldAddr 5 (.loc 10)),o_ (.load1 (.reg 4)),o_ (.mov (.loc 9)),o_ (.build [(.int .i64 0)] [(0,1,(.reg 6))]),o_ (.update (.leaf .int) (.reg 3) (.reg 5) (.reg 7))])
.skip)))
(.seq (.draw [0,1,2,3,4,5,6,9,10,11] [(7,[5,10,11],[]),(8,[10,11],[]),(12,[10],[]),(13,[],[14]),(15,[],[16]),(17,[],[])] [o_ (.mov (.loc 7)),o_ (.mov (.loc 9)),o_ (.mov (.loc 8)),o_ (.mov (.loc 9)),o_ (.fieldAddr 1 (.loc 1)),o_ (.load1 (.reg 4)),o_ (.loadN 8 (.loc 10)),o_ (.call true false 9 [(.reg 6)]),o_ (.call false false 36 [(.reg 5),(.reg 7)]),o_ (.fieldAddr 1 (.loc 1)),o_ (.load1 (.reg 9)),o_ (.loadN 8 (.loc 10)),o_ (.call true false 11 [(.reg 11)]),o_ (.call false false 36 [(.reg 10),(.reg 12)]),o_ (.indexAddrS 1 (.reg 0) (.reg 1)),o_ (.store 1 (.reg 14) (.reg 8)),o_ (.indexAddrS 1 (.reg 2) (.reg 3)),o_ (.store 1 (.reg 16) (.reg 13))])
(.draw [0,1,2,3,4,5,6,7,8,9,10,11,13,14] [(12,[3,8,14],[]),(15,[3,8],[16]),(17,[],[18]),(19,[],[])] [o_ (.mov (.loc 6)),o_ (.nilCheck (.reg 0)),o_ (.fieldAddr 8 (.reg 1)),o_ (.load1 (.reg 2)),o_ (.mov (.loc 9)),o_ (.mov (.loc 6)),o_ (.nilCheck (.reg 5)),o_ (.fieldAddr 9 (.reg 6)),o_ (.load1 (.reg 7)),o_ (.mov (.loc 9)),o_ (.fieldAddr 1 (.loc 1)),o_ (.load1 (.reg 10)),o_ (.call false false 36 [(.reg 11),(.cst (.sl .nil []))]),o_ (.fieldAddr 1 (.loc 1)),o_ (.load1 (.reg 13)),o_ (.call false false 36 [(.reg 14),(.cst (.sl .nil []))]),o_ (.indexAddrS 1 (.reg 3) (.reg 4)),o_ (.store 1 (.reg 16) (.reg 12)),o_ (.indexAddrS 1 (.reg 8) (.reg 9)),o_ (.store 1 (.reg 18) (.reg 15))])))))
(.region [o_ (.bin .add (.loc 18) (i_ 1)),s_ 18 (.mov (.reg 0))]))))
def t25 : TFunc := ⟨1,23,[.loc 2,.loc 3],
(.seq (.region [o_ (.boxL 1 (.loc 0)),s_ 2 (.mov (.cst .nilp)),s_ 3 (.mov (i_ 0))])
(.seq (.seq (.region [o_ (.loadN 7 (.loc 1)),o_ (.call true false 35 [(.reg 0)]),s_ 4 (.mov (.reg 1))])
(.seq (.region [o_ (.mov (.loc 4)),s_ 15 (.bin .neq (.reg 0) (i_ 0))])
(.cond (.loc 15)
(.seq (.region [o_ (.mov (.loc 4)),s_ 2 (.mov (.cst .nilp)),s_ 3 (.mov (.reg 0))])
.ret)
.skip)))
(.seq (.region [o_ (.fieldAddr 6 (.loc 1)),o_ (.load1 (.reg 0)),o_ (.len .sl (.reg 1)),s_ 5 (.mov (.reg 2))])
(.seq (.draw [0,1,2,3,4,5,6,7,8] [] [o_ (.loadN 7 (.loc 1)),o_ (.mkMap),o_ (.mov (.loc 5)),o_ (.mkSlice [(.sl .nil [])] 24 (.reg 2) (.reg 2)),o_ (.mov (.loc 5)),o_ (.mkSlice [(.sl .nil [])] 24 (.reg 4) (.reg 4)),o_ (.build [(.int .i64 0),(.int .i64 0),(.int .i64 0),(.int .i64 0),(.int .i64 0),(.bool false),(.sl .nil []),.nilm,(.sl .nil []),(.sl .nil [])] [(0,7,(.reg 0)),(7,1,(.reg 1)),(8,1,(.reg 3)),(9,1,(.reg 5))]),o_ (.boxH 54 (.reg 6)),s_ 6 (.mov (.reg 7))])
(.seq (.draw [0,1,2,3,4,5] [] [o_ (.mov (.loc 5)),o_ (.mkSlice [(.sl .nil [])] 24 (.reg 0) (.reg 0)),o_ (.mov (.loc 5)),o_ (.mkSlice [(.sl .nil [])] 24 (.reg 2) (.reg 2)),s_ 7 (.mov (.reg 1)),s_ 8 (.mov (.reg 3))])
(.seq (.seq (.region [o_ (.fieldAddr 6 (.loc 1)),s_ 16 (.load1 (.reg 0)),s_ 17 (.len .sl (.reg 1)),s_ 18 (.mov (i_ 0))])
(.block 0
(.loop t25L2)))
(.seq (.seq (.region [s_ 13 (.mov (.cst (.bool true)))])
(.block 2
(.loop t25L1)))
(.seq (.region [o_ (.mov (.loc 6)),s_ 2 (.mov (.reg 0)),s_ 3 (.mov (i_ 0))])
.ret))))))))⟩
theorem c25 : compFunc Tryd.prog opts a25 Tryd.f25 = some t25 := by kernel_rfl
def a26 : Ann := { slots := [0,2,4,5,6,7,8],lb := [],mu := [],trunc := [],draws := [] }
def t26L0 : TCode := (.seq (.region [s_ 6 (.bin .lss (.loc 5) (.loc 4))])
(.seq (.cond (.loc 6)
.skip
(.exit 0))
(.seq (.block 1
(.seq (.region [o_ (.indexAddrS 1 (.loc 3) (.loc 5)),o_ (.load1 (.reg 0)),s_ 2 (.mov (.reg 1))])
(.region [o_ (.mov (.loc 1)),o_ (.mov (.loc 2)),o_ (.call true false 38 [(.reg 1)]),o_ (.lit false [(.sl .nil [])] 1 [(0,(.reg 2))]),o_ (.append false 1 24 28 (.reg 0) (.reg 3)),s_ 1 (.mov (.reg 4))])))
(.region [o_ (.bin .add (.loc 5) (i_ 1)),s_ 5 (.mov (.reg 0))]))))
def t26 : TFunc := ⟨1,7,[.loc 1],
(.seq (.region [s_ 1 (.mov (.cst (.sl .nil [])))])
(.seq (.seq (.region [s_ 3 (.mov (.loc 0)),s_ 4 (.len .sl (.reg 0)),s_ 5 (.mov (i_ 0))])
(.block 0
(.loop t26L0)))
(.seq (.region [o_ (.mov (.loc 1)),s_ 1 (.mov (.reg 0))])
.ret)))⟩
theorem c26 : compFunc Tryd.prog opts a26 Tryd.f26 = some t26 := by kernel_rfl
def a30 : Ann := { slots := [0,1,4,5,6,7,12,19,29],lb := [],mu := [],trunc := [],draws := [] }
def t30L0 : TCode := (.seq (.seq (.region [o_ (.mov (.loc 4)),o_ (.mov (.loc 0)),o_ (.len .sl (.reg 1)),s_ 7 (.bin .lss (.reg 0) (.reg 2))])
(.cond (.loc 7)
.skip
(.exit 0)))
(.seq (.block 1
(.seq (.region [o_ (.mov (.loc 0)),o_ (.mov (.loc 4)),o_ (.indexAddrS 1 (.reg 0) (.reg 1)),o_ (.load1 (.reg 2)),s_ 5 (.mov (.reg 3))])
(.seq (.region [o_ (.mov (.loc 1)),o_ (.mov (.loc 5)),o_ (.callv (.reg 0) [(.reg 1)]),s_ 8 (.un .not (.reg 2))])
(.cond (.loc 8)
(.seq (.region [o_ (.mov (.loc 0)),o_ (.mov (.loc 3)),o_ (.mov (.loc 5)),o_ (.indexAddrS 1 (.reg 0) (.reg 1)),o_ (.store 1 (.reg 3) (.reg 2))])
(.region [o_ (.mov (.loc 3)),o_ (.bin .add (.reg 0) (i_ 1)),s_ 3 (.mov (.reg 1))]))
.skip))))
(.region [o_ (.mov (.loc 4)),o_ (.bin .add (.reg 0) (i_ 1)),s_ 4 (.mov (.reg 1))])))
def t30 : TFunc := ⟨2,9,[.loc 2],
(.seq (.region [s_ 2 (.mov (.cst (.sl .nil [])))])
(.seq (.region [o_ (.mov (.loc 0)),o_ (.mov (.loc 1)),o_ (.call false false 42 [(.reg 0),(.reg 1)]),s_ 3 (.mov (.reg 2))])
(.seq (.seq (.region [o_ (.mov (.loc 3)),s_ 6 (.bin .eql (.reg 0) (i_ (-1)))])
(.cond (.loc 6)
(.seq (.region [o_ (.mov (.loc 0)),s_ 2 (.mov (.reg 0))])
.ret)
.skip))
(.seq (.seq (.region [o_ (.mov (.loc 3)),o_ (.bin .add (.reg 0) (i_ 1)),s_ 4 (.mov (.reg 1))])
(.block 0
(.loop t30L0)))
(.seq (.region [o_ (.mov (.loc 0)),o_ (.mov (.loc 3)),o_ (.slice (.sl 1) (.reg 0) (some (.reg 1)) none none),o_ (.clear [(.int .i64 0)] (.reg 2))])
(.seq (.region [o_ (.mov (.loc 0)),o_ (.mov (.loc 3)),o_ (.slice (.sl 1) (.reg 0) none (some (.reg 1)) none),s_ 2 (.mov (.reg 2))])
.ret))))))⟩
theorem c30 : compFunc Tryd.prog opts a30 Tryd.f30 = some t30 := by kernel_rfl
def a31 : Ann := { slots := [0,2],lb := [],mu := [],trunc := [],draws := [] }
def t31 : TFunc := ⟨1,2,[.loc 1],
(.seq (.region [s_ 1 (.mov (.cst (.bool false)))])
(.seq (.region [o_ (.mov (.loc 0)),o_ (.bin .leq (.reg 0) (i_ 0)),s_ 1 (.mov (.reg 1))])
.ret))⟩
theorem c31 : compFunc Tryd.prog opts a31 Tryd.f31 = some t31 := by kernel_rfl
def a33 : Ann := { slots := [0,2,3,4,5,8,13,25,32,44],lb := [],mu := [],trunc := [],draws := [(6,⟨[0,0,3,7,0,0,32,112,240,511],[0,1,2,3,4,5,6,7,8,9],[]⟩),(11,⟨[0,0,3,7,0,0,32,112,240,511],[0,1,2,3,4,5,6,7,8,9],[]⟩)] }
def t33L0 : TCode := (.seq (.seq (.region [o_ (.mov (.loc 4)), o_ (.mov (.loc 3)), o_ (.len .sl (.reg 1)), s_ 8 (.bin .lss (.reg 0) (.reg 2))])
(.cond (.loc 8)
.skip
(.exit 2)))
(.seq (.block 3
(.seq (.draw [0,1,2,3,4,5,6,7,8,9] [] [o_ (.mov (.loc 3)),o_ (.mov (.loc 4)),o_ (.indexAddrS 1 (.reg 0) (.reg 1)),o_ (.load1 (.reg 2)),o_ (.mov (.loc 3)),o_ (.mov (.loc 4)),o_ (.bin .sub (.reg 5) (i_ 1)),o_ (.indexAddrS 1 (.reg 4) (.reg 6)),o_ (.load1 (.reg 7)),s_ 9 (.bin .neq (.reg 3) (.reg 8))])
(.cond (.loc 9)
(.seq (.region [o_ (.mov (.loc 0)),o_ (.mov (.loc 2)),o_ (.mov (.loc 3)),o_ (.mov (.loc 4)),o_ (.indexAddrS 1 (.reg 2) (.reg 3)),o_ (.load1 (.reg 4)),o_ (.indexAddrS 1 (.reg 0) (.reg 1)),o_ (.store 1 (.reg 6) (.reg 5))])
(.region [o_ (.mov (.loc 2)),o_ (.bin .add (.reg 0) (i_ 1)),s_ 2 (.mov (.reg 1))]))
.skip)))
(.region [o_ (.mov (.loc 4)),o_ (.bin .add (.reg 0) (i_ 1)),s_ 4 (.mov (.reg 1))])))
def t33L1 : TCode := (.seq (.seq (.region [o_ (.mov (.loc 2)),o_ (.mov (.loc 0)),o_ (.len .sl (.reg 1)),s_ 6 (.bin .lss (.reg 0) (.reg 2))])
(.cond (.loc 6)
.skip
(.exit 0)))
(.seq (.block 1
(.seq (.draw [0,1,2,3,4,5,6,7,8,9] [] [o_ (.mov (.loc 0)),o_ (.mov (.loc 2)),o_ (.indexAddrS 1 (.reg 0) (.reg 1)),o_ (.load1 (.reg 2)),o_ (.mov (.loc 0)),o_ (.mov (.loc 2)),o_ (.bin .sub (.reg 5) (i_ 1)),o_ (.indexAddrS 1 (.reg 4) (.reg 6)),o_ (.load1 (.reg 7)),s_ 7 (.bin .eql (.reg 3) (.reg 8))])
(.cond (.loc 7)
(.seq (.region [o_ (.mov (.loc 0)),o_ (.mov (.loc 2)),o_ (.slice (.sl 1) (.reg 0) (some (.reg 1)) none none),s_ 3 (.mov (.reg 2))])
(.seq (.seq (.region [s_ 4 (.mov (i_ 1))])
(.block 2
(.loop t33L0)))
(.seq (.region [o_ (.mov (.loc 0)),o_ (.mov (.loc 2)),o_ (.slice (.sl 1) (.reg 0) (some (.reg 1)) none none),o_ (.clear [(.int .i64 0)] (.reg 2))])
(.seq (.region [o_ (.mov (.loc 0)),o_ (.mov (.loc 2)),o_ (.slice (.sl 1) (.reg 0) none (some (.reg 1)) none),s_ 1 (.mov (.reg 2))])
.ret))))
.skip)))
(.region [o_ (.mov (.loc 2)),o_ (.bin .add (.reg 0) (i_ 1)),s_ 2 (.mov (.reg 1))])))
def t33 : TFunc := ⟨1,10,[.loc 1],
(.seq (.region [s_ 1 (.mov (.cst (.sl .nil [])))])
(.seq (.seq (.region [o_ (.mov (.loc 0)),o_ (.len .sl (.reg 0)),s_ 5 (.bin .lss (.reg 1) (i_ 2))])
(.cond (.loc 5)
(.seq (.region [o_ (.mov (.loc 0)),s_ 1 (.mov (.reg 0))])
.ret)
.skip))
(.seq (.seq (.region [s_ 2 (.mov (i_ 1))])
(.block 0
(.loop t33L1)))
(.seq (.region [o_ (.mov (.loc 0)),s_ 1 (.mov (.reg 0))])
.ret))))⟩
theorem c33 : compFunc Tryd.prog opts a33 Tryd.f33 = some t33 := by kernel_rfl
def a34 : Ann := { slots := [0,1,4,5,6,9,22],lb := [],mu := [],trunc := [],draws := [] }
def t34L0 : TCode := (.seq (.seq (.region [o_ (.mov (.loc 3)),o_ (.mov (.loc 0)),o_ (.len .sl (.reg 1)),o_ (.bin .lss (.reg 0) (.reg 2)),o_ (.mov (.reg 3)),⟨.mov (.loc 0),none,(some (4,true))⟩,⟨.mov (.loc 3),none,(some (4,true))⟩,⟨.indexAddrS 1 (.reg 5) (.reg 6),none,(some (4,true))⟩,⟨.load1 (.reg 7),none,(some (4,true))⟩,⟨.mov (.loc 1),none,(some (4,true))⟩,⟨.bin .lss (.reg 8) (.reg 9),none,(some (4,true))⟩,s_ 6 (.pick (.reg 4) (.reg 10) (.cst (.bool false)))])
(.cond (.loc 6)
.skip
(.exit 0)))
(.block 1
(.region [o_ (.mov (.loc 3)),o_ (.bin .add (.reg 0) (i_ 1)),s_ 3 (.mov (.reg 1))])))
def t34 : TFunc := ⟨2,7,[.loc 2],
(.seq (.region [s_ 2 (.mov (.cst (.sl .nil [])))])
(.seq (.seq (.region [o_ (.mov (.loc 0)),o_ (.mov (.loc 1)),s_ 5 (.call true false 40 [(.reg 0),(.reg 1)])])
(.cond (.loc 5)
(.seq (.region [o_ (.mov (.loc 0)),s_ 2 (.mov (.reg 0))])
.ret)
.skip))
(.seq (.region [s_ 3 (.mov (i_ 0))])
(.seq (.block 0
(.loop t34L0))
(.seq (.region [s_ 4 (.mov (.cst (.sl .nil [])))])
(.seq (.region [o_ (.mov (.loc 4)),o_ (.mov (.loc 0)),o_ (.mov (.loc 3)),o_ (.slice (.sl 1) (.reg 1) none (some (.reg 2)) none),o_ (.append false 1 8 3 (.reg 0) (.reg 3)),s_ 4 (.mov (.reg 4))])
(.seq (.region [o_ (.mov (.loc 4)),o_ (.mov (.loc 1)),o_ (.lit false [(.int .i64 0)] 1 [(0,(.reg 1))]),o_ (.append false 1 8 3 (.reg 0) (.reg 2)),s_ 4 (.mov (.reg 3))])
(.seq (.region [o_ (.mov (.loc 4)),o_ (.mov (.loc 0)),o_ (.mov (.loc 3)),o_ (.slice (.sl 1) (.reg 1) (some (.reg 2)) none none),o_ (.append false 1 8 3 (.reg 0) (.reg 3)),s_ 2 (.mov (.reg 4))])
.ret))))))))⟩
theorem c34 : compFunc Tryd.prog opts a34 Tryd.f34 = some t34 := by kernel_rfl
def a35 : Ann := { slots := [0,1,2,3,5,7,8,9,33,36,37,38,39,44,52,53,54,55,74,115,125,126],lb := [7,5],mu := [],trunc := [],draws := [] }
def t35L0 : TCode := (.seq (.region [s_ 17 (.bin .lss (.loc 16) (.loc 15))])
(.seq (.cond (.loc 17)
.skip
(.exit 2))
(.seq (.block 3
(.seq (.region [o_ (.indexAddrS 8 (.loc 14) (.loc 16)),o_ (.loadN 8 (.reg 0)),o_ (.allocL 5 [(.int .i64 0),(.int .i64 0),(.int .i64 0),(.int .i64 0),(.int .i64 0),(.int .i64 0),(.sl .nil []),(.sl .nil [])]),o_ (.store 8 (.reg 2) (.reg 1))])
(.seq (.region [o_ (.fieldAddr 2 (.loc 5)),o_ (.load1 (.reg 0)),o_ (.fieldAddr 3 (.loc 5)),o_ (.load1 (.reg 2)),o_ (.lit false [(.int .i64 0)] 2 [(0,(.reg 1)),(1,(.reg 3))]),o_ (.fieldAddr 6 (.loc 5)),o_ (.load1 (.reg 5)),o_ (.lit false [(.sl .nil [])] 2 [(0,(.reg 4)),(1,(.reg 6))]),o_ (.call false false 45 [(.reg 7)]),s_ 6 (.mov (.reg 8))])
(.seq (.seq (.region [o_ (.fieldAddr 0 (.loc 5)),o_ (.load1 (.reg 0)),o_ (.bin .neq (.reg 1) (i_ 67)),o_ (.mov (.reg 2)),⟨.fieldAddr 1 (.loc 5),none,(some (3,false))⟩,⟨.load1 (.reg 4),none,(some (3,false))⟩,⟨.bin .geq (.reg 5) (i_ 0),none,(some (3,false))⟩,s_ 18 (.pick (.reg 3) (.cst (.bool true)) (.reg 6))])
(.cond (.loc 18)
(.region [o_ (.mov (.loc 6)),o_ (.fieldAddr 1 (.loc 5)),o_ (.load1 (.reg 1)),o_ (.lit false [(.int .i64 0)] 1 [(0,(.reg 2))]),o_ (.append false 1 8 3 (.reg 0) (.reg 3)),s_ 6 (.mov (.reg 4))])
.skip))
(.seq (.region [o_ (.fieldAddr 0 (.loc 5)),o_ (.load1 (.reg 0)),o_ (.bin .geq (.reg 1) (i_ 26)),o_ (.mov (.reg 2)),⟨.fieldAddr 0 (.loc 5),none,(some (3,true))⟩,⟨.load1 (.reg 4),none,(some (3,true))⟩,⟨.bin .leq (.reg 5) (i_ 31),none,(some (3,true))⟩,o_ (.pick (.reg 3) (.reg 6) (.cst (.bool false))),o_ (.mov (.reg 7)),⟨.fieldAddr 0 (.loc 5),none,(some (8,false))⟩,⟨.load1 (.reg 9),none,(some (8,false))⟩,⟨.bin .eql (.reg 10) (i_ 66),none,(some (8,false))⟩,o_ (.pick (.reg 8) (.cst (.bool true)) (.reg 11)),o_ (.mov (.reg 12)),⟨.fieldAddr 0 (.loc 5),none,(some (13,false))⟩,⟨.load1 (.reg 14),none,(some (13,false))⟩,⟨.bin .eql (.reg 15) (i_ 65),none,(some (13,false))⟩,o_ (.pick (.reg 13) (.cst (.bool true)) (.reg 16)),s_ 7 (.mov (.reg 17))])
(.seq (.region [o_ (.loadN 8 (.loc 5)),o_ (.call true false 46 [(.reg 0)]),o_ (.un .not (.reg 1)),o_ (.mov (.reg 2)),⟨.mov (.loc 6),none,(some (3,false))⟩,⟨.mkFn 48 [] [(.loc 1)],none,(some (3,false))⟩,⟨.call false false 47 [(.reg 4),(.reg 5)],none,(some (3,false))⟩,o_ (.pick (.reg 3) (.cst (.bool true)) (.reg 6)),o_ (.mov (.reg 7)),⟨.mov (.loc 7),none,(some (8,false))⟩,⟨.mov (.reg 9),none,(some (8,false))⟩,⟨.mov (.loc 3),none,(some (10,true))⟩,⟨.fieldAddr 5 (.loc 5),none,(some (10,true))⟩,⟨.load1 (.reg 12),none,(some (10,true))⟩,⟨.lookup (.leaf .int) (.int .i64 0) false (.reg 11) (.reg 13),none,(some (10,true))⟩,⟨.bin .neq (.reg 14) (i_ 1),none,(some (10,true))⟩,⟨.pick (.reg 10) (.reg 15) (.cst (.bool false)),none,(some (8,false))⟩,s_ 19 (.pick (.reg 8) (.cst (.bool true)) (.reg 16))])
(.cond (.loc 19)
(.seq (.region [s_ 2 (.mov (i_ 2))])
.ret)
.skip)))))))
(.region [o_ (.bin .add (.loc 16) (i_ 1)),s_ 16 (.mov (.reg 0))]))))
def t35L1 : TCode := (.seq (.region [s_ 12 (.bin .lss (.loc 11) (.loc 10))])
(.seq (.cond (.loc 12)
.skip
(.exit 0))
(.seq (.block 1
(.seq (.region [o_ (.indexAddrS 8 (.loc 9) (.loc 11)),o_ (.loadN 8 (.reg 0)),o_ (.allocL 4 [(.int .i64 0),(.int .i64 0),(.int .i64 0),(.int .i64 0),(.int .i64 0),(.int .i64 0),(.sl .nil []),(.sl .nil [])]),o_ (.store 8 (.reg 2) (.reg 1))])
(.seq (.region [o_ (.fieldAddr 0 (.loc 4)),o_ (.load1 (.reg 0)),s_ 13 (.bin .eql (.reg 1) (i_ 65))])
(.cond (.loc 13)
(.region [o_ (.mov (.loc 3)),o_ (.fieldAddr 5 (.loc 4)),o_ (.load1 (.reg 1)),o_ (.lookup (.leaf .int) (.int .i64 0) false (.reg 0) (.reg 2)),o_ (.bin .add (.reg 3) (i_ 1)),o_ (.update (.leaf .int) (.reg 0) (.reg 2) (.reg 4))])
.skip))))
(.region [o_ (.bin .add (.loc 11) (i_ 1)),s_ 11 (.mov (.reg 0))]))))
def t35 : TFunc := ⟨1,22,[.loc 2],
(.seq (.region [s_ 1 (.boxH 25 (.loc 0)),s_ 2 (.mov (i_ 0))])
(.seq (.seq (.region [o_ (.fieldAddr 1 (.loc 1)),o_ (.load1 (.reg 0)),o_ (.bin .lss (.reg 1) (i_ 32)),o_ (.mov (.reg 2)),⟨.fieldAddr 3 (.loc 1),none,(some (3,false))⟩,⟨.load1 (.reg 4),none,(some (3,false))⟩,⟨.bin .lss (.reg 5) (i_ 0),none,(some (3,false))⟩,o_ (.pick (.reg 3) (.cst (.bool true)) (.reg 6)),o_ (.mov (.reg 7)),⟨.fieldAddr 2 (.loc 1),none,(some (8,false))⟩,⟨.load1 (.reg 9),none,(some (8,false))⟩,⟨.bin .lss (.reg 10) (i_ 0),none,(some (8,false))⟩,o_ (.pick (.reg 8) (.cst (.bool true)) (.reg 11)),o_ (.mov (.reg 12)),⟨.fieldAddr 4 (.loc 1),none,(some (13,false))⟩,⟨.load1 (.reg 14),none,(some (13,false))⟩,⟨.bin .lss (.reg 15) (i_ 0),none,(some (13,false))⟩,o_ (.pick (.reg 13) (.cst (.bool true)) (.reg 16)),o_ (.mov (.reg 17)),⟨.fieldAddr 6 (.loc 1),none,(some (18,false))⟩,⟨.load1 (.reg 19),none,(some (18,false))⟩,⟨.len .sl (.reg 20),none,(some (18,false))⟩,⟨.bin .eql (.reg 21) (i_ 0),none,(some (18,false))⟩,s_ 8 (.pick (.reg 18) (.cst (.bool true)) (.reg 22))])
(.cond (.loc 8)
(.seq (.region [s_ 2 (.mov (i_ 2))])
.ret)
.skip))
(.seq (.region [o_ (.mkMap),s_ 3 (.mov (.reg 0))])
(.seq (.seq (.region [o_ (.fieldAddr 6 (.loc 1)),s_ 9 (.load1 (.reg 0)),s_ 10 (.len .sl (.reg 1)),s_ 11 (.mov (i_ 0))])
(.block 0
(.loop t35L1)))
(.seq (.seq (.region [o_ (.fieldAddr 6 (.loc 1)),s_ 14 (.load1 (.reg 0)),s_ 15 (.len .sl (.reg 1)),s_ 16 (.mov (i_ 0))])
(.block 2
(.loop t35L0)))
(.seq (.seq (.region [o_ (.fieldAddr 6 (.loc 1)),o_ (.load1 (.reg 0)),o_ (.fieldAddr 6 (.loc 1)),o_ (.load1 (.reg 2)),o_ (.len .sl (.reg 3)),o_ (.bin .sub (.reg 4) (i_ 1)),o_ (.indexAddrS 8 (.reg 1) (.reg 5)),o_ (.fieldAddr 0 (.reg 6)),s_ 20 (.load1 (.reg 7))])
(.block 4
(.seq (.seq (.region [o_ (.bin .eql (.loc 20) (i_ 66)),s_ 21 (.mov (.reg 0))])
(.cond (.loc 21)
.skip
(.seq (.region [o_ (.bin .eql (.loc 20) (i_ 68)),s_ 21 (.mov (.reg 0))])
(.cond (.loc 21)
.skip
(.region [o_ (.bin .eql (.loc 20) (i_ 72)),s_ 21 (.mov (.reg 0))])))))
(.cond (.loc 21)
(.seq (.region [s_ 2 (.mov (i_ 0))])
.ret)
.skip))))
(.seq (.region [s_ 2 (.mov (i_ 2))])
.ret)))))))⟩
theorem c35 : compFunc Tryd.prog opts a35 Tryd.f35 = some t35 := by kernel_rfl
def a36 : Ann := { slots := [0,1,4,5,7,13,14,15,16,21],lb := [],mu := [],trunc := [],draws := [(6,⟨[0,0,2,7,15,0,32,96,255,511,1023],[0,1,2,3,4,5,6,7,8,9],[(10,[],[])]⟩)] }
def t36L0 : TCode := (.seq (.region [s_ 8 (.bin .lss (.loc 7) (.loc 6))])
(.seq (.cond (.loc 8)
.skip
(.exit 0))
(.seq (.block 1
(.seq (.region [o_ (.indexAddrS 1 (.loc 5) (.loc 7)),o_ (.load1 (.reg 0)),s_ 4 (.mov (.reg 1))])
(.seq (.region [o_ (.mov (.loc 4)),o_ (.mov (.loc 0)),s_ 9 (.bin .lss (.reg 0) (.reg 1))])
(.cond (.loc 9)
(.draw [0,1,2,3,4,5,6,7,8,9] [(10,[],[])] [o_ (.mov (.loc 3)),o_ (.mov (.loc 4)),o_ (.bin .quo (.reg 1) (i_ 64)),o_ (.indexAddrS 1 (.reg 0) (.reg 2)),o_ (.load1 (.reg 3)),o_ (.mov (.loc 4)),o_ (.bin .rem (.reg 5) (i_ 64)),o_ (.bin .shl (.cst (.int .u64 1)) (.reg 6)),o_ (.bin .or (.reg 4) (.reg 7)),o_ (.indexAddrS 1 (.reg 0) (.reg 2)),o_ (.store 1 (.reg 9) (.reg 8))])
.skip))))
(.region [o_ (.bin .add (.loc 7) (i_ 1)),s_ 7 (.mov (.reg 0))]))))
def t36 : TFunc := ⟨2,10,[.loc 2],
(.seq (.region [s_ 2 (.mov (.cst (.sl .nil [])))])
(.seq (.region [o_ (.mov (.loc 0)),o_ (.bin .add (.reg 0) (i_ 64)),o_ (.bin .sub (.reg 1) (i_ 1)),o_ (.bin .quo (.reg 2) (i_ 64)),o_ (.mkSlice [(.int .u64 0)] 8 (.reg 3) (.reg 3)),s_ 3 (.mov (.reg 4))])
(.seq (.seq (.region [s_ 5 (.mov (.loc 1)),s_ 6 (.len .sl (.reg 0)),s_ 7 (.mov (i_ 0))])
(.block 0
(.loop t36L0)))
(.seq (.region [o_ (.mov (.loc 3)),s_ 2 (.mov (.reg 0))])
.ret))))⟩
theorem c36 : compFunc Tryd.prog opts a36 Tryd.f36 = some t36 := by kernel_rfl
def a37 : Ann := { slots := [0,1,2,3,4,8,9,10,11,12,13,14,23,24,26,27,28,54,55,56],lb := [],mu := [],trunc := [],draws := [(7,⟨[0,0,3,7,0,16,48,112,0,496,1008,0,4080,8176,16383,32767,65535],[0,1,2,3,4,5,6,7,8,9,10,11,12,13,14,15],[(16,[],[])]⟩),(13,⟨[0,0,0,0,12,28,0,0,192,448,0,0,3072,7168,16320,32764,65535,131071],[0,1,2,3,4,5,6,7,8,9,10,11,12,13,14,15,16],[(17,[],[])]⟩),(16,⟨[0,1,3,7,0,0,32,96,224,0,0,0,1535,5631,16383,32767],[0,1,2,3,4,5,6,7,8,9,10,11,12],[(13,[11],[14]),(15,[],[])]⟩)] }
def t37L0 : TCode := (.seq (.region [s_ 19 (.bin .lss (.loc 18) (.loc 17))])
(.seq (.cond (.loc 19)
.skip
(.exit 4))
(.seq (.block 5
(.seq (.region [o_ (.mov (.loc 18)),s_ 10 (.mov (.reg 0))])
(.draw [0,1,2,3,4,5,6,7,8,9,10,11,12,13,14,15,16] [(17,[],[])] [o_ (.mov (.loc 9)),o_ (.mov (.loc 10)),o_ (.mov (.loc 2)),o_ (.mov (.loc 10)),o_ (.indexAddrS 1 (.reg 2) (.reg 3)),o_ (.load1 (.reg 4)),o_ (.load1 (.loc 6)),o_ (.mov (.loc 10)),o_ (.indexAddrS 1 (.reg 6) (.reg 7)),o_ (.load1 (.reg 8)),o_ (.mov (.loc 3)),o_ (.mov (.loc 10)),o_ (.indexAddrS 1 (.reg 10) (.reg 11)),o_ (.load1 (.reg 12)),o_ (.bin .andNot (.reg 9) (.reg 13)),o_ (.bin .or (.reg 5) (.reg 14)),o_ (.indexAddrS 1 (.reg 0) (.reg 1)),o_ (.store 1 (.reg 16) (.reg 15))])))
(.region [o_ (.bin .add (.loc 18) (i_ 1)),s_ 18 (.mov (.reg 0))]))))
def t37L1 : TCode := (.seq (.region [s_ 16 (.bin .lss (.loc 15) (.loc 14))])
(.seq (.cond (.loc 16)
.skip
(.exit 2))
(.seq (.block 3
(.seq (.region [o_ (.mov (.loc 15)),s_ 8 (.mov (.reg 0))])
(.draw [0,1,2,3,4,5,6,7,8,9,10,11,12,13,14,15] [(16,[],[])] [o_ (.load1 (.loc 6)),o_ (.mov (.loc 8)),o_ (.indexAddrS 1 (.reg 0) (.reg 1)),o_ (.load1 (.reg 2)),o_ (.load1 (.loc 4)),o_ (.nilCheck (.reg 4)),o_ (.fieldAddr 8 (.reg 5)),o_ (.load1 (.reg 6)),o_ (.mov (.loc 7)),o_ (.indexAddrS 1 (.reg 7) (.reg 8)),o_ (.load1 (.reg 9)),o_ (.mov (.loc 8)),o_ (.indexAddrS 1 (.reg 10) (.reg 11)),o_ (.load1 (.reg 12)),o_ (.bin .or (.reg 3) (.reg 13)),o_ (.indexAddrS 1 (.reg 0) (.reg 1)),o_ (.store 1 (.reg 15) (.reg 14))])))
(.region [o_ (.bin .add (.loc 15) (i_ 1)),s_ 15 (.mov (.reg 0))]))))
def t37 : TFunc := ⟨4,20,[.loc 5],
(.seq (.region [s_ 4 (.boxH 47 (.loc 0)),s_ 5 (.mov (.cst (.bool false)))])
(.seq (.region [o_ (.load1 (.loc 4)),o_ (.nilCheck (.reg 0)),o_ (.fieldAddr 0 (.reg 1)),o_ (.fieldAddr 1 (.reg 2)),o_ (.load1 (.reg 3)),o_ (.call false false 36 [(.reg 4),(.cst (.sl .nil []))]),s_ 6 (.allocH 66 [(.sl .nil [])]),o_ (.store 1 (.reg 6) (.reg 5))])
(.seq (.seq (.region [o_ (.load1 (.loc 4)),o_ (.mov (.loc 1)),s_ 12 (.call false false 49 [(.reg 0),(.reg 1)])])
(.block 0
(.rangeFunc (.loc 12) [13]
(.region [s_ 7 (.mov (.loc 13))])
(.block 1
(.seq (.region [o_ (.load1 (.loc 6)),s_ 14 (.len .sl (.reg 0)),s_ 15 (.mov (i_ 0))])
(.block 2
(.loop t37L1)))))))
(.seq (.region [o_ (.load1 (.loc 4)),o_ (.nilCheck (.reg 0)),o_ (.fieldAddr 0 (.reg 1)),o_ (.fieldAddr 1 (.reg 2)),o_ (.load1 (.reg 3)),o_ (.call false false 36 [(.reg 4),(.cst (.sl .nil []))]),s_ 9 (.mov (.reg 5))])
(.seq (.seq (.region [o_ (.mov (.loc 9)),s_ 17 (.len .sl (.reg 0)),s_ 18 (.mov (i_ 0))])
(.block 4
(.loop t37L0)))
(.seq (.region [o_ (.mov (.loc 9)),o_ (.load1 (.loc 4)),o_ (.nilCheck (.reg 1)),o_ (.fieldAddr 8 (.reg 2)),o_ (.load1 (.reg 3)),o_ (.mov (.loc 1)),o_ (.indexAddrS 1 (.reg 4) (.reg 5)),o_ (.load1 (.reg 6)),o_ (.call false false 50 [(.reg 0),(.reg 7)]),o_ (.un .not (.reg 8)),s_ 11 (.mov (.reg 9))])
(.seq (.draw [0,1,2,3,4,5,6,7,8,9,10,11,12] [(13,[11],[14]),(15,[],[])] [o_ (.load1 (.loc 4)),o_ (.nilCheck (.reg 0)),o_ (.fieldAddr 8 (.reg 1)),o_ (.load1 (.reg 2)),o_ (.mov (.loc 1)),o_ (.load1 (.loc 4)),o_ (.nilCheck (.reg 5)),o_ (.fieldAddr 9 (.reg 6)),o_ (.load1 (.reg 7)),o_ (.mov (.loc 1)),o_ (.mov (.loc 9)),o_ (.load1 (.loc 6)),o_ (.indexAddrS 1 (.reg 3) (.reg 4)),o_ (.store 1 (.reg 12) (.reg 10)),o_ (.indexAddrS 1 (.reg 8) (.reg 9)),o_ (.store 1 (.reg 14) (.reg 11))])
(.seq (.region [o_ (.mov (.loc 11)),s_ 5 (.mov (.reg 0))])
.ret))))))))⟩
theorem c37 : compFunc Tryd.prog opts a37 Tryd.f37 = some t37 := by kernel_rfl
def a38 : Ann := { slots := [0,2,3,4,5,6,7,8,13],lb := [],mu := [],trunc := [],draws := [] }
def t38L0 : TCode := (.seq (.seq (.region [o_ (.mov (.loc 3)), s_ 8 (.bin .neq (.reg 0) (.cst (.int .u64 0)))])
(.cond (.loc 8)
.skip
(.exit 2)))
(.seq (.block 3
(.region [o_ (.mov (.loc 1)),o_ (.mov (.loc 2)),o_ (.bin .mul (i_ 64) (.reg 1)),o_ (.mov (.loc 3)),o_ (.call true false 51 [(.reg 3)]),o_ (.bin .add (.reg 2) (.reg 4)),o_ (.lit false [(.int .i64 0)] 1 [(0,(.reg 5))]),o_ (.append false 1 8 3 (.reg 0) (.reg 6)),s_ 1 (.mov (.reg 7))]))
(.region [o_ (.mov (.loc 3)),o_ (.mov (.loc 3)),o_ (.bin .sub (.reg 1) (.cst (.int .u64 1))),o_ (.bin .and (.reg 0) (.reg 2)),s_ 3 (.mov (.reg 3))])))
def t38L1 : TCode := (.seq (.region [s_ 7 (.bin .lss (.loc 6) (.loc 5))])
(.seq (.cond (.loc 7)
.skip
(.exit 0))
(.seq (.block 1
(.seq (.region [o_ (.mov (.loc 6)),o_ (.indexAddrS 1 (.loc 4) (.loc 6)),o_ (.load1 (.reg 1)),s_ 2 (.mov (.reg 0)),s_ 3 (.mov (.reg 2))])
(.block 2
(.loop t38L0))))
(.region [o_ (.bin .add (.loc 6) (i_ 1)),s_ 6 (.mov (.reg 0))]))))
def t38 : TFunc := ⟨1,9,[.loc 1],
(.seq (.region [s_ 1 (.mov (.cst (.sl .nil [])))])
(.seq (.seq (.region [s_ 4 (.mov (.loc 0)),s_ 5 (.len .sl (.reg 0)),s_ 6 (.mov (i_ 0))])
(.block 0
(.loop t38L1)))
(.seq (.region [o_ (.mov (.loc 1)),s_ 1 (.mov (.reg 0))])
.ret)))⟩
theorem c38 : compFunc Tryd.prog opts a38 Tryd.f38 = some t38 := by kernel_rfl
def a40 : Ann := { slots := [0,1,4,5,9,17],lb := [],mu := [],trunc := [],draws := [] }
def t40L0 : TCode := (.seq (.seq (.region [o_ (.mov (.loc 3)),o_ (.mov (.loc 0)),o_ (.len .sl (.reg 1)),s_ 4 (.bin .lss (.reg 0) (.reg 2))])
(.cond (.loc 4)
.skip
(.exit 0)))
(.seq (.block 1
(.seq (.region [o_ (.mov (.loc 0)),o_ (.mov (.loc 3)),o_ (.indexAddrS 1 (.reg 0) (.reg 1)),o_ (.load1 (.reg 2)),o_ (.mov (.loc 1)),s_ 5 (.bin .eql (.reg 3) (.reg 4))])
(.cond (.loc 5)
(.seq (.region [s_ 2 (.mov (.cst (.bool true)))])
.ret)
.skip)))
(.region [o_ (.mov (.loc 3)),o_ (.bin .add (.reg 0) (i_ 1)),s_ 3 (.mov (.reg 1))])))
def t40 : TFunc := ⟨2,6,[.loc 2],
(.seq (.region [s_ 2 (.mov (.cst (.bool false)))])
(.seq (.seq (.region [s_ 3 (.mov (i_ 0))])
(.block 0
(.loop t40L0)))
(.seq (.region [s_ 2 (.mov (.cst (.bool false)))])
.ret)))⟩
theorem c40 : compFunc Tryd.prog opts a40 Tryd.f40 = some t40 := by kernel_rfl
def a42 : Ann := { slots := [0,1,4,5,7,8,9,16],lb := [],mu := [],trunc := [],draws := [] }
def t42L0 : TCode := (.seq (.region [s_ 6 (.bin .lss (.loc 5) (.loc 4))])
(.seq (.cond (.loc 6)
.skip
(.exit 0))
(.seq (.block 1
(.seq (.region [o_ (.mov (.loc 5)),s_ 3 (.mov (.reg 0))])
(.seq (.region [o_ (.mov (.loc 1)),o_ (.mov (.loc 0)),o_ (.mov (.loc 3)),o_ (.indexAddrS 1 (.reg 1) (.reg 2)),o_ (.load1 (.reg 3)),s_ 7 (.callv (.reg 0) [(.reg 4)])])
(.cond (.loc 7)
(.seq (.region [o_ (.mov (.loc 3)),s_ 2 (.mov (.reg 0))])
.ret)
.skip))))
(.region [o_ (.bin .add (.loc 5) (i_ 1)),s_ 5 (.mov (.reg 0))]))))
def t42 : TFunc := ⟨2,8,[.loc 2],
(.seq (.region [s_ 2 (.mov (i_ 0))])
(.seq (.seq (.region [o_ (.mov (.loc 0)),s_ 4 (.len .sl (.reg 0)),s_ 5 (.mov (i_ 0))])
(.block 0
(.loop t42L0)))
(.seq (.region [s_ 2 (.mov (i_ (-1)))])
.ret)))⟩
theorem c42 : compFunc Tryd.prog opts a42 Tryd.f42 = some t42 := by kernel_rfl
def a45 : Ann := { slots := [0,2,3,5,6,8,9,10,11,12,20,25,26,27,28],lb := [],mu := [],trunc := [],draws := [] }
def t45L0 : TCode := (.seq (.region [s_ 14 (.bin .lss (.loc 13) (.loc 12))])
(.seq (.cond (.loc 14)
.skip
(.exit 2))
(.seq (.block 3
(.seq (.region [o_ (.indexAddrS 1 (.loc 11) (.loc 13)),o_ (.load1 (.reg 0)),s_ 5 (.mov (.reg 1))])
(.region [o_ (.mov (.loc 4)),o_ (.mov (.loc 5)),o_ (.append false 1 8 3 (.reg 0) (.reg 1)),s_ 4 (.mov (.reg 2))])))
(.region [o_ (.bin .add (.loc 13) (i_ 1)),s_ 13 (.mov (.reg 0))]))))
def t45L1 : TCode := (.seq (.region [s_ 9 (.bin .lss (.loc 8) (.loc 7))])
(.seq (.cond (.loc 9)
.skip
(.exit 0))
(.seq (.block 1
(.seq (.region [o_ (.indexAddrS 1 (.loc 6) (.loc 8)),o_ (.load1 (.reg 0)),s_ 3 (.mov (.reg 1))])
(.seq (.region [o_ (.mov (.loc 2)),o_ (.mov (.loc 3)),o_ (.len .sl (.reg 1)),o_ (.bin .add (.reg 0) (.reg 2)),s_ 2 (.mov (.reg 3))])
(.seq (.region [o_ (.mov (.loc 2)),s_ 10 (.bin .lss (.reg 0) (i_ 0))])
(.cond (.loc 10)
(.region [o_ (.bad),o_ (.bad)])
.skip)))))
(.region [o_ (.bin .add (.loc 8) (i_ 1)),s_ 8 (.mov (.reg 0))]))))
def t45 : TFunc := ⟨1,15,[.loc 1],
(.seq (.region [s_ 1 (.mov (.cst (.sl .nil [])))])
(.seq (.region [s_ 2 (.mov (i_ 0))])
(.seq (.seq (.region [s_ 6 (.mov (.loc 0)),s_ 7 (.len .sl (.reg 0)),s_ 8 (.mov (i_ 0))])
(.block 0
(.loop t45L1)))
(.seq (.region [o_ (.mov (.loc 2)),o_ (.call false false 67 [(.cst (.sl .nil [])),(.reg 0)]),s_ 4 (.mov (.reg 1))])
(.seq (.seq (.region [s_ 11 (.mov (.loc 0)),s_ 12 (.len .sl (.reg 0)),s_ 13 (.mov (i_ 0))])
(.block 2
(.loop t45L0)))
(.seq (.region [o_ (.mov (.loc 4)),s_ 1 (.mov (.reg 0))])
.ret))))))⟩
theorem c45 : compFunc Tryd.prog opts a45 Tryd.f45 = some t45 := by kernel_rfl
def a46 : Ann := { slots := [0,1,2],lb := [1],mu := [],trunc := [],draws := [] }
def t46 : TFunc := ⟨1,3,[.loc 2],
(.seq (.region [o_ (.boxL 1 (.loc 0)),s_ 2 (.mov (.cst (.bool false)))])
(.seq (.region [o_ (.loadN 8 (.loc 1)),o_ (.call true false 68 [(.reg 0)]),o_ (.mov (.reg 1)),⟨.fieldAddr 0 (.loc 1),none,(some (2,false))⟩,⟨.load1 (.reg 3),none,(some (2,false))⟩,⟨.bin .geq (.reg 4) (i_ 26),none,(some (2,false))⟩,⟨.mov (.reg 5),none,(some (2,false))⟩,⟨.fieldAddr 0 (.loc 1),none,(some (6,true))⟩,⟨.load1 (.reg 7),none,(some (6,true))⟩,⟨.bin .leq (.reg 8) (i_ 31),none,(some (6,true))⟩,⟨.pick (.reg 6) (.reg 9) (.cst (.bool false)),none,(some (2,false))⟩,o_ (.pick (.reg 2) (.cst (.bool true)) (.reg 10)),o_ (.mov (.reg 11)),⟨.fieldAddr 0 (.loc 1),none,(some (12,false))⟩,⟨.load1 (.reg 13),none,(some (12,false))⟩,⟨.bin .geq (.reg 14) (i_ 64),none,(some (12,false))⟩,⟨.mov (.reg 15),none,(some (12,false))⟩,⟨.fieldAddr 0 (.loc 1),none,(some (16,true))⟩,⟨.load1 (.reg 17),none,(some (16,true))⟩,⟨.bin .leq (.reg 18) (i_ 72),none,(some (16,true))⟩,⟨.pick (.reg 16) (.reg 19) (.cst (.bool false)),none,(some (12,false))⟩,o_ (.pick (.reg 12) (.cst (.bool true)) (.reg 20)),s_ 2 (.mov (.reg 21))])
.ret))⟩
theorem c46 : compFunc Tryd.prog opts a46 Tryd.f46 = some t46 := by kernel_rfl
def a47 : Ann := { slots := [0,1,4],lb := [],mu := [],trunc := [],draws := [] }
def t47 : TFunc := ⟨2,3,[.loc 2],
(.seq (.region [s_ 2 (.mov (.cst (.bool false)))])
(.seq (.region [o_ (.mov (.loc 0)),o_ (.mov (.loc 1)),o_ (.call false false 42 [(.reg 0),(.reg 1)]),o_ (.bin .geq (.reg 2) (i_ 0)),s_ 2 (.mov (.reg 3))])
.ret))⟩
theorem c47 : compFunc Tryd.prog opts a47 Tryd.f47 = some t47 := by kernel_rfl
def a48 : Ann := { slots := [0,1,3],lb := [],mu := [],trunc := [],draws := [] }
def t48 : TFunc := ⟨2,3,[.loc 2],
(.seq (.region [s_ 2 (.mov (.cst (.bool false)))])
(.seq (.region [o_ (.mov (.loc 0)),o_ (.bin .lss (.reg 0) (i_ 0)),o_ (.mov (.reg 1)),⟨.mov (.loc 0),none,(some (2,false))⟩,⟨.fieldAddr 1 (.loc 1),none,(some (2,false))⟩,⟨.load1 (.reg 4),none,(some (2,false))⟩,⟨.bin .geq (.reg 3) (.reg 5),none,(some (2,false))⟩,o_ (.pick (.reg 2) (.cst (.bool true)) (.reg 6)),s_ 2 (.mov (.reg 7))])
.ret))⟩
theorem c48 : compFunc Tryd.prog opts a48 Tryd.f48 = some t48 := by kernel_rfl
def a49 : Ann := { slots := [0,1,2,3,4],lb := [],mu := [],trunc := [],draws := [] }
def t49 : TFunc := ⟨2,5,[.loc 4],
(.seq (.region [s_ 2 (.boxH 47 (.loc 0)),s_ 3 (.boxH 4 (.loc 1)),s_ 4 (.mov (.cst .nilf))])
(.seq (.region [o_ (.mkFn 69 [] [(.loc 2),(.loc 3)]),s_ 4 (.mov (.reg 0))])
.ret))⟩
theorem c49 : compFunc Tryd.prog opts a49 Tryd.f49 = some t49 := by kernel_rfl
def a50 : Ann := { slots := [0,1,4,5,10,12,13,14,24],lb := [],mu := [],trunc := [],draws := [(6,⟨[0,0,3,7,0,0,48,112,255],[0,1,2,3,4,5,6,7,8],[]⟩)] }
def t50L0 : TCode := (.seq (.region [s_ 7 (.bin .lss (.loc 6) (.loc 5))])
(.seq (.cond (.loc 7)
.skip
(.exit 0))
(.seq (.block 1
(.seq (.region [o_ (.mov (.loc 6)),s_ 3 (.mov (.reg 0))])
(.seq (.draw [0,1,2,3,4,5,6,7,8] [] [o_ (.mov (.loc 0)),o_ (.mov (.loc 3)),o_ (.indexAddrS 1 (.reg 0) (.reg 1)),o_ (.load1 (.reg 2)),o_ (.mov (.loc 1)),o_ (.mov (.loc 3)),o_ (.indexAddrS 1 (.reg 4) (.reg 5)),o_ (.load1 (.reg 6)),s_ 8 (.bin .neq (.reg 3) (.reg 7))])
(.cond (.loc 8)
(.seq (.region [s_ 2 (.mov (.cst (.bool false)))])
.ret)
.skip))))
(.region [o_ (.bin .add (.loc 6) (i_ 1)),s_ 6 (.mov (.reg 0))]))))
def t50 : TFunc := ⟨2,9,[.loc 2],
(.seq (.region [s_ 2 (.mov (.cst (.bool false)))])
(.seq (.seq (.region [o_ (.mov (.loc 0)),o_ (.len .sl (.reg 0)),o_ (.mov (.loc 1)),o_ (.len .sl (.reg 2)),s_ 4 (.bin .neq (.reg 1) (.reg 3))])
(.cond (.loc 4)
(.seq (.region [s_ 2 (.mov (.cst (.bool false)))])
.ret)
.skip))
(.seq (.seq (.region [o_ (.mov (.loc 0)),s_ 5 (.len .sl (.reg 0)),s_ 6 (.mov (i_ 0))])
(.block 0
(.loop t50L0)))
(.seq (.region [s_ 2 (.mov (.cst (.bool true)))])
.ret))))⟩
theorem c50 : compFunc Tryd.prog opts a50 Tryd.f50 = some t50 := by kernel_rfl
def a51 : Ann := { slots := [0,2,4],lb := [],mu := [],trunc := [],draws := [] }
def t51 : TFunc := ⟨1,3,[.loc 1],
(.seq (.region [s_ 1 (.mov (i_ 0))])
(.seq (.seq (.region [o_ (.mov (.loc 0)),s_ 2 (.bin .eql (.reg 0) (.cst (.int .u64 0)))])
(.cond (.loc 2)
(.seq (.region [s_ 1 (.mov (i_ 64))])
.ret)
.skip))
(.seq (.region [o_ (.mov (.loc 0)),o_ (.mov (.loc 0)),o_ (.un .neg (.reg 1)),o_ (.bin .and (.reg 0) (.reg 2)),o_ (.bin .mul (.reg 3) (.cst (.int .u64 285870213051353865))),o_ (.bin .shr (.reg 4) (.cst (.int .u64 58))),o_ (.indexAddrA 64 1 (.glob 0) (.reg 5)),o_ (.load1 (.reg 6)),o_ (.conv (.toInt .i64) (.reg 7)),s_ 1 (.mov (.reg 8))])
.ret)))⟩
theorem c51 : compFunc Tryd.prog opts a51 Tryd.f51 = some t51 := by kernel_rfl
def a67 : Ann := { slots := [0,1,4,6,16],lb := [],mu := [],trunc := [],draws := [] }
def t67 : TFunc := ⟨2,5,[.loc 2],
(.seq (.region [s_ 2 (.mov (.cst (.sl .nil [])))])
(.seq (.seq (.region [o_ (.mov (.loc 1)),s_ 3 (.bin .lss (.reg 0) (i_ 0))])
(.cond (.loc 3)
(.region [o_ (.bad),o_ (.bad)])
.skip))
(.seq (.seq (.region [o_ (.mov (.loc 1)),o_ (.mov (.loc 0)),o_ (.cap (.reg 1)),o_ (.mov (.loc 0)),o_ (.len .sl (.reg 3)),o_ (.bin .sub (.reg 2) (.reg 4)),o_ (.bin .sub (.reg 0) (.reg 5)),s_ 1 (.mov (.reg 6))])
(.seq (.region [o_ (.mov (.loc 1)),s_ 4 (.bin .gtr (.reg 0) (i_ 0))])
(.cond (.loc 4)
(.region [o_ (.mov (.loc 0)),o_ (.mov (.loc 0)),o_ (.cap (.reg 1)),o_ (.slice (.sl 1) (.reg 0) none (some (.reg 2)) none),o_ (.mov (.loc 1)),o_ (.grow 1 8 3 (.reg 3) (.reg 4)),o_ (.mov (.loc 0)),o_ (.len .sl (.reg 6)),o_ (.slice (.sl 1) (.reg 5) none (some (.reg 7)) none),s_ 0 (.mov (.reg 8))])
.skip)))
(.seq (.region [o_ (.mov (.loc 0)),s_ 2 (.mov (.reg 0))])
.ret))))⟩
theorem c67 : compFunc Tryd.prog opts a67 Tryd.f67 = some t67 := by kernel_rfl
def a68 : Ann := { slots := [0,1,2,4,12],lb := [1],mu := [],trunc := [],draws := [] }
def t68 : TFunc := ⟨1,5,[.loc 2],
(.seq (.region [o_ (.boxL 1 (.loc 0)),s_ 2 (.mov (.cst (.bool false)))])
(.seq (.seq (.region [o_ (.fieldAddr 0 (.loc 1)),o_ (.load1 (.reg 0)),o_ (.bin .lss (.reg 1) (i_ 1)),o_ (.mov (.reg 2)),⟨.fieldAddr 0 (.loc 1),none,(some (3,false))⟩,⟨.load1 (.reg 4),none,(some (3,false))⟩,⟨.bin .gtr (.reg 5) (i_ 25),none,(some (3,false))⟩,s_ 4 (.pick (.reg 3) (.cst (.bool true)) (.reg 6))])
(.cond (.loc 4)
(.seq (.region [s_ 2 (.mov (.cst (.bool false)))])
.ret)
.skip))
(.seq (.region [o_ (.fieldAddr 0 (.loc 1)),o_ (.load1 (.reg 0)),o_ (.fieldAddr 4 (.loc 1)),o_ (.load1 (.reg 2)),o_ (.build [(.int .i64 0),(.int .i64 0),(.int .i64 0),(.int .i64 0),(.int .i64 0)] [(0,1,(.reg 1)),(4,1,(.reg 3))]),o_ (.call true false 82 [(.reg 4)]),o_ (.mov (.reg 5)),o_ (.extract 0 (.reg 6)),o_ (.extract 1 (.reg 6)),o_ (.mov (.reg 7)),s_ 3 (.mov (.reg 8))])
(.seq (.region [o_ (.mov (.loc 3)),o_ (.bin .eql (.reg 0) (i_ 0)),s_ 2 (.mov (.reg 1))])
.ret))))⟩
theorem c68 : compFunc Tryd.prog opts a68 Tryd.f68 = some t68 := by kernel_rfl
def a69 : Ann := { slots := [0,1,2,4,20,28,39,53],lb := [4],mu := [],trunc := [],draws := [(0,⟨[0,1,3,7,15,0,63,127,0,511],[0,1,2,3,4,5,6,7,8],[(9,[],[])]⟩),(3,⟨[0,0,2,6,14,0,32,126,254,511,1023],[0,1,2,3,4,5,6,7,8],[(9,[],[10])]⟩),(4,⟨[0,1,3,7,15,31,15,79,207,463,975,1999,4095,8191],[0,1,2,3,4,5,6,7,8,9,10,11,12,13],[]⟩)] }
def t69 : TFunc := ⟨3,8,[],
(.seq (.draw [0,1,2,3,4,5,6,7,8] [(9,[],[])] [o_ (.load1 (.loc 1)),o_ (.nilCheck (.reg 0)),o_ (.fieldAddr 0 (.reg 1)),o_ (.fieldAddr 6 (.reg 2)),o_ (.load1 (.reg 3)),o_ (.load1 (.loc 2)),o_ (.indexAddrS 8 (.reg 4) (.reg 5)),o_ (.loadN 8 (.reg 6)),s_ 3 (.allocH 32 [(.int .i64 0),(.int .i64 0),(.int .i64 0),(.int .i64 0),(.int .i64 0),(.int .i64 0),(.sl .nil []),(.sl .nil [])]),o_ (.store 8 (.reg 8) (.reg 7))])
(.seq (.seq (.region [o_ (.fieldAddr 0 (.loc 3)),o_ (.load1 (.reg 0)),o_ (.bin .eql (.reg 1) (i_ 68)),o_ (.mov (.reg 2)),⟨.fieldAddr 0 (.loc 3),none,(some (3,false))⟩,⟨.load1 (.reg 4),none,(some (3,false))⟩,⟨.bin .eql (.reg 5) (i_ 72),none,(some (3,false))⟩,s_ 4 (.pick (.reg 3) (.cst (.bool true)) (.reg 6))])
(.cond (.loc 4)
.ret
.skip))
(.seq (.seq (.region [o_ (.fieldAddr 0 (.loc 3)),o_ (.load1 (.reg 0)),o_ (.call true false 21 [(.reg 1)]),o_ (.mov (.reg 2)),⟨.fieldAddr 0 (.loc 3),none,(some (3,false))⟩,⟨.load1 (.reg 4),none,(some (3,false))⟩,⟨.bin .eql (.reg 5) (i_ 66),none,(some (3,false))⟩,s_ 5 (.pick (.reg 3) (.cst (.bool true)) (.reg 6))])
(.cond (.loc 5)
(.seq (.draw [0,1,2,3,4,5,6,7,8] [(9,[],[10])] [o_ (.mov (.loc 0)),o_ (.load1 (.loc 1)),o_ (.nilCheck (.reg 1)),o_ (.fieldAddr 7 (.reg 2)),o_ (.load1 (.reg 3)),o_ (.fieldAddr 5 (.loc 3)),o_ (.load1 (.reg 5)),o_ (.lookup (.leaf .int) (.agg [(.int .i64 0)]) false (.reg 4) (.reg 6)),o_ (.field 0 1 false (.reg 7)),o_ (.callv (.reg 0) [(.reg 8)]),s_ 6 (.un .not (.reg 9))])
(.cond (.loc 6)
.ret
.skip))
.skip))
(.seq (.draw [0,1,2,3,4,5,6,7,8,9,10,11,12,13] [] [o_ (.fieldAddr 0 (.loc 3)),o_ (.load1 (.reg 0)),o_ (.bin .neq (.reg 1) (i_ 66)),o_ (.mov (.reg 2)),⟨.load1 (.loc 2),none,(some (3,true))⟩,⟨.bin .add (.reg 4) (i_ 1),none,(some (3,true))⟩,⟨.load1 (.loc 1),none,(some (3,true))⟩,⟨.nilCheck (.reg 6),none,(some (3,true))⟩,⟨.fieldAddr 0 (.reg 7),none,(some (3,true))⟩,⟨.fieldAddr 6 (.reg 8),none,(some (3,true))⟩,⟨.load1 (.reg 9),none,(some (3,true))⟩,⟨.len .sl (.reg 10),none,(some (3,true))⟩,⟨.bin .lss (.reg 5) (.reg 11),none,(some (3,true))⟩,s_ 7 (.pick (.reg 3) (.reg 12) (.cst (.bool false)))])
(.cond (.loc 7)
(.region [o_ (.mov (.loc 0)),o_ (.load1 (.loc 2)),o_ (.bin .add (.reg 1) (i_ 1)),o_ (.callv (.reg 0) [(.reg 2)])])
.skip)))))⟩
theorem c69 : compFunc Tryd.prog opts a69 Tryd.f69 = some t69 := by kernel_rfl
def a82 : Ann := { slots := [0,1,2,3,4,5,6,7,8,9,10,12,16,43,44,45,46,50],lb := [12,1],mu := [],trunc := [],draws := [(13,⟨[0,0,2,6,0,16,48,126,255,511,1023],[0,1,2,3,4,5,6,7,8,9,10],[]⟩)] }
def t82L0 : TCode := (.seq (.region [s_ 16 (.bin .lss (.loc 15) (.loc 14))])
(.seq (.cond (.loc 16)
.skip
(.exit 0))
(.seq (.block 1
(.seq (.region [o_ (.indexAddrS 2 (.loc 13) (.loc 15)),o_ (.loadN 2 (.reg 0)),o_ (.allocL 11 [(.bool false),(.int .i64 0)]),o_ (.store 2 (.reg 2) (.reg 1))])
(.seq (.region [o_ (.fieldAddr 0 (.loc 11)),s_ 17 (.load1 (.reg 0))])
(.cond (.loc 17)
(.seq (.region [o_ (.mov (.loc 9)),o_ (.fieldAddr 1 (.loc 11)),o_ (.load1 (.reg 1)),o_ (.conv (.toInt .u32) (.reg 2)),o_ (.mov (.loc 10)),o_ (.bin .shl (.reg 3) (.reg 4)),o_ (.bin .or (.reg 0) (.reg 5)),s_ 9 (.mov (.reg 6))])
(.region [o_ (.mov (.loc 10)),o_ (.bin .sub (.reg 0) (i_ 5)),s_ 10 (.mov (.reg 1))]))
.skip))))
(.region [o_ (.bin .add (.loc 15) (i_ 1)),s_ 15 (.mov (.reg 0))]))))
def t82 : TFunc := ⟨1,18,[.loc 2,.loc 3],
(.seq (.region [o_ (.boxL 1 (.loc 0)),s_ 2 (.mov (.cst (.int .u32 0))),s_ 3 (.mov (i_ 0))])
(.seq (.seq (.region [o_ (.loadN 5 (.loc 1)),o_ (.call true false 88 [(.reg 0)]),s_ 4 (.mov (.reg 1))])
(.seq (.region [o_ (.mov (.loc 4)),s_ 12 (.bin .neq (.reg 0) (i_ 0))])
(.cond (.loc 12)
(.seq (.region [o_ (.mov (.loc 4)),s_ 2 (.mov (.cst (.int .u32 0))),s_ 3 (.mov (.reg 0))])
.ret)
.skip)))
(.seq (.region [o_ (.fieldAddr 0 (.loc 1)),o_ (.load1 (.reg 0)),o_ (.call true false 90 [(.reg 1)]),o_ (.call true false 89 [(.reg 2)]),o_ (.mov (.reg 3)),o_ (.extract 0 (.reg 4)),o_ (.extract 1 (.reg 4)),o_ (.extract 2 (.reg 4)),o_ (.extract 3 (.reg 4)),s_ 5 (.mov (.reg 5)),s_ 6 (.mov (.reg 6)),s_ 7 (.mov (.reg 7)),s_ 8 (.mov (.reg 8))])
(.seq (.region [o_ (.fieldAddr 0 (.loc 1)),o_ (.load1 (.reg 0)),o_ (.conv (.toInt .u32) (.reg 1)),o_ (.bin .shl (.reg 2) (.cst (.int .u64 26))),s_ 9 (.mov (.reg 3)),s_ 10 (.mov (i_ 21))])
(.seq (.seq (.region [o_ (.mov (.loc 5)),o_ (.fieldAddr 1 (.loc 1)),o_ (.load1 (.reg 1)),o_ (.build [(.bool false),(.int .i64 0)] [(0,1,(.reg 0)),(1,1,(.reg 2))]),o_ (.mov (.loc 6)),o_ (.fieldAddr 2 (.loc 1)),o_ (.load1 (.reg 5)),o_ (.build [(.bool false),(.int .i64 0)] [(0,1,(.reg 4)),(1,1,(.reg 6))]),o_ (.mov (.loc 7)),o_ (.fieldAddr 3 (.loc 1)),o_ (.load1 (.reg 9)),o_ (.build [(.bool false),(.int .i64 0)] [(0,1,(.reg 8)),(1,1,(.reg 10))]),s_ 13 (.lit false [(.bool false),(.int .i64 0)] 3 [(0,(.reg 3)),(1,(.reg 7)),(2,(.reg 11))]),s_ 14 (.len .sl (.reg 12)),s_ 15 (.mov (i_ 0))])
(.block 0
(.loop t82L0)))
(.seq (.draw [0,1,2,3,4,5,6,7,8,9,10] [] [o_ (.mov (.loc 9)),o_ (.fieldAddr 4 (.loc 1)),o_ (.load1 (.reg 1)),o_ (.conv (.toInt .u32) (.reg 2)),o_ (.mov (.loc 8)),o_ (.bin .shl (.cst (.int .u32 1)) (.reg 4)),o_ (.bin .sub (.reg 5) (.cst (.int .u32 1))),o_ (.bin .and (.reg 3) (.reg 6)),o_ (.bin .or (.reg 0) (.reg 7)),s_ 2 (.mov (.reg 8)),s_ 3 (.mov (i_ 0))])
.ret))))))⟩
theorem c82 : compFunc Tryd.prog opts a82 Tryd.f82 = some t82 := by kernel_rfl
def a88 : Ann := { slots := [0,1,2,3,4,5,6,8,9,60],lb := [1],mu := [],trunc := [],draws := [] }
def t88 : TFunc := ⟨1,10,[.loc 2],
(.seq (.region [o_ (.boxL 1 (.loc 0)),s_ 2 (.mov (i_ 0))])
(.seq (.region [o_ (.fieldAddr 0 (.loc 1)),o_ (.load1 (.reg 0)),o_ (.call true false 90 [(.reg 1)]),s_ 3 (.mov (.reg 2))])
(.seq (.region [o_ (.mov (.loc 3)),o_ (.call true false 89 [(.reg 0)]),o_ (.mov (.reg 1)),o_ (.extract 0 (.reg 2)),o_ (.extract 1 (.reg 2)),o_ (.extract 2 (.reg 2)),o_ (.extract 3 (.reg 2)),s_ 4 (.mov (.reg 3)),s_ 5 (.mov (.reg 4)),s_ 6 (.mov (.reg 5)),o_ (.mov (.reg 6))])
(.seq (.region [o_ (.fieldAddr 0 (.loc 1)),o_ (.load1 (.reg 0)),o_ (.call true false 91 [(.reg 1)]),o_ (.mov (.reg 2)),o_ (.extract 0 (.reg 3)),o_ (.extract 1 (.reg 3)),s_ 7 (.mov (.reg 4)),s_ 8 (.mov (.reg 5))])
(.seq (.seq (.region [o_ (.mov (.loc 3)),o_ (.bin .eql (.reg 0) (i_ 0)),o_ (.mov (.reg 1)),⟨.mov (.loc 4),none,(some (2,false))⟩,⟨.fieldAddr 1 (.loc 1),none,(some (2,false))⟩,⟨.load1 (.reg 4),none,(some (2,false))⟩,⟨.call true false 92 [(.reg 3),(.reg 5)],none,(some (2,false))⟩,⟨.un .not (.reg 6),none,(some (2,false))⟩,o_ (.pick (.reg 2) (.cst (.bool true)) (.reg 7)),o_ (.mov (.reg 8)),⟨.mov (.loc 5),none,(some (9,false))⟩,⟨.fieldAddr 2 (.loc 1),none,(some (9,false))⟩,⟨.load1 (.reg 11),none,(some (9,false))⟩,⟨.call true false 92 [(.reg 10),(.reg 12)],none,(some (9,false))⟩,⟨.un .not (.reg 13),none,(some (9,false))⟩,o_ (.pick (.reg 9) (.cst (.bool true)) (.reg 14)),o_ (.mov (.reg 15)),⟨.mov (.loc 6),none,(some (16,false))⟩,⟨.fieldAddr 3 (.loc 1),none,(some (16,false))⟩,⟨.load1 (.reg 18),none,(some (16,false))⟩,⟨.call true false 92 [(.reg 17),(.reg 19)],none,(some (16,false))⟩,⟨.un .not (.reg 20),none,(some (16,false))⟩,o_ (.pick (.reg 16) (.cst (.bool true)) (.reg 21)),o_ (.mov (.reg 22)),⟨.fieldAddr 4 (.loc 1),none,(some (23,false))⟩,⟨.load1 (.reg 24),none,(some (23,false))⟩,⟨.mov (.loc 7),none,(some (23,false))⟩,⟨.bin .lss (.reg 25) (.reg 26),none,(some (23,false))⟩,o_ (.pick (.reg 23) (.cst (.bool true)) (.reg 27)),o_ (.mov (.reg 28)),⟨.fieldAddr 4 (.loc 1),none,(some (29,false))⟩,⟨.load1 (.reg 30),none,(some (29,false))⟩,⟨.mov (.loc 8),none,(some (29,false))⟩,⟨.bin .gtr (.reg 31) (.reg 32),none,(some (29,false))⟩,s_ 9 (.pick (.reg 29) (.cst (.bool true)) (.reg 33))])
(.cond (.loc 9)
(.seq (.region [s_ 2 (.mov (i_ 11))])
.ret)
.skip))
(.seq (.region [s_ 2 (.mov (i_ 0))])
.ret))))))⟩
theorem c88 : compFunc Tryd.prog opts a88 Tryd.f88 = some t88 := by kernel_rfl
def a89 : Ann := { slots := [0,2,3,4,5,6,7,9,11,13,15,17,19],lb := [],mu := [],trunc := [],draws := [] }
def t89 : TFunc := ⟨1,13,[.loc 1,.loc 2,.loc 3,.loc 4],
(.seq (.region [s_ 1 (.mov (.cst (.bool false))),s_ 2 (.mov (.cst (.bool false))),s_ 3 (.mov (.cst (.bool false))),s_ 4 (.mov (i_ 0))])
(.seq (.seq (.region [s_ 5 (.mov (.loc 0))])
(.block 0
(.seq (.region [o_ (.bin .eql (.loc 5) (i_ 1)),s_ 6 (.mov (.reg 0))])
(.cond (.loc 6)
(.seq (.region [s_ 1 (.mov (.cst (.bool true))),s_ 2 (.mov (.cst (.bool true))),s_ 3 (.mov (.cst (.bool true))),s_ 4 (.mov (i_ 0))])
.ret)
(.seq (.region [o_ (.bin .eql (.loc 5) (i_ 2)),s_ 7 (.mov (.reg 0))])
(.cond (.loc 7)
(.seq (.region [s_ 1 (.mov (.cst (.bool true))),s_ 2 (.mov (.cst (.bool true))),s_ 3 (.mov (.cst (.bool false))),s_ 4 (.mov (i_ 16))])
.ret)
(.seq (.region [o_ (.bin .eql (.loc 5) (i_ 3)),s_ 8 (.mov (.reg 0))])
(.cond (.loc 8)
(.seq (.region [s_ 1 (.mov (.cst (.bool true))),s_ 2 (.mov (.cst (.bool false))),s_ 3 (.mov (.cst (.bool false))),s_ 4 (.mov (i_ 16))])
.ret)
(.seq (.region [o_ (.bin .eql (.loc 5) (i_ 4)),s_ 9 (.mov (.reg 0))])
(.cond (.loc 9)
(.seq (.region [s_ 1 (.mov (.cst (.bool false))),s_ 2 (.mov (.cst (.bool true))),s_ 3 (.mov (.cst (.bool true))),s_ 4 (.mov (i_ 16))])
.ret)
(.seq (.region [o_ (.bin .eql (.loc 5) (i_ 5)),s_ 10 (.mov (.reg 0))])
(.cond (.loc 10)
(.seq (.region [s_ 1 (.mov (.cst (.bool true))),s_ 2 (.mov (.cst (.bool false))),s_ 3 (.mov (.cst (.bool false))),s_ 4 (.mov (i_ 21))])
.ret)
(.seq (.region [o_ (.bin .eql (.loc 5) (i_ 6)),s_ 11 (.mov (.reg 0))])
(.cond (.loc 11)
(.seq (.region [s_ 1 (.mov (.cst (.bool true))),s_ 2 (.mov (.cst (.bool false))),s_ 3 (.mov (.cst (.bool false))),s_ 4 (.mov (i_ 0))])
.ret)
(.seq (.region [o_ (.bin .eql (.loc 5) (i_ 7)),s_ 12 (.mov (.reg 0))])
(.cond (.loc 12)
(.seq (.region [s_ 1 (.mov (.cst (.bool false))),s_ 2 (.mov (.cst (.bool true))),s_ 3 (.mov (.cst (.bool false))),s_ 4 (.mov (i_ 0))])
.ret)
.skip))))))))))))))))
(.seq (.region [s_ 1 (.mov (.cst (.bool false))),s_ 2 (.mov (.cst (.bool false))),s_ 3 (.mov (.cst (.bool false))),s_ 4 (.mov (i_ 0))])
.ret)))⟩
theorem c89 : compFunc Tryd.prog opts a89 Tryd.f89 = some t89 := by kernel_rfl
def a90 : Ann := { slots := [0,2,3,10,13,22,29,32,35],lb := [],mu := [],trunc := [],draws := [] }
def t90 : TFunc := ⟨1,9,[.loc 1],
(.seq (.region [s_ 1 (.mov (i_ 0))])
(.seq (.block 0
(.seq (.region [o_ (.mov (.loc 0)),o_ (.bin .geq (.reg 0) (i_ 1)),o_ (.mov (.reg 1)),⟨.mov (.loc 0),none,(some (2,true))⟩,⟨.bin .leq (.reg 3) (i_ 14),none,(some (2,true))⟩,o_ (.pick (.reg 2) (.reg 4) (.cst (.bool false))),s_ 2 (.mov (.reg 5))])
(.cond (.loc 2)
(.seq (.region [s_ 1 (.mov (i_ 1))])
.ret)
(.seq (.region [o_ (.mov (.loc 0)),o_ (.bin .eql (.reg 0) (i_ 23)),s_ 3 (.mov (.reg 1))])
(.cond (.loc 3)
(.seq (.region [s_ 1 (.mov (i_ 3))])
.ret)
(.seq (.seq (.region [o_ (.mov (.loc 0)),o_ (.bin .geq (.reg 0) (i_ 15)),o_ (.mov (.reg 1)),⟨.mov (.loc 0),none,(some (2,true))⟩,⟨.bin .leq (.reg 3) (i_ 24),none,(some (2,true))⟩,o_ (.pick (.reg 2) (.reg 4) (.cst (.bool false))),s_ 4 (.mov (.reg 5))])
(.cond (.loc 4)
.skip
(.region [o_ (.mov (.loc 0)),o_ (.bin .eql (.reg 0) (i_ 33)),s_ 4 (.mov (.reg 1))])))
(.cond (.loc 4)
(.seq (.region [s_ 1 (.mov (i_ 2))])
.ret)
(.seq (.region [o_ (.mov (.loc 0)),o_ (.bin .geq (.reg 0) (i_ 25)),o_ (.mov (.reg 1)),⟨.mov (.loc 0),none,(some (2,true))⟩,⟨.bin .leq (.reg 3) (i_ 31),none,(some (2,true))⟩,o_ (.pick (.reg 2) (.reg 4) (.cst (.bool false))),s_ 5 (.mov (.reg 5))])
(.cond (.loc 5)
(.seq (.region [s_ 1 (.mov (i_ 4))])
.ret)
(.seq (.region [o_ (.mov (.loc 0)),o_ (.bin .eql (.reg 0) (i_ 32)),s_ 6 (.mov (.reg 1))])
(.cond (.loc 6)
(.seq (.region [s_ 1 (.mov (i_ 5))])
.ret)
(.seq (.region [o_ (.mov (.loc 0)),o_ (.bin .eql (.reg 0) (i_ 34)),s_ 7 (.mov (.reg 1))])
(.cond (.loc 7)
(.seq (.region [s_ 1 (.mov (i_ 6))])
.ret)
(.seq (.seq (.region [o_ (.mov (.loc 0)),o_ (.bin .eql (.reg 0) (i_ 35)),s_ 8 (.mov (.reg 1))])
(.cond (.loc 8)
.skip
(.region [o_ (.mov (.loc 0)),o_ (.bin .eql (.reg 0) (i_ 36)),s_ 8 (.mov (.reg 1))])))
(.cond (.loc 8)
(.seq (.region [s_ 1 (.mov (i_ 7))])
.ret)
.skip)))))))))))))))
(.seq (.region [s_ 1 (.mov (i_ 0))])
.ret)))⟩
theorem c90 : compFunc Tryd.prog opts a90 Tryd.f90 = some t90 := by kernel_rfl
def a91 : Ann := { slots := [0,2,3,4,5,10,14,17,18],lb := [],mu := [],trunc := [],draws := [] }
def t91 : TFunc := ⟨1,9,[.loc 1,.loc 2],
(.seq (.region [s_ 1 (.mov (i_ 0)),s_ 2 (.mov (i_ 0))])
(.seq (.seq (.region [s_ 3 (.mov (.loc 0))])
(.block 0
(.seq (.seq (.region [o_ (.bin .eql (.loc 3) (i_ 16)),s_ 4 (.mov (.reg 0))])
(.cond (.loc 4)
.skip
(.seq (.region [o_ (.bin .eql (.loc 3) (i_ 17)),s_ 4 (.mov (.reg 0))])
(.cond (.loc 4)
.skip
(.seq (.region [o_ (.bin .eql (.loc 3) (i_ 18)),s_ 4 (.mov (.reg 0))])
(.cond (.loc 4)
.skip
(.region [o_ (.bin .eql (.loc 3) (i_ 23)),s_ 4 (.mov (.reg 0))])))))))
(.cond (.loc 4)
(.seq (.region [s_ 1 (.mov (i_ 0)),s_ 2 (.mov (i_ 65535))])
.ret)
(.seq (.seq (.region [o_ (.bin .eql (.loc 3) (i_ 19)),s_ 5 (.mov (.reg 0))])
(.cond (.loc 5)
.skip
(.seq (.region [o_ (.bin .eql (.loc 3) (i_ 20)),s_ 5 (.mov (.reg 0))])
(.cond (.loc 5)
.skip
(.region [o_ (.bin .eql (.loc 3) (i_ 21)),s_ 5 (.mov (.reg 0))])))))
(.cond (.loc 5)
(.seq (.region [s_ 1 (.mov (i_ 0)),s_ 2 (.mov (i_ 31))])
.ret)
(.seq (.region [o_ (.bin .eql (.loc 3) (i_ 32)),s_ 6 (.mov (.reg 0))])
(.cond (.loc 6)
(.seq (.region [s_ 1 (.mov (i_ (-1048576))),s_ 2 (.mov (i_ 1048575))])
.ret)
.skip))))))))
(.seq (.seq (.region [o_ (.mov (.loc 0)),s_ 7 (.call true false 90 [(.reg 0)])])
(.block 1
(.seq (.seq (.region [o_ (.bin .eql (.loc 7) (i_ 2)),s_ 8 (.mov (.reg 0))])
(.cond (.loc 8)
.skip
(.region [o_ (.bin .eql (.loc 7) (i_ 4)),s_ 8 (.mov (.reg 0))])))
(.cond (.loc 8)
(.seq (.region [s_ 1 (.mov (i_ (-32768))),s_ 2 (.mov (i_ 32767))])
.ret)
.skip))))
(.seq (.region [s_ 1 (.mov (i_ 0)),s_ 2 (.mov (i_ 0))])
.ret))))⟩
theorem c91 : compFunc Tryd.prog opts a91 Tryd.f91 = some t91 := by kernel_rfl
def a92 : Ann := { slots := [0,1,4,6],lb := [],mu := [],trunc := [],draws := [] }
def t92 : TFunc := ⟨2,4,[.loc 2],
(.seq (.region [s_ 2 (.mov (.cst (.bool false)))])
(.seq (.seq (.region [o_ (.mov (.loc 0)),s_ 3 (.un .not (.reg 0))])
(.cond (.loc 3)
(.seq (.region [o_ (.mov (.loc 1)),o_ (.bin .eql (.reg 0) (i_ 0)),s_ 2 (.mov (.reg 1))])
.ret)
.skip))
(.seq (.region [o_ (.mov (.loc 1)),o_ (.bin .geq (.reg 0) (i_ 0)),o_ (.mov (.reg 1)),⟨.mov (.loc 1),none,(some (2,true))⟩,⟨.bin .lss (.reg 3) (i_ 32),none,(some (2,true))⟩,o_ (.pick (.reg 2) (.reg 4) (.cst (.bool false))),s_ 2 (.mov (.reg 5))])
.ret)))⟩
theorem c92 : compFunc Tryd.prog opts a92 Tryd.f92 = some t92 := by kernel_rfl
def g0 : List IV := [(.int .u8 0),(.int .u8 1),(.int .u8 56),(.int .u8 2),(.int .u8 57),(.int .u8 49),(.int .u8 28),(.int .u8 3),(.int .u8 61),(.int .u8 58),(.int .u8 42),(.int .u8 50),(.int .u8 38),(.int .u8 29),(.int .u8 17),(.int .u8 4),(.int .u8 62),(.int .u8 47),(.int .u8 59),(.int .u8 36),(.int .u8 45),(.int .u8 43),(.int .u8 51),(.int .u8 22),(.int .u8 53),(.int .u8 39),(.int .u8 33),(.int .u8 30),(.int .u8 24),(.int .u8 18),(.int .u8 12),(.int .u8 5),(.int .u8 63),(.int .u8 55),(.int .u8 48),(.int .u8 27),(.int .u8 60),(.int .u8 41),(.int .u8 37),(.int .u8 16),(.int .u8 46),(.int .u8 35),(.int .u8 44),(.int .u8 21),(.int .u8 52),(.int .u8 32),(.int .u8 23),(.int .u8 11),(.int .u8 54),(.int .u8 26),(.int .u8 40),(.int .u8 15),(.int .u8 34),(.int .u8 20),(.int .u8 31),(.int .u8 10),(.int .u8 25),(.int .u8 14),(.int .u8 19),(.int .u8 9),(.int .u8 13),(.int .u8 8),(.int .u8 7),(.int .u8 6)]
def tbl : List (Option TFunc) := [none,none,none,none,none,some t5,some t6,some t7,some t8,some t9,some t10,some t11,none,some t13,none,some t15,none,none,some t18,some t19,some t20,some t21,some t22,some t23,some t24,some t25,some t26,none,none,none,some t30,some t31,none,some t33,some t34,some t35,some t36,some t37,some t38,none,some t40,none,some t42,none,none,some t45,some t46,some t47,some t48,some t49,some t50,some t51,none,none,none,none,none,none,none,none,none,none,none,none,none,none,none,some t67,some t68,some t69,none,none,none,none,none,none,none,none,none,none,none,none,some t82,none,none,none,none,none,some t88,some t89,some t90,some t91,some t92]
def gtbl : List (Option (List IV)) := [some g0]
def K : TM.Prog := ⟨fun k => tbl.getD k none,fun g => gtbl.getD g none,fun f => primAt prims f⟩
def Good (k : Nat) (tf : TFunc) : Prop := ∃ (A : Ann) (fn : Func), Tryd.prog.funcs[k]? = some fn ∧ fn.name ≠ "runtime.NumGoroutine" ∧ compFunc Tryd.prog opts A fn = some tf
theorem n5 : (Tryd.f5.name == "runtime.NumGoroutine") = false := by kernel_rfl
theorem q5 : Good 5 t5 := ⟨a5,Tryd.f5,Tryd.func5,fun e => by have h := n5; rw [e] at h; simp at h,c5⟩
theorem n6 : (Tryd.f6.name == "runtime.NumGoroutine") = false := by kernel_rfl
theorem q6 : Good 6 t6 := ⟨a6,Tryd.f6,Tryd.func6,fun e => by have h := n6; rw [e] at h; simp at h,c6⟩
theorem n7 : (Tryd.f7.name == "runtime.NumGoroutine") = false := by kernel_rfl
theorem q7 : Good 7 t7 := ⟨a7,Tryd.f7,Tryd.func7,fun e => by have h := n7; rw [e] at h; simp at h,c7⟩
theorem n8 : (Tryd.f8.name == "runtime.NumGoroutine") = false := by kernel_rfl
theorem q8 : Good 8 t8 := ⟨a8,Tryd.f8,Tryd.func8,fun e => by have h := n8; rw [e] at h; simp at h,c8⟩
theorem n9 : (Tryd.f9.name == "runtime.NumGoroutine") = false := by kernel_rfl
theorem q9 : Good 9 t9 := ⟨a9,Tryd.f9,Tryd.func9,fun e => by have h := n9; rw [e] at h; simp at h,c9⟩
theorem n10 : (Tryd.f10.name == "runtime.NumGoroutine") = false := by kernel_rfl
theorem q10 : Good 10 t10 := ⟨a10,Tryd.f10,Tryd.func10,fun e => by have h := n10; rw [e] at h; simp at h,c10⟩
theorem n11 : (Tryd.f11.name == "runtime.NumGoroutine") = false := by kernel_rfl
theorem q11 : Good 11 t11 := ⟨a11,Tryd.f11,Tryd.func11,fun e => by have h := n11; rw [e] at h; simp at h,c11⟩
theorem n13 : (Tryd.f13.name == "runtime.NumGoroutine") = false := by kernel_rfl
theorem q13 : Good 13 t13 := ⟨a13,Tryd.f13,Tryd.func13,fun e => by have h := n13; rw [e] at h; simp at h,c13⟩
theorem n15 : (Tryd.f15.name == "runtime.NumGoroutine") = false := by kernel_rfl
theorem q15 : Good 15 t15 := ⟨a15,Tryd.f15,Tryd.func15,fun e => by have h := n15; rw [e] at h; simp at h,c15⟩
theorem n18 : (Tryd.f18.name == "runtime.NumGoroutine") = false := by kernel_rfl
theorem q18 : Good 18 t18 := ⟨a18,Tryd.f18,Tryd.func18,fun e => by have h := n18; rw [e] at h; simp at h,c18⟩
theorem n19 : (Tryd.f19.name == "runtime.NumGoroutine") = false := by kernel_rfl
theorem q19 : Good 19 t19 := ⟨a19,Tryd.f19,Tryd.func19,fun e => by have h := n19; rw [e] at h; simp at h,c19⟩
theorem n20 : (Tryd.f20.name == "runtime.NumGoroutine") = false := by kernel_rfl
theorem q20 : Good 20 t20 := ⟨a20,Tryd.f20,Tryd.func20,fun e => by have h := n20; rw [e] at h; simp at h,c20⟩
theorem n21 : (Tryd.f21.name == "runtime.NumGoroutine") = false := by kernel_rfl
theorem q21 : Good 21 t21 := ⟨a21,Tryd.f21,Tryd.func21,fun e => by have h := n21; rw [e] at h; simp at h,c21⟩
theorem n22 : (Tryd.f22.name == "runtime.NumGoroutine") = false := by kernel_rfl
theorem q22 : Good 22 t22 := ⟨a22,Tryd.f22,Tryd.func22,fun e => by have h := n22; rw [e] at h; simp at h,c22⟩
theorem n23 : (Tryd.f23.name == "runtime.NumGoroutine") = false := by kernel_rfl
theorem q23 : Good 23 t23 := ⟨a23,Tryd.f23,Tryd.func23,fun e => by have h := n23; rw [e] at h; simp at h,c23⟩
theorem n24 : (Tryd.f24.name == "runtime.NumGoroutine") = false := by kernel_rfl
theorem q24 : Good 24 t24 := ⟨a24,Tryd.f24,Tryd.func24,fun e => by have h := n24; rw [e] at h; simp at h,c24⟩
theorem n25 : (Tryd.f25.name == "runtime.NumGoroutine") = false := by kernel_rfl
theorem q25 : Good 25 t25 := ⟨a25,Tryd.f25,Tryd.func25,fun e => by have h := n25; rw [e] at h; simp at h,c25⟩
theorem n26 : (Tryd.f26.name == "runtime.NumGoroutine") = false := by kernel_rfl
theorem q26 : Good 26 t26 := ⟨a26,Tryd.f26,Tryd.func26,fun e => by have h := n26; rw [e] at h; simp at h,c26⟩
theorem n30 : (Tryd.f30.name == "runtime.NumGoroutine") = false := by kernel_rfl
theorem q30 : Good 30 t30 := ⟨a30,Tryd.f30,Tryd.func30,fun e => by have h := n30; rw [e] at h; simp at h,c30⟩
theorem n31 : (Tryd.f31.name == "runtime.NumGoroutine") = false := by kernel_rfl
theorem q31 : Good 31 t31 := ⟨a31,Tryd.f31,Tryd.func31,fun e => by have h := n31; rw [e] at h; simp at h,c31⟩
theorem n33 : (Tryd.f33.name == "runtime.NumGoroutine") = false := by kernel_rfl
theorem q33 : Good 33 t33 := ⟨a33,Tryd.f33,Tryd.func33,fun e => by have h := n33; rw [e] at h; simp at h,c33⟩
theorem n34 : (Tryd.f34.name == "runtime.NumGoroutine") = false := by kernel_rfl
theorem q34 : Good 34 t34 := ⟨a34,Tryd.f34,Tryd.func34,fun e => by have h := n34; rw [e] at h; simp at h,c34⟩
theorem n35 : (Tryd.f35.name == "runtime.NumGoroutine") = false := by kernel_rfl
theorem q35 : Good 35 t35 := ⟨a35,Tryd.f35,Tryd.func35,fun e => by have h := n35; rw [e] at h; simp at h,c35⟩
theorem n36 : (Tryd.f36.name == "runtime.NumGoroutine") = false := by kernel_rfl
theorem q36 : Good 36 t36 := ⟨a36,Tryd.f36,Tryd.func36,fun e => by have h := n36; rw [e] at h; simp at h,c36⟩
theorem n37 : (Tryd.f37.name == "runtime.NumGoroutine") = false := by kernel_rfl
theorem q37 : Good 37 t37 := ⟨a37,Tryd.f37,Tryd.func37,fun e => by have h := n37; rw [e] at h; simp at h,c37⟩
theorem n38 : (Tryd.f38.name == "runtime.NumGoroutine") = false := by kernel_rfl
theorem q38 : Good 38 t38 := ⟨a38,Tryd.f38,Tryd.func38,fun e => by have h := n38; rw [e] at h; simp at h,c38⟩
theorem n40 : (Tryd.f40.name == "runtime.NumGoroutine") = false := by kernel_rfl
theorem q40 : Good 40 t40 := ⟨a40,Tryd.f40,Tryd.func40,fun e => by have h := n40; rw [e] at h; simp at h,c40⟩
theorem n42 : (Tryd.f42.name == "runtime.NumGoroutine") = false := by kernel_rfl
theorem q42 : Good 42 t42 := ⟨a42,Tryd.f42,Tryd.func42,fun e => by have h := n42; rw [e] at h; simp at h,c42⟩
theorem n45 : (Tryd.f45.name == "runtime.NumGoroutine") = false := by kernel_rfl
theorem q45 : Good 45 t45 := ⟨a45,Tryd.f45,Tryd.func45,fun e => by have h := n45; rw [e] at h; simp at h,c45⟩
theorem n46 : (Tryd.f46.name == "runtime.NumGoroutine") = false := by kernel_rfl
theorem q46 : Good 46 t46 := ⟨a46,Tryd.f46,Tryd.func46,fun e => by have h := n46; rw [e] at h; simp at h,c46⟩
theorem n47 : (Tryd.f47.name == "runtime.NumGoroutine") = false := by kernel_rfl
theorem q47 : Good 47 t47 := ⟨a47,Tryd.f47,Tryd.func47,fun e => by have h := n47; rw [e] at h; simp at h,c47⟩
theorem n48 : (Tryd.f48.name == "runtime.NumGoroutine") = false := by kernel_rfl
theorem q48 : Good 48 t48 := ⟨a48,Tryd.f48,Tryd.func48,fun e => by have h := n48; rw [e] at h; simp at h,c48⟩
theorem n49 : (Tryd.f49.name == "runtime.NumGoroutine") = false := by kernel_rfl
theorem q49 : Good 49 t49 := ⟨a49,Tryd.f49,Tryd.func49,fun e => by have h := n49; rw [e] at h; simp at h,c49⟩
theorem n50 : (Tryd.f50.name == "runtime.NumGoroutine") = false := by kernel_rfl
theorem q50 : Good 50 t50 := ⟨a50,Tryd.f50,Tryd.func50,fun e => by have h := n50; rw [e] at h; simp at h,c50⟩
theorem n51 : (Tryd.f51.name == "runtime.NumGoroutine") = false := by kernel_rfl
theorem q51 : Good 51 t51 := ⟨a51,Tryd.f51,Tryd.func51,fun e => by have h := n51; rw [e] at h; simp at h,c51⟩
theorem n67 : (Tryd.f67.name == "runtime.NumGoroutine") = false := by kernel_rfl
theorem q67 : Good 67 t67 := ⟨a67,Tryd.f67,Tryd.func67,fun e => by have h := n67; rw [e] at h; simp at h,c67⟩
theorem n68 : (Tryd.f68.name == "runtime.NumGoroutine") = false := by kernel_rfl
theorem q68 : Good 68 t68 := ⟨a68,Tryd.f68,Tryd.func68,fun e => by have h := n68; rw [e] at h; simp at h,c68⟩
theorem n69 : (Tryd.f69.name == "runtime.NumGoroutine") = false := by kernel_rfl
theorem q69 : Good 69 t69 := ⟨a69,Tryd.f69,Tryd.func69,fun e => by have h := n69; rw [e] at h; simp at h,c69⟩
theorem n82 : (Tryd.f82.name == "runtime.NumGoroutine") = false := by kernel_rfl
theorem q82 : Good 82 t82 := ⟨a82,Tryd.f82,Tryd.func82,fun e => by have h := n82; rw [e] at h; simp at h,c82⟩
theorem n88 : (Tryd.f88.name == "runtime.NumGoroutine") = false := by kernel_rfl
theorem q88 : Good 88 t88 := ⟨a88,Tryd.f88,Tryd.func88,fun e => by have h := n88; rw [e] at h; simp at h,c88⟩
theorem n89 : (Tryd.f89.name == "runtime.NumGoroutine") = false := by kernel_rfl
theorem q89 : Good 89 t89 := ⟨a89,Tryd.f89,Tryd.func89,fun e => by have h := n89; rw [e] at h; simp at h,c89⟩
theorem n90 : (Tryd.f90.name == "runtime.NumGoroutine") = false := by kernel_rfl
theorem q90 : Good 90 t90 := ⟨a90,Tryd.f90,Tryd.func90,fun e => by have h := n90; rw [e] at h; simp at h,c90⟩
theorem n91 : (Tryd.f91.name == "runtime.NumGoroutine") = false := by kernel_rfl
theorem q91 : Good 91 t91 := ⟨a91,Tryd.f91,Tryd.func91,fun e => by have h := n91; rw [e] at h; simp at h,c91⟩
theorem n92 : (Tryd.f92.name == "runtime.NumGoroutine") = false := by kernel_rfl
theorem q92 : Good 92 t92 := ⟨a92,Tryd.f92,Tryd.func92,fun e => by have h := n92; rw [e] at h; simp at h,c92⟩
theorem good : AllAt Good 0 tbl := ⟨q5,q6,q7,q8,q9,q10,q11,q13,q15,q18,q19,q20,q21,q22,q23,q24,q25,q26,q30,q31,q33,q34,q35,q36,q37,q38,q40,q42,q45,q46,q47,q48,q49,q50,q51,q67,q68,q69,q82,q88,q89,q90,q91,q92,trivial⟩
theorem kok : KOK Tryd.prog opts K := ⟨fun k tf h => allAt_get good k tf h,fun f p h => primAt_ok (prims_ok opts K) h,by kernel_rfl⟩
end Go.Proofs.YtehlgnfhkidgoaaDoor
