/- The functions of this seat, compiled for the evaluator TM; each held against the translation by the kernel. By program. Condition: none. -/
import Derived.Test.YtookmpaholmmfaaGreatDoorPrim
set_option maxRecDepth 100000
set_option linter.unusedVariables false
namespace Go.Proofs.YtookmpaholmmfaaGreatDoor
open Go Go.TM
def opts : Opts := ⟨fun f => ([3,4,9,10,19,20,33,34,35,36,37,38,39,40,41,44,45,46,47,48,49,54,55,56,58,66,67,70,73,76,78,79,80,81,82,83,84,86,87,88,89,93,97,98,99,101,103,112,113,114,115,120,122,123,124,131,132,134,135,139,142,143,144,145,146,147,149,153,154,155,163,167,169,171,174,175,176,177,178,179,181,182,189,191,193,195,196,197,201,210,211,212,213,214,215,216,217] : List Nat).contains f,fun f => ([47,80,113,165] : List Nat).contains f⟩
def a3 : Ann := { slots := [0,1,2,3,4,5,13,18,21,32,41],lb := [1],mu := [],trunc := [],draws := [(7,⟨[0,1,3,0,8,31,63,127],[0,1,3,4],[(2,[4],[]),(5,[],[6,7])]⟩)] }
def t3L0 : TCode := (.seq (.seq (.region [⟨.mov (.loc 5),none,none⟩,⟨.mov (.loc 3),none,none⟩,⟨.len .sl (.reg 1),none,none⟩,⟨.bin .lss (.reg 0) (.reg 2),(some 9),none⟩])
(.cond (.loc 9)
.skip
(.exit 0)))
(.seq (.block 1
(.seq (.region [⟨.mov (.loc 4),none,none⟩,⟨.mov (.loc 3),none,none⟩,⟨.mov (.loc 5),none,none⟩,⟨.indexAddrS 1 (.reg 1) (.reg 2),none,none⟩,⟨.load1 (.reg 3),none,none⟩,⟨.call true false 16 [(.reg 0),(.reg 4)],none,none⟩,⟨.un .not (.reg 5),(some 10),none⟩])
(.cond (.loc 10)
(.seq (.region [⟨.mov (.cst (.bool false)),(some 2),none⟩])
.ret)
.skip)))
(.region [⟨.mov (.loc 5),none,none⟩,⟨.bin .add (.reg 0) (.cst (.int .i64 1)),none,none⟩,⟨.mov (.reg 1),(some 5),none⟩])))
def t3 : TFunc := ⟨1,11,[.loc 2],
(.seq (.region [⟨.boxL 1 (.loc 0),none,none⟩,⟨.mov (.cst (.bool false)),(some 2),none⟩])
(.seq (.seq (.region [⟨.loadN 8 (.loc 1),none,none⟩,⟨.call false false 9 [(.reg 0)],none,none⟩,⟨.mov (.reg 1),none,none⟩,⟨.fieldAddr 0 (.loc 1),none,(some (2,false))⟩,⟨.loadN 5 (.reg 3),none,(some (2,false))⟩,⟨.call false false 10 [(.reg 4),(.cst (.int .i64 60))],none,(some (2,false))⟩,⟨.bin .gtr (.reg 5) (.cst (.int .i64 2000)),none,(some (2,false))⟩,⟨.pick (.reg 2) (.cst (.bool true)) (.reg 6),(some 6),none⟩])
(.cond (.loc 6)
(.seq (.region [⟨.call true false 11 [],none,none⟩,⟨.mov (.reg 0),(some 2),none⟩])
.ret)
.skip))
(.seq (.seq (.region [⟨.fieldAddr 0 (.loc 1),none,none⟩,⟨.loadN 5 (.reg 0),none,none⟩,⟨.call true false 12 [(.reg 1)],none,none⟩,⟨.un .not (.reg 2),(some 7),none⟩])
(.cond (.loc 7)
(.seq (.region [⟨.mov (.cst (.bool false)),(some 2),none⟩])
.ret)
.skip))
(.seq (.seq (.region [⟨.loadN 8 (.loc 1),none,none⟩,⟨.call true false 13 [(.reg 0)],none,none⟩,⟨.bin .neq (.reg 1) (.cst (.int .i64 0)),(some 8),none⟩])
(.cond (.loc 8)
(.seq (.region [⟨.call true false 11 [],none,none⟩,⟨.mov (.reg 0),(some 2),none⟩])
.ret)
.skip))
(.seq (.draw [0,1,3,4] [(2,[4],[]),(5,[],[6,7])] [⟨.fieldAddr 0 (.loc 1),none,none⟩,⟨.loadN 5 (.reg 0),none,none⟩,⟨.call true false 14 [(.reg 1)],none,none⟩,⟨.fieldAddr 0 (.loc 1),none,none⟩,⟨.loadN 5 (.reg 3),none,none⟩,⟨.call true false 15 [(.reg 4)],none,none⟩,⟨.mov (.reg 2),(some 3),none⟩,⟨.mov (.reg 5),(some 4),none⟩])
(.seq (.seq (.region [⟨.mov (.cst (.int .i64 0)),(some 5),none⟩])
(.block 0
(.loop t3L0)))
(.seq (.region [⟨.fieldAddr 0 (.loc 1),none,none⟩,⟨.loadN 5 (.reg 0),none,none⟩,⟨.call true false 17 [(.reg 1)],none,none⟩,⟨.len .sl (.reg 2),none,none⟩,⟨.bin .eql (.reg 3) (.cst (.int .i64 0)),none,none⟩,⟨.mov (.reg 4),none,none⟩,⟨.call true false 11 [],none,(some (5,true))⟩,⟨.pick (.reg 5) (.reg 6) (.cst (.bool false)),none,none⟩,⟨.mov (.reg 7),(some 2),none⟩])
.ret)))))))⟩
theorem c3 : compFunc Tryz.prog opts a3 Tryz.f3 = some t3 := by kernel_rfl
def a9 : Ann := { slots := [0,1,2,3,12,21],lb := [1],mu := [],trunc := [],draws := [] }
def t9L0 : TCode := (.seq (.seq (.region [⟨.mov (.loc 3),none,none⟩,⟨.fieldAddr 7 (.loc 1),none,none⟩,⟨.load1 (.reg 1),none,none⟩,⟨.len .sl (.reg 2),none,none⟩,⟨.bin .lss (.reg 0) (.reg 3),none,none⟩,⟨.mov (.reg 4),none,none⟩,⟨.mov (.loc 3),none,(some (5,true))⟩,⟨.bin .lss (.reg 6) (.cst (.int .i64 30)),none,(some (5,true))⟩,⟨.pick (.reg 5) (.reg 7) (.cst (.bool false)),(some 4),none⟩])
(.cond (.loc 4)
.skip
(.exit 0)))
(.seq (.block 1
(.seq (.region [⟨.fieldAddr 7 (.loc 1),none,none⟩,⟨.load1 (.reg 0),none,none⟩,⟨.mov (.loc 3),none,none⟩,⟨.indexAddrS 5 (.reg 1) (.reg 2),none,none⟩,⟨.loadN 5 (.reg 3),none,none⟩,⟨.call false false 40 [(.reg 4),(.cst (.int .i64 60))],none,none⟩,⟨.bin .gtr (.reg 5) (.cst (.int .i64 200)),(some 5),none⟩])
(.cond (.loc 5)
(.seq (.region [⟨.mov (.cst (.bool true)),(some 2),none⟩])
.ret)
.skip)))
(.region [⟨.mov (.loc 3),none,none⟩,⟨.bin .add (.reg 0) (.cst (.int .i64 1)),none,none⟩,⟨.mov (.reg 1),(some 3),none⟩])))
def t9 : TFunc := ⟨1,6,[.loc 2],
(.seq (.region [⟨.boxL 1 (.loc 0),none,none⟩,⟨.mov (.cst (.bool false)),(some 2),none⟩])
(.seq (.seq (.region [⟨.mov (.cst (.int .i64 0)),(some 3),none⟩])
(.block 0
(.loop t9L0)))
(.seq (.region [⟨.fieldAddr 0 (.loc 1),none,none⟩,⟨.loadN 5 (.reg 0),none,none⟩,⟨.call false false 10 [(.reg 1),(.cst (.int .i64 4100))],none,none⟩,⟨.bin .gtr (.reg 2) (.cst (.int .i64 4500)),none,none⟩,⟨.mov (.reg 3),none,none⟩,⟨.fieldAddr 7 (.loc 1),none,(some (4,false))⟩,⟨.load1 (.reg 5),none,(some (4,false))⟩,⟨.len .sl (.reg 6),none,(some (4,false))⟩,⟨.bin .gtr (.reg 7) (.cst (.int .i64 20)),none,(some (4,false))⟩,⟨.pick (.reg 4) (.cst (.bool true)) (.reg 8),none,none⟩,⟨.mov (.reg 9),(some 2),none⟩])
.ret)))⟩
theorem c9 : compFunc Tryz.prog opts a9 Tryz.f9 = some t9 := by kernel_rfl
def a10 : Ann := { slots := [0,1,2,4,5,6,8,21],lb := [2],mu := [],trunc := [],draws := [] }
def t10L0 : TCode := (.seq (.seq (.region [⟨.mov (.loc 5),none,none⟩,⟨.fieldAddr 4 (.loc 2),none,none⟩,⟨.load1 (.reg 1),none,none⟩,⟨.len .sl (.reg 2),none,none⟩,⟨.bin .lss (.reg 0) (.reg 3),none,none⟩,⟨.mov (.reg 4),none,none⟩,⟨.mov (.loc 4),none,(some (5,true))⟩,⟨.bin .lss (.reg 6) (.cst (.int .i64 9000)),none,(some (5,true))⟩,⟨.pick (.reg 5) (.reg 7) (.cst (.bool false)),(some 7),none⟩])
(.cond (.loc 7)
.skip
(.exit 0)))
(.seq (.block 1
(.region [⟨.mov (.loc 4),none,none⟩,⟨.fieldAddr 4 (.loc 2),none,none⟩,⟨.load1 (.reg 1),none,none⟩,⟨.mov (.loc 5),none,none⟩,⟨.indexAddrS 5 (.reg 2) (.reg 3),none,none⟩,⟨.loadN 5 (.reg 4),none,none⟩,⟨.mov (.loc 1),none,none⟩,⟨.bin .sub (.reg 6) (.cst (.int .i64 1)),none,none⟩,⟨.call false false 10 [(.reg 5),(.reg 7)],none,none⟩,⟨.bin .add (.reg 0) (.reg 8),none,none⟩,⟨.mov (.reg 9),(some 4),none⟩]))
(.region [⟨.mov (.loc 5),none,none⟩,⟨.bin .add (.reg 0) (.cst (.int .i64 1)),none,none⟩,⟨.mov (.reg 1),(some 5),none⟩])))
def t10 : TFunc := ⟨2,8,[.loc 3],
(.seq (.region [⟨.boxL 2 (.loc 0),none,none⟩,⟨.mov (.cst (.int .i64 0)),(some 3),none⟩])
(.seq (.seq (.region [⟨.mov (.loc 1),none,none⟩,⟨.bin .eql (.reg 0) (.cst (.int .i64 0)),(some 6),none⟩])
(.cond (.loc 6)
(.seq (.region [⟨.mov (.cst (.int .i64 9000)),(some 3),none⟩])
.ret)
.skip))
(.seq (.region [⟨.fieldAddr 2 (.loc 2),none,none⟩,⟨.load1 (.reg 0),none,none⟩,⟨.len .sl (.reg 1),none,none⟩,⟨.bin .add (.cst (.int .i64 1)) (.reg 2),none,none⟩,⟨.mov (.reg 3),(some 4),none⟩])
(.seq (.seq (.region [⟨.mov (.cst (.int .i64 0)),(some 5),none⟩])
(.block 0
(.loop t10L0)))
(.seq (.region [⟨.mov (.loc 4),none,none⟩,⟨.mov (.reg 0),(some 3),none⟩])
.ret)))))⟩
theorem c10 : compFunc Tryz.prog opts a10 Tryz.f10 = some t10 := by kernel_rfl
def a11 : Ann := { slots := [0,1],lb := [1],mu := [],trunc := [],draws := [] }
def t11 : TFunc := ⟨0,2,[.loc 0],
(.seq (.region [⟨.mov (.cst (.bool false)),(some 0),none⟩])
(.seq (.region [⟨.call false false 34 [(.cst (.int .i64 1))],none,none⟩,⟨.call false false 33 [(.reg 0)],none,none⟩,⟨.allocL 1 [(.int .i64 0),(.int .i64 0),(.sl .nil []),(.bool false),(.sl .nil []),(.int .i64 0),(.int .i64 0),(.sl .nil [])],none,none⟩,⟨.store 8 (.reg 2) (.reg 1),none,none⟩])
(.seq (.region [⟨.loadN 8 (.loc 1),none,none⟩,⟨.call true false 13 [(.reg 0)],none,none⟩,⟨.bin .eql (.reg 1) (.cst (.int .i64 0)),none,none⟩,⟨.mov (.reg 2),none,none⟩,⟨.fieldAddr 0 (.loc 1),none,(some (3,true))⟩,⟨.loadN 5 (.reg 4),none,(some (3,true))⟩,⟨.call false false 41 [(.reg 5)],none,(some (3,true))⟩,⟨.bin .eql (.reg 6) (.cst (.int .i64 12)),none,(some (3,true))⟩,⟨.pick (.reg 3) (.reg 7) (.cst (.bool false)),none,none⟩,⟨.mov (.reg 8),none,none⟩,⟨.call false false 36 [],none,(some (9,true))⟩,⟨.call false false 38 [(.reg 10)],none,(some (9,true))⟩,⟨.bin .eql (.reg 11) (.cst (.str [40,108,97,109,98,100,97,32,40,118,48,32,46,32,118,49,41,32,40,105,102,32,118,48,32,40,99,97,108,108,32,103,48,32,118,49,41,32,99,48,41,41])),none,(some (9,true))⟩,⟨.pick (.reg 9) (.reg 12) (.cst (.bool false)),none,none⟩,⟨.mov (.reg 13),none,none⟩,⟨.call false false 36 [],none,(some (14,true))⟩,⟨.field 4 1 false (.reg 15),none,(some (14,true))⟩,⟨.indexAddrS 5 (.reg 16) (.cst (.int .i64 0)),none,(some (14,true))⟩,⟨.loadN 5 (.reg 17),none,(some (14,true))⟩,⟨.call true false 17 [(.reg 18)],none,(some (14,true))⟩,⟨.len .sl (.reg 19),none,(some (14,true))⟩,⟨.bin .eql (.reg 20) (.cst (.int .i64 2)),none,(some (14,true))⟩,⟨.pick (.reg 14) (.reg 21) (.cst (.bool false)),none,none⟩,⟨.mov (.reg 22),(some 0),none⟩])
.ret)))⟩
theorem c11 : compFunc Tryz.prog opts a11 Tryz.f11 = some t11 := by kernel_rfl
def a12 : Ann := { slots := [0,1,2,3,4,5,6,7,16,27,43,51,57,62,71],lb := [1],mu := [],trunc := [],draws := [(2,⟨[0,1,0,4,12,28,63,127,255],[0,2,3,4,5],[(1,[3,5],[]),(6,[],[7,8])]⟩),(7,⟨[0,1,0,0,12,28,63,0,0,0,768,1792,4095,8191],[0,1,2,3,4,5,7,8,9,10,11],[(6,[11],[]),(12,[],[13])]⟩),(9,⟨[0,1,0,0,12,28,63,127],[0,1,2,3,4,5],[(6,[],[7])]⟩)] }
def t12L0 : TCode := (.seq (.seq (.region [⟨.mov (.loc 7),none,none⟩,⟨.fieldAddr 4 (.loc 1),none,none⟩,⟨.load1 (.reg 1),none,none⟩,⟨.len .sl (.reg 2),none,none⟩,⟨.bin .lss (.reg 0) (.reg 3),(some 13),none⟩])
(.cond (.loc 13)
.skip
(.exit 2)))
(.seq (.block 3
(.seq (.region [⟨.fieldAddr 4 (.loc 1),none,none⟩,⟨.load1 (.reg 0),none,none⟩,⟨.mov (.loc 7),none,none⟩,⟨.indexAddrS 5 (.reg 1) (.reg 2),none,none⟩,⟨.loadN 5 (.reg 3),none,none⟩,⟨.call true false 12 [(.reg 4)],none,none⟩,⟨.un .not (.reg 5),(some 14),none⟩])
(.cond (.loc 14)
(.seq (.region [⟨.mov (.cst (.bool false)),(some 2),none⟩])
.ret)
.skip)))
(.region [⟨.mov (.loc 7),none,none⟩,⟨.bin .add (.reg 0) (.cst (.int .i64 1)),none,none⟩,⟨.mov (.reg 1),(some 7),none⟩])))
def t12L1 : TCode := (.seq (.seq (.region [⟨.mov (.loc 6),none,none⟩,⟨.mov (.loc 4),none,none⟩,⟨.len .sl (.reg 1),none,none⟩,⟨.bin .lss (.reg 0) (.reg 2),(some 9),none⟩])
(.cond (.loc 9)
.skip
(.exit 0)))
(.seq (.block 1
(.seq (.seq (.draw [0,1,2,3,4,5,7,8,9,10,11] [(6,[11],[]),(12,[],[13])] [⟨.fieldAddr 2 (.loc 1),none,none⟩,⟨.load1 (.reg 0),none,none⟩,⟨.mov (.loc 4),none,none⟩,⟨.mov (.loc 6),none,none⟩,⟨.indexAddrS 1 (.reg 2) (.reg 3),none,none⟩,⟨.load1 (.reg 4),none,none⟩,⟨.call true false 16 [(.reg 1),(.reg 5)],none,none⟩,⟨.mov (.loc 3),none,none⟩,⟨.mov (.loc 4),none,none⟩,⟨.mov (.loc 6),none,none⟩,⟨.indexAddrS 1 (.reg 8) (.reg 9),none,none⟩,⟨.load1 (.reg 10),none,none⟩,⟨.call true false 16 [(.reg 7),(.reg 11)],none,none⟩,⟨.eqB false .bool (.reg 6) (.reg 12),(some 10),none⟩])
(.cond (.loc 10)
(.seq (.region [⟨.mov (.cst (.bool false)),(some 2),none⟩])
.ret)
.skip))
(.seq (.draw [0,1,2,3,4,5] [(6,[],[7])] [⟨.fieldAddr 2 (.loc 1),none,none⟩,⟨.load1 (.reg 0),none,none⟩,⟨.mov (.loc 4),none,none⟩,⟨.mov (.loc 6),none,none⟩,⟨.indexAddrS 1 (.reg 2) (.reg 3),none,none⟩,⟨.load1 (.reg 4),none,none⟩,⟨.call true false 16 [(.reg 1),(.reg 5)],none,none⟩,⟨.un .not (.reg 6),(some 11),none⟩])
(.cond (.loc 11)
(.region [⟨.mov (.loc 5),none,none⟩,⟨.bin .add (.reg 0) (.cst (.int .i64 1)),none,none⟩,⟨.mov (.reg 1),(some 5),none⟩])
.skip))))
(.region [⟨.mov (.loc 6),none,none⟩,⟨.bin .add (.reg 0) (.cst (.int .i64 1)),none,none⟩,⟨.mov (.reg 1),(some 6),none⟩])))
def t12 : TFunc := ⟨1,15,[.loc 2],
(.seq (.region [⟨.boxL 1 (.loc 0),none,none⟩,⟨.mov (.cst (.bool false)),(some 2),none⟩])
(.seq (.seq (.region [⟨.fieldAddr 0 (.loc 1),none,none⟩,⟨.load1 (.reg 0),none,none⟩,⟨.bin .eql (.reg 1) (.cst (.int .i64 7)),none,none⟩,⟨.mov (.reg 2),none,none⟩,⟨.fieldAddr 4 (.loc 1),none,(some (3,true))⟩,⟨.load1 (.reg 4),none,(some (3,true))⟩,⟨.len .sl (.reg 5),none,(some (3,true))⟩,⟨.bin .eql (.reg 6) (.cst (.int .i64 1)),none,(some (3,true))⟩,⟨.pick (.reg 3) (.reg 7) (.cst (.bool false)),(some 8),none⟩])
(.cond (.loc 8)
(.seq (.draw [0,2,3,4,5] [(1,[3,5],[]),(6,[],[7,8])] [⟨.loadN 5 (.loc 1),none,none⟩,⟨.call true false 17 [(.reg 0)],none,none⟩,⟨.fieldAddr 4 (.loc 1),none,none⟩,⟨.load1 (.reg 2),none,none⟩,⟨.indexAddrS 5 (.reg 3) (.cst (.int .i64 0)),none,none⟩,⟨.loadN 5 (.reg 4),none,none⟩,⟨.call true false 17 [(.reg 5)],none,none⟩,⟨.mov (.reg 1),(some 3),none⟩,⟨.mov (.reg 6),(some 4),none⟩])
(.seq (.region [⟨.mov (.cst (.int .i64 0)),(some 5),none⟩])
(.seq (.seq (.region [⟨.mov (.cst (.int .i64 0)),(some 6),none⟩])
(.block 0
(.loop t12L1)))
(.seq (.region [⟨.mov (.loc 5),none,none⟩,⟨.mov (.loc 3),none,none⟩,⟨.len .sl (.reg 1),none,none⟩,⟨.bin .neq (.reg 0) (.reg 2),(some 12),none⟩])
(.cond (.loc 12)
(.seq (.region [⟨.mov (.cst (.bool false)),(some 2),none⟩])
.ret)
.skip)))))
.skip))
(.seq (.seq (.region [⟨.mov (.cst (.int .i64 0)),(some 7),none⟩])
(.block 2
(.loop t12L0)))
(.seq (.region [⟨.mov (.cst (.bool true)),(some 2),none⟩])
.ret))))⟩
theorem c12 : compFunc Tryz.prog opts a12 Tryz.f12 = some t12 := by kernel_rfl
def a13 : Ann := { slots := [0,1,2,4,5,18,20,21,22,23,33],lb := [4,1],mu := [],trunc := [],draws := [] }
def t13L0 : TCode := (.seq (.region [⟨.bin .lss (.loc 8) (.loc 7),(some 9),none⟩])
(.seq (.cond (.loc 9)
.skip
(.exit 0))
(.seq (.block 1
(.seq (.region [⟨.indexAddrS 5 (.loc 6) (.loc 8),none,none⟩,⟨.loadN 5 (.reg 0),none,none⟩,⟨.allocL 3 [(.int .i64 0),(.int .i64 0),(.str []),(.sl .nil []),(.int .i64 0)],none,none⟩,⟨.store 5 (.reg 2) (.reg 1),none,none⟩])
(.seq (.region [⟨.loadN 5 (.loc 3),none,none⟩,⟨.call true false 42 [(.reg 0)],none,none⟩,⟨.un .not (.reg 1),none,none⟩,⟨.mov (.reg 2),none,none⟩,⟨.loadN 5 (.loc 3),none,(some (3,false))⟩,⟨.call true false 43 [(.reg 4)],none,(some (3,false))⟩,⟨.un .not (.reg 5),none,(some (3,false))⟩,⟨.pick (.reg 3) (.cst (.bool true)) (.reg 6),(some 10),none⟩])
(.cond (.loc 10)
(.seq (.region [⟨.mov (.cst (.int .i64 2)),(some 2),none⟩])
.ret)
.skip))))
(.region [⟨.bin .add (.loc 8) (.cst (.int .i64 1)),none,none⟩,⟨.mov (.reg 0),(some 8),none⟩]))))
def t13 : TFunc := ⟨1,11,[.loc 2],
(.seq (.region [⟨.boxL 1 (.loc 0),none,none⟩,⟨.mov (.cst (.int .i64 0)),(some 2),none⟩])
(.seq (.seq (.region [⟨.fieldAddr 5 (.loc 1),none,none⟩,⟨.load1 (.reg 0),none,none⟩,⟨.bin .lss (.reg 1) (.cst (.int .i64 0)),none,none⟩,⟨.mov (.reg 2),none,none⟩,⟨.fieldAddr 5 (.loc 1),none,(some (3,false))⟩,⟨.load1 (.reg 4),none,(some (3,false))⟩,⟨.bin .gtr (.reg 5) (.cst (.int .i64 20000)),none,(some (3,false))⟩,⟨.pick (.reg 3) (.cst (.bool true)) (.reg 6),none,none⟩,⟨.mov (.reg 7),none,none⟩,⟨.fieldAddr 6 (.loc 1),none,(some (8,false))⟩,⟨.load1 (.reg 9),none,(some (8,false))⟩,⟨.bin .lss (.reg 10) (.cst (.int .i64 0)),none,(some (8,false))⟩,⟨.pick (.reg 8) (.cst (.bool true)) (.reg 11),(some 5),none⟩])
(.cond (.loc 5)
(.seq (.region [⟨.mov (.cst (.int .i64 2)),(some 2),none⟩])
.ret)
.skip))
(.seq (.seq (.region [⟨.fieldAddr 7 (.loc 1),none,none⟩,⟨.load1 (.reg 0),(some 6),none⟩,⟨.len .sl (.reg 1),(some 7),none⟩,⟨.mov (.cst (.int .i64 0)),(some 8),none⟩])
(.block 0
(.loop t13L0)))
(.seq (.region [⟨.loadN 8 (.loc 1),none,none⟩,⟨.mkMap,none,none⟩,⟨.mkMap,none,none⟩,⟨.mkMap,none,none⟩,⟨.build [(.int .i64 0),(.int .i64 0),(.sl .nil []),(.bool false),(.sl .nil []),(.int .i64 0),(.int .i64 0),(.sl .nil []),.nilm,.nilm,.nilm] [(0,8,(.reg 0)),(8,1,(.reg 1)),(9,1,(.reg 2)),(10,1,(.reg 3))],none,none⟩,⟨.boxH 58 (.reg 4),none,none⟩,⟨.mov (.reg 5),(some 4),none⟩])
(.seq (.region [⟨.mov (.loc 4),none,none⟩,⟨.fieldAddr 0 (.loc 1),none,none⟩,⟨.loadN 5 (.reg 1),none,none⟩,⟨.call false false 44 [(.reg 0),(.reg 2),(.cst (.int .i64 0))],none,none⟩,⟨.mov (.reg 3),(some 2),none⟩])
.ret)))))⟩
theorem c13 : compFunc Tryz.prog opts a13 Tryz.f13 = some t13 := by kernel_rfl
def a14 : Ann := { slots := [0,1,2,3],lb := [1],mu := [],trunc := [],draws := [] }
def t14 : TFunc := ⟨1,4,[.loc 2],
(.seq (.region [⟨.boxL 1 (.loc 0),none,none⟩,⟨.mov (.cst (.sl .nil [])),(some 2),none⟩])
(.seq (.region [⟨.mkMap,none,none⟩,⟨.allocH 56 [.nilm],(some 3),none⟩,⟨.store 1 (.reg 1) (.reg 0),none,none⟩])
(.seq (.region [⟨.loadN 5 (.loc 1),none,none⟩,⟨.mkFn 46 [] [(.loc 3)],none,none⟩,⟨.call false false 45 [(.reg 0),(.reg 1)],none,none⟩])
(.seq (.region [⟨.load1 (.loc 3),none,none⟩,⟨.prim 47 [(.reg 0)],none,none⟩,⟨.mov (.reg 1),(some 2),none⟩])
.ret))))⟩
theorem c14 : compFunc Tryz.prog opts a14 Tryz.f14 = some t14 := by kernel_rfl
def a15 : Ann := { slots := [0,1,2,3],lb := [1],mu := [],trunc := [],draws := [] }
def t15 : TFunc := ⟨1,4,[.loc 2],
(.seq (.region [⟨.boxL 1 (.loc 0),none,none⟩,⟨.mov (.cst (.sl .nil [])),(some 2),none⟩])
(.seq (.region [⟨.mkMap,none,none⟩,⟨.allocH 56 [.nilm],(some 3),none⟩,⟨.store 1 (.reg 1) (.reg 0),none,none⟩])
(.seq (.region [⟨.loadN 5 (.loc 1),none,none⟩,⟨.mkFn 48 [] [(.loc 3)],none,none⟩,⟨.call false false 45 [(.reg 0),(.reg 1)],none,none⟩])
(.seq (.region [⟨.load1 (.loc 3),none,none⟩,⟨.prim 47 [(.reg 0)],none,none⟩,⟨.mov (.reg 1),(some 2),none⟩])
.ret))))⟩
theorem c15 : compFunc Tryz.prog opts a15 Tryz.f15 = some t15 := by kernel_rfl
def a16 : Ann := { slots := [0,1,4,5,9,17],lb := [],mu := [],trunc := [],draws := [] }
def t16L0 : TCode := (.seq (.seq (.region [⟨.mov (.loc 3),none,none⟩,⟨.mov (.loc 0),none,none⟩,⟨.len .sl (.reg 1),none,none⟩,⟨.bin .lss (.reg 0) (.reg 2),(some 4),none⟩])
(.cond (.loc 4)
.skip
(.exit 0)))
(.seq (.block 1
(.seq (.region [⟨.mov (.loc 0),none,none⟩,⟨.mov (.loc 3),none,none⟩,⟨.indexAddrS 1 (.reg 0) (.reg 1),none,none⟩,⟨.load1 (.reg 2),none,none⟩,⟨.mov (.loc 1),none,none⟩,⟨.bin .eql (.reg 3) (.reg 4),(some 5),none⟩])
(.cond (.loc 5)
(.seq (.region [⟨.mov (.cst (.bool true)),(some 2),none⟩])
.ret)
.skip)))
(.region [⟨.mov (.loc 3),none,none⟩,⟨.bin .add (.reg 0) (.cst (.int .i64 1)),none,none⟩,⟨.mov (.reg 1),(some 3),none⟩])))
def t16 : TFunc := ⟨2,6,[.loc 2],
(.seq (.region [⟨.mov (.cst (.bool false)),(some 2),none⟩])
(.seq (.seq (.region [⟨.mov (.cst (.int .i64 0)),(some 3),none⟩])
(.block 0
(.loop t16L0)))
(.seq (.region [⟨.mov (.cst (.bool false)),(some 2),none⟩])
.ret)))⟩
theorem c16 : compFunc Tryz.prog opts a16 Tryz.f16 = some t16 := by kernel_rfl
def a17 : Ann := { slots := [0,1,2,3],lb := [1],mu := [],trunc := [],draws := [] }
def t17 : TFunc := ⟨1,4,[.loc 2],
(.seq (.region [⟨.boxL 1 (.loc 0),none,none⟩,⟨.mov (.cst (.sl .nil [])),(some 2),none⟩])
(.seq (.region [⟨.mkMap,none,none⟩,⟨.mov (.reg 0),(some 3),none⟩])
(.seq (.region [⟨.loadN 5 (.loc 1),none,none⟩,⟨.mkMap,none,none⟩,⟨.mov (.loc 3),none,none⟩,⟨.call false false 49 [(.reg 0),(.reg 1),(.reg 2)],none,none⟩])
(.seq (.region [⟨.mov (.loc 3),none,none⟩,⟨.prim 47 [(.reg 0)],none,none⟩,⟨.mov (.reg 1),(some 2),none⟩])
.ret))))⟩
theorem c17 : compFunc Tryz.prog opts a17 Tryz.f17 = some t17 := by kernel_rfl
def a33 : Ann := { slots := [0,1,2,3],lb := [3,2,1],mu := [(2,5),(2,9)],trunc := [],draws := [(2,⟨[0,0,0,6,14,31,63,0,0,384,1023,2047],[0,2,7,8,9],[(1,[0,2],[3]),(4,[0],[5,6,10]),(11,[],[])]⟩)] }
def t33 : TFunc := ⟨1,4,[.cell 2 8 true],
(.seq (.region [⟨.boxL 1 (.loc 0),none,none⟩,⟨.allocL 2 [(.int .i64 0),(.int .i64 0),(.sl .nil []),(.bool false),(.sl .nil []),(.int .i64 0),(.int .i64 0),(.sl .nil [])],none,none⟩])
(.seq (.region [⟨.call false false 36 [],none,none⟩,⟨.lit false [(.int .i64 0),(.int .i64 0),(.sl .nil []),(.bool false),(.sl .nil [])] 1 [(0,(.reg 0))],none,none⟩,⟨.build [(.int .i64 0),(.int .i64 0),(.sl .nil []),(.bool false),(.sl .nil [])] [(0,1,(.cst (.int .i64 5))),(4,1,(.reg 1))],none,none⟩,⟨.allocL 3 [(.int .i64 0),(.int .i64 0),(.sl .nil []),(.bool false),(.sl .nil [])],none,none⟩,⟨.store 5 (.reg 3) (.reg 2),none,none⟩])
(.seq (.draw [0,2,7,8,9] [(1,[0,2],[3]),(4,[0],[5,6,10]),(11,[],[])] [⟨.loadN 5 (.loc 3),none,none⟩,⟨.call false false 35 [(.cst (.int .i64 0))],none,none⟩,⟨.loadN 5 (.loc 1),none,none⟩,⟨.lit false [(.int .i64 0),(.int .i64 0),(.sl .nil []),(.bool false),(.sl .nil [])] 2 [(0,(.reg 1)),(1,(.reg 2))],none,none⟩,⟨.call false false 73 [(.reg 3)],none,none⟩,⟨.lit true [(.int .i64 0),(.int .i64 0),(.sl .nil []),(.bool false),(.sl .nil [])] 2 [(0,(.reg 0)),(1,(.reg 4))],none,none⟩,⟨.build [(.int .i64 0),(.int .i64 0),(.sl .nil []),(.bool false),(.sl .nil [])] [(0,1,(.cst (.int .i64 10))),(4,1,(.reg 5))],none,none⟩,⟨.build [(.int .i64 0),(.int .i64 0),(.str []),(.sl .nil []),(.int .i64 0)] [(0,1,(.cst (.int .i64 2))),(2,1,(.cst (.str [53])))],none,none⟩,⟨.build [(.int .i64 0),(.int .i64 0),(.str []),(.sl .nil []),(.int .i64 0)] [(0,1,(.cst (.int .i64 4))),(2,1,(.cst (.str [97])))],none,none⟩,⟨.lit true [(.int .i64 0),(.int .i64 0),(.str []),(.sl .nil []),(.int .i64 0)] 2 [(0,(.reg 7)),(1,(.reg 8))],none,none⟩,⟨.build [(.int .i64 0),(.int .i64 0),(.sl .nil []),(.bool false),(.sl .nil []),(.int .i64 0),(.int .i64 0),(.sl .nil [])] [(0,5,(.reg 6)),(5,1,(.cst (.int .i64 1))),(6,1,(.cst (.int .i64 2))),(7,1,(.reg 9))],none,none⟩,⟨.store 8 (.loc 2) (.reg 10),none,none⟩])
.ret)))⟩
theorem c33 : compFunc Tryz.prog opts a33 Tryz.f33 = some t33 := by kernel_rfl
def a34 : Ann := { slots := [0,2],lb := [2],mu := [],trunc := [],draws := [] }
def t34 : TFunc := ⟨1,2,[.cell 1 5 true],
(.seq (.region [⟨.allocL 1 [(.int .i64 0),(.int .i64 0),(.sl .nil []),(.bool false),(.sl .nil [])],none,none⟩])
(.seq (.region [⟨.mov (.loc 0),none,none⟩,⟨.build [(.int .i64 0),(.int .i64 0),(.sl .nil []),(.bool false),(.sl .nil [])] [(0,1,(.cst (.int .i64 1))),(1,1,(.reg 0))],none,none⟩,⟨.store 5 (.loc 1) (.reg 1),none,none⟩])
.ret))⟩
theorem c34 : compFunc Tryz.prog opts a34 Tryz.f34 = some t34 := by kernel_rfl
def a35 : Ann := { slots := [0,2],lb := [2],mu := [],trunc := [],draws := [] }
def t35 : TFunc := ⟨1,2,[.cell 1 5 true],
(.seq (.region [⟨.allocL 1 [(.int .i64 0),(.int .i64 0),(.sl .nil []),(.bool false),(.sl .nil [])],none,none⟩])
(.seq (.region [⟨.mov (.loc 0),none,none⟩,⟨.build [(.int .i64 0),(.int .i64 0),(.sl .nil []),(.bool false),(.sl .nil [])] [(0,1,(.cst (.int .i64 3))),(1,1,(.reg 0))],none,none⟩,⟨.store 5 (.loc 1) (.reg 1),none,none⟩])
.ret))⟩
theorem c35 : compFunc Tryz.prog opts a35 Tryz.f35 = some t35 := by kernel_rfl
def a36 : Ann := { slots := [0,1],lb := [1,0],mu := [],trunc := [],draws := [] }
def t36 : TFunc := ⟨0,2,[.cell 0 5 true],
(.seq (.region [⟨.allocL 0 [(.int .i64 0),(.int .i64 0),(.sl .nil []),(.bool false),(.sl .nil [])],none,none⟩])
(.seq (.region [⟨.call false false 37 [(.cst (.int .i64 0))],none,none⟩,⟨.call false false 35 [(.cst (.int .i64 0))],none,none⟩,⟨.call false false 37 [(.cst (.int .i64 1))],none,none⟩,⟨.lit false [(.int .i64 0),(.int .i64 0),(.sl .nil []),(.bool false),(.sl .nil [])] 2 [(0,(.reg 1)),(1,(.reg 2))],none,none⟩,⟨.call false false 73 [(.reg 3)],none,none⟩,⟨.call false false 34 [(.cst (.int .i64 0))],none,none⟩,⟨.lit false [(.int .i64 0),(.int .i64 0),(.sl .nil []),(.bool false),(.sl .nil [])] 3 [(0,(.reg 0)),(1,(.reg 4)),(2,(.reg 5))],none,none⟩,⟨.build [(.int .i64 0),(.int .i64 0),(.sl .nil []),(.bool false),(.sl .nil [])] [(0,1,(.cst (.int .i64 6))),(4,1,(.reg 6))],none,none⟩,⟨.allocL 1 [(.int .i64 0),(.int .i64 0),(.sl .nil []),(.bool false),(.sl .nil [])],none,none⟩,⟨.store 5 (.reg 8) (.reg 7),none,none⟩])
(.seq (.region [⟨.lit false [(.int .i64 0)] 2 [(0,(.cst (.int .i64 0))),(1,(.cst (.int .i64 1)))],none,none⟩,⟨.loadN 5 (.loc 1),none,none⟩,⟨.lit false [(.int .i64 0),(.int .i64 0),(.sl .nil []),(.bool false),(.sl .nil [])] 1 [(0,(.reg 1))],none,none⟩,⟨.build [(.int .i64 0),(.int .i64 0),(.sl .nil []),(.bool false),(.sl .nil [])] [(0,1,(.cst (.int .i64 7))),(2,1,(.reg 0)),(3,1,(.cst (.bool true))),(4,1,(.reg 2))],none,none⟩,⟨.store 5 (.loc 0) (.reg 3),none,none⟩])
.ret)))⟩
theorem c36 : compFunc Tryz.prog opts a36 Tryz.f36 = some t36 := by kernel_rfl
def a37 : Ann := { slots := [0,2],lb := [2],mu := [],trunc := [],draws := [] }
def t37 : TFunc := ⟨1,2,[.cell 1 5 true],
(.seq (.region [⟨.allocL 1 [(.int .i64 0),(.int .i64 0),(.sl .nil []),(.bool false),(.sl .nil [])],none,none⟩])
(.seq (.region [⟨.mov (.loc 0),none,none⟩,⟨.build [(.int .i64 0),(.int .i64 0),(.sl .nil []),(.bool false),(.sl .nil [])] [(0,1,(.cst (.int .i64 2))),(1,1,(.reg 0))],none,none⟩,⟨.store 5 (.loc 1) (.reg 1),none,none⟩])
.ret))⟩
theorem c37 : compFunc Tryz.prog opts a37 Tryz.f37 = some t37 := by kernel_rfl
def a38 : Ann := { slots := [0,1,2,3,4,5,6,8,38,43,44,54,65,83,86,87,88,89],lb := [8,3,1],mu := [(4,2)],trunc := [],draws := [(9,⟨[0,1,0,4,12,31,63],[0,1,2,3],[(4,[1],[5,6])]⟩),(12,⟨[0,1,3,0,8,24,63,127,255],[0,1,2,3,4],[(5,[2],[6,7]),(8,[],[])]⟩)] }
def t38L0 : TCode := (.seq (.region [⟨.bin .lss (.loc 16) (.loc 15),(some 17),none⟩])
(.seq (.cond (.loc 17)
.skip
(.exit 1))
(.seq (.block 2
(.seq (.region [⟨.indexAddrS 5 (.loc 14) (.loc 16),none,none⟩,⟨.loadN 5 (.reg 0),none,none⟩,⟨.allocL 7 [(.int .i64 0),(.int .i64 0),(.sl .nil []),(.bool false),(.sl .nil [])],none,none⟩,⟨.store 5 (.reg 2) (.reg 1),none,none⟩])
(.region [⟨.mov (.loc 5),none,none⟩,⟨.loadN 5 (.loc 7),none,none⟩,⟨.call false false 38 [(.reg 1)],none,none⟩,⟨.lit false [(.str [])] 1 [(0,(.reg 2))],none,none⟩,⟨.append false 1 16 9 (.reg 0) (.reg 3),none,none⟩,⟨.mov (.reg 4),(some 5),none⟩])))
(.region [⟨.bin .add (.loc 16) (.cst (.int .i64 1)),none,none⟩,⟨.mov (.reg 0),(some 16),none⟩]))))
def t38 : TFunc := ⟨1,18,[.loc 2],
(.seq (.region [⟨.boxL 1 (.loc 0),none,none⟩,⟨.mov (.cst (.str [])),(some 2),none⟩])
(.seq (.region [⟨.loadN 5 (.loc 1),none,none⟩,⟨.call true false 74 [(.reg 0)],none,none⟩,⟨.mov (.reg 1),none,none⟩,⟨.extract 0 (.reg 2),none,none⟩,⟨.extract 1 (.reg 2),none,none⟩,⟨.allocL 3 [(.bool false),(.int .i64 0),(.bool false),(.str [])],none,none⟩,⟨.store 4 (.reg 5) (.reg 3),none,none⟩,⟨.mov (.reg 4),(some 4),none⟩])
(.seq (.seq (.region [⟨.mov (.loc 4),none,none⟩,⟨.un .not (.reg 0),none,none⟩,⟨.mov (.reg 1),none,none⟩,⟨.fieldAddr 4 (.loc 1),none,(some (2,false))⟩,⟨.load1 (.reg 3),none,(some (2,false))⟩,⟨.len .sl (.reg 4),none,(some (2,false))⟩,⟨.fieldAddr 1 (.loc 3),none,(some (2,false))⟩,⟨.load1 (.reg 6),none,(some (2,false))⟩,⟨.bin .lss (.reg 5) (.reg 7),none,(some (2,false))⟩,⟨.pick (.reg 2) (.cst (.bool true)) (.reg 8),none,none⟩,⟨.mov (.reg 9),none,none⟩,⟨.fieldAddr 3 (.loc 1),none,(some (10,false))⟩,⟨.load1 (.reg 11),none,(some (10,false))⟩,⟨.mov (.reg 12),none,(some (10,false))⟩,⟨.fieldAddr 0 (.loc 1),none,(some (13,true))⟩,⟨.load1 (.reg 14),none,(some (13,true))⟩,⟨.bin .eql (.reg 15) (.cst (.int .i64 7)),none,(some (13,true))⟩,⟨.pick (.reg 13) (.reg 16) (.cst (.bool false)),none,(some (10,false))⟩,⟨.mov (.reg 17),none,(some (10,false))⟩,⟨.fieldAddr 2 (.loc 1),none,(some (18,true))⟩,⟨.load1 (.reg 19),none,(some (18,true))⟩,⟨.len .sl (.reg 20),none,(some (18,true))⟩,⟨.bin .eql (.reg 21) (.cst (.int .i64 0)),none,(some (18,true))⟩,⟨.pick (.reg 18) (.reg 22) (.cst (.bool false)),none,(some (10,false))⟩,⟨.pick (.reg 10) (.cst (.bool true)) (.reg 23),(some 8),none⟩])
(.cond (.loc 8)
(.seq (.region [⟨.mov (.cst (.str [63])),(some 2),none⟩])
.ret)
.skip))
(.seq (.region [⟨.fieldAddr 3 (.loc 3),none,none⟩,⟨.load1 (.reg 0),none,none⟩,⟨.lit true [(.str [])] 1 [(0,(.reg 1))],none,none⟩,⟨.mov (.reg 2),(some 5),none⟩])
(.seq (.seq (.region [⟨.fieldAddr 0 (.loc 1),none,none⟩,⟨.load1 (.reg 0),(some 9),none⟩])
(.block 0
(.seq (.seq (.region [⟨.bin .eql (.loc 9) (.cst (.int .i64 1)),none,none⟩,⟨.mov (.reg 0),(some 10),none⟩])
(.cond (.loc 10)
.skip
(.seq (.region [⟨.bin .eql (.loc 9) (.cst (.int .i64 2)),none,none⟩,⟨.mov (.reg 0),(some 10),none⟩])
(.cond (.loc 10)
.skip
(.region [⟨.bin .eql (.loc 9) (.cst (.int .i64 3)),none,none⟩,⟨.mov (.reg 0),(some 10),none⟩])))))
(.cond (.loc 10)
(.seq (.draw [0,1,2,3] [(4,[1],[5,6])] [⟨.fieldAddr 3 (.loc 3),none,none⟩,⟨.load1 (.reg 0),none,none⟩,⟨.fieldAddr 1 (.loc 1),none,none⟩,⟨.load1 (.reg 2),none,none⟩,⟨.call true false 75 [(.reg 3)],none,none⟩,⟨.bin .add (.reg 1) (.reg 4),none,none⟩,⟨.mov (.reg 5),(some 2),none⟩])
.ret)
(.seq (.seq (.region [⟨.bin .eql (.loc 9) (.cst (.int .i64 4)),none,none⟩,⟨.mov (.reg 0),(some 11),none⟩])
(.cond (.loc 11)
.skip
(.region [⟨.bin .eql (.loc 9) (.cst (.int .i64 5)),none,none⟩,⟨.mov (.reg 0),(some 11),none⟩])))
(.cond (.loc 11)
(.draw [0,1,2,3,4] [(5,[2],[6,7]),(8,[],[])] [⟨.mov (.loc 5),none,none⟩,⟨.indexAddrS 1 (.reg 0) (.cst (.int .i64 0)),none,none⟩,⟨.load1 (.reg 1),none,none⟩,⟨.fieldAddr 1 (.loc 1),none,none⟩,⟨.load1 (.reg 3),none,none⟩,⟨.call true false 75 [(.reg 4)],none,none⟩,⟨.bin .add (.reg 2) (.reg 5),none,none⟩,⟨.indexAddrS 1 (.reg 0) (.cst (.int .i64 0)),none,none⟩,⟨.store 1 (.reg 7) (.reg 6),none,none⟩])
(.seq (.region [⟨.bin .eql (.loc 9) (.cst (.int .i64 7)),none,none⟩,⟨.mov (.reg 0),(some 12),none⟩])
(.cond (.loc 12)
(.region [⟨.mov (.loc 5),none,none⟩,⟨.loadN 5 (.loc 1),none,none⟩,⟨.call false false 76 [(.reg 1)],none,none⟩,⟨.lit false [(.str [])] 1 [(0,(.reg 2))],none,none⟩,⟨.append false 1 16 9 (.reg 0) (.reg 3),none,none⟩,⟨.mov (.reg 4),(some 5),none⟩])
.skip))))))))
(.seq (.region [⟨.fieldAddr 4 (.loc 1),none,none⟩,⟨.load1 (.reg 0),none,none⟩,⟨.fieldAddr 1 (.loc 3),none,none⟩,⟨.load1 (.reg 2),none,none⟩,⟨.slice (.sl 5) (.reg 1) none (some (.reg 3)) none,none,none⟩,⟨.mov (.reg 4),(some 6),none⟩])
(.seq (.seq (.region [⟨.fieldAddr 2 (.loc 3),none,none⟩,⟨.load1 (.reg 0),none,none⟩,⟨.mov (.reg 1),none,none⟩,⟨.fieldAddr 0 (.loc 1),none,(some (2,false))⟩,⟨.load1 (.reg 3),none,(some (2,false))⟩,⟨.bin .eql (.reg 4) (.cst (.int .i64 9)),none,(some (2,false))⟩,⟨.pick (.reg 2) (.cst (.bool true)) (.reg 5),(some 13),none⟩])
(.cond (.loc 13)
(.region [⟨.fieldAddr 4 (.loc 1),none,none⟩,⟨.load1 (.reg 0),none,none⟩,⟨.mov (.reg 1),(some 6),none⟩])
.skip))
(.seq (.seq (.region [⟨.mov (.loc 6),(some 14),none⟩,⟨.len .sl (.reg 0),(some 15),none⟩,⟨.mov (.cst (.int .i64 0)),(some 16),none⟩])
(.block 1
(.loop t38L0)))
(.seq (.region [⟨.mov (.loc 5),none,none⟩,⟨.call true false 77 [(.reg 0),(.cst (.str [32]))],none,none⟩,⟨.bin .add (.cst (.str [40])) (.reg 1),none,none⟩,⟨.bin .add (.reg 2) (.cst (.str [41])),none,none⟩,⟨.mov (.reg 3),(some 2),none⟩])
.ret)))))))))⟩
theorem c38 : compFunc Tryz.prog opts a38 Tryz.f38 = some t38 := by kernel_rfl
def a40 : Ann := { slots := [0,1,2,4,5,6,8,17],lb := [2],mu := [],trunc := [],draws := [] }
def t40L0 : TCode := (.seq (.seq (.region [⟨.mov (.loc 5),none,none⟩,⟨.fieldAddr 3 (.loc 2),none,none⟩,⟨.load1 (.reg 1),none,none⟩,⟨.len .sl (.reg 2),none,none⟩,⟨.bin .lss (.reg 0) (.reg 3),none,none⟩,⟨.mov (.reg 4),none,none⟩,⟨.mov (.loc 4),none,(some (5,true))⟩,⟨.bin .lss (.reg 6) (.cst (.int .i64 5000)),none,(some (5,true))⟩,⟨.pick (.reg 5) (.reg 7) (.cst (.bool false)),(some 7),none⟩])
(.cond (.loc 7)
.skip
(.exit 0)))
(.seq (.block 1
(.region [⟨.mov (.loc 4),none,none⟩,⟨.fieldAddr 3 (.loc 2),none,none⟩,⟨.load1 (.reg 1),none,none⟩,⟨.mov (.loc 5),none,none⟩,⟨.indexAddrS 5 (.reg 2) (.reg 3),none,none⟩,⟨.loadN 5 (.reg 4),none,none⟩,⟨.mov (.loc 1),none,none⟩,⟨.bin .sub (.reg 6) (.cst (.int .i64 1)),none,none⟩,⟨.call false false 40 [(.reg 5),(.reg 7)],none,none⟩,⟨.bin .add (.reg 0) (.reg 8),none,none⟩,⟨.mov (.reg 9),(some 4),none⟩]))
(.region [⟨.mov (.loc 5),none,none⟩,⟨.bin .add (.reg 0) (.cst (.int .i64 1)),none,none⟩,⟨.mov (.reg 1),(some 5),none⟩])))
def t40 : TFunc := ⟨2,8,[.loc 3],
(.seq (.region [⟨.boxL 2 (.loc 0),none,none⟩,⟨.mov (.cst (.int .i64 0)),(some 3),none⟩])
(.seq (.seq (.region [⟨.mov (.loc 1),none,none⟩,⟨.bin .eql (.reg 0) (.cst (.int .i64 0)),(some 6),none⟩])
(.cond (.loc 6)
(.seq (.region [⟨.mov (.cst (.int .i64 5000)),(some 3),none⟩])
.ret)
.skip))
(.seq (.region [⟨.mov (.cst (.int .i64 1)),(some 4),none⟩])
(.seq (.seq (.region [⟨.mov (.cst (.int .i64 0)),(some 5),none⟩])
(.block 0
(.loop t40L0)))
(.seq (.region [⟨.mov (.loc 4),none,none⟩,⟨.mov (.reg 0),(some 3),none⟩])
.ret)))))⟩
theorem c40 : compFunc Tryz.prog opts a40 Tryz.f40 = some t40 := by kernel_rfl
def a41 : Ann := { slots := [0,1,2],lb := [1],mu := [],trunc := [],draws := [] }
def t41 : TFunc := ⟨1,3,[.cell 2 1 false],
(.seq (.region [⟨.boxL 1 (.loc 0),none,none⟩,⟨.allocH 4 [(.int .i64 0)],(some 2),none⟩])
(.seq (.region [⟨.loadN 5 (.loc 1),none,none⟩,⟨.mkFn 81 [] [(.loc 2)],none,none⟩,⟨.call false false 45 [(.reg 0),(.reg 1)],none,none⟩])
(.seq (.region [⟨.load1 (.loc 2),none,none⟩,⟨.store 1 (.loc 2) (.reg 0),none,none⟩])
.ret)))⟩
theorem c41 : compFunc Tryz.prog opts a41 Tryz.f41 = some t41 := by kernel_rfl
def a42 : Ann := { slots := [0,1,2,4,10,17],lb := [1],mu := [],trunc := [],draws := [] }
def t42L0 : TCode := (.seq (.seq (.region [⟨.loadN 5 (.loc 1),none,none⟩,⟨.call false false 82 [(.reg 0)],(some 3),none⟩])
(.cond (.loc 3)
.skip
(.exit 0)))
(.block 1
(.seq (.seq (.region [⟨.fieldAddr 3 (.loc 1),none,none⟩,⟨.load1 (.reg 0),none,none⟩,⟨.indexAddrS 5 (.reg 1) (.cst (.int .i64 0)),none,none⟩,⟨.loadN 5 (.reg 2),none,none⟩,⟨.call true false 42 [(.reg 3)],none,none⟩,⟨.un .not (.reg 4),(some 4),none⟩])
(.cond (.loc 4)
(.seq (.region [⟨.mov (.cst (.bool false)),(some 2),none⟩])
.ret)
.skip))
(.region [⟨.fieldAddr 3 (.loc 1),none,none⟩,⟨.load1 (.reg 0),none,none⟩,⟨.indexAddrS 5 (.reg 1) (.cst (.int .i64 1)),none,none⟩,⟨.loadN 5 (.reg 2),none,none⟩,⟨.store 5 (.loc 1) (.reg 3),none,none⟩]))))
def t42 : TFunc := ⟨1,6,[.loc 2],
(.seq (.region [⟨.boxL 1 (.loc 0),none,none⟩,⟨.mov (.cst (.bool false)),(some 2),none⟩])
(.seq (.block 0
(.loop t42L0))
(.seq (.seq (.region [⟨.fieldAddr 0 (.loc 1),none,none⟩,⟨.load1 (.reg 0),none,none⟩,⟨.bin .eql (.reg 1) (.cst (.int .i64 7)),(some 5),none⟩])
(.cond (.loc 5)
(.seq (.region [⟨.fieldAddr 3 (.loc 1),none,none⟩,⟨.load1 (.reg 0),none,none⟩,⟨.call false false 83 [(.reg 1),(.fn 84)],none,none⟩,⟨.un .not (.reg 2),none,none⟩,⟨.mov (.reg 3),(some 2),none⟩])
.ret)
.skip))
(.seq (.region [⟨.fieldAddr 3 (.loc 1),none,none⟩,⟨.load1 (.reg 0),none,none⟩,⟨.len .sl (.reg 1),none,none⟩,⟨.bin .eql (.reg 2) (.cst (.int .i64 0)),none,none⟩,⟨.mov (.reg 3),none,none⟩,⟨.loadN 5 (.loc 1),none,(some (4,true))⟩,⟨.call true false 85 [(.reg 5)],none,(some (4,true))⟩,⟨.pick (.reg 4) (.reg 6) (.cst (.bool false)),none,none⟩,⟨.mov (.reg 7),(some 2),none⟩])
.ret))))⟩
theorem c42 : compFunc Tryz.prog opts a42 Tryz.f42 = some t42 := by kernel_rfl
def a43 : Ann := { slots := [0,1,2,11,17,29],lb := [1],mu := [],trunc := [],draws := [] }
def t43L0 : TCode := (.seq (.seq (.region [⟨.fieldAddr 0 (.loc 1),none,none⟩,⟨.load1 (.reg 0),none,none⟩,⟨.bin .eql (.reg 1) (.cst (.int .i64 6)),none,none⟩,⟨.mov (.reg 2),none,none⟩,⟨.fieldAddr 3 (.loc 1),none,(some (3,true))⟩,⟨.load1 (.reg 4),none,(some (3,true))⟩,⟨.len .sl (.reg 5),none,(some (3,true))⟩,⟨.bin .eql (.reg 6) (.cst (.int .i64 2)),none,(some (3,true))⟩,⟨.pick (.reg 3) (.reg 7) (.cst (.bool false)),(some 3),none⟩])
(.cond (.loc 3)
.skip
(.exit 0)))
(.block 1
(.seq (.seq (.region [⟨.fieldAddr 3 (.loc 1),none,none⟩,⟨.load1 (.reg 0),none,none⟩,⟨.indexAddrS 5 (.reg 1) (.cst (.int .i64 0)),none,none⟩,⟨.loadN 5 (.reg 2),none,none⟩,⟨.call true false 43 [(.reg 3)],none,none⟩,⟨.un .not (.reg 4),(some 4),none⟩])
(.cond (.loc 4)
(.seq (.region [⟨.mov (.cst (.bool false)),(some 2),none⟩])
.ret)
.skip))
(.region [⟨.fieldAddr 3 (.loc 1),none,none⟩,⟨.load1 (.reg 0),none,none⟩,⟨.indexAddrS 5 (.reg 1) (.cst (.int .i64 1)),none,none⟩,⟨.loadN 5 (.reg 2),none,none⟩,⟨.store 5 (.loc 1) (.reg 3),none,none⟩]))))
def t43 : TFunc := ⟨1,6,[.loc 2],
(.seq (.region [⟨.boxL 1 (.loc 0),none,none⟩,⟨.mov (.cst (.bool false)),(some 2),none⟩])
(.seq (.block 0
(.loop t43L0))
(.seq (.seq (.region [⟨.fieldAddr 0 (.loc 1),none,none⟩,⟨.load1 (.reg 0),none,none⟩,⟨.bin .eql (.reg 1) (.cst (.int .i64 5)),none,none⟩,⟨.mov (.reg 2),none,none⟩,⟨.fieldAddr 1 (.loc 1),none,(some (3,true))⟩,⟨.load1 (.reg 4),none,(some (3,true))⟩,⟨.bin .neq (.reg 5) (.cst (.int .i64 0)),none,(some (3,true))⟩,⟨.pick (.reg 3) (.reg 6) (.cst (.bool false)),(some 5),none⟩])
(.cond (.loc 5)
(.seq (.region [⟨.mov (.cst (.bool false)),(some 2),none⟩])
.ret)
.skip))
(.seq (.region [⟨.fieldAddr 3 (.loc 1),none,none⟩,⟨.load1 (.reg 0),none,none⟩,⟨.call false false 83 [(.reg 1),(.fn 86)],none,none⟩,⟨.un .not (.reg 2),none,none⟩,⟨.mov (.reg 3),(some 2),none⟩])
.ret))))⟩
theorem c43 : compFunc Tryz.prog opts a43 Tryz.f43 = some t43 := by kernel_rfl
def a44 : Ann := { slots := [0,1,2,4,6,8,10,11,13,14,17,23,24,25,26,36,52,61,87,89,90,91,92,101,105,106,107,108],lb := [10,4],mu := [],trunc := [],draws := [(14,⟨[0,1,3,7,0,16,63,127,255],[0,1,2,3,4,5,6,7,8],[]⟩),(16,⟨[0,1,3,7,0,16,0,127],[0,1,2,3,4,5,6],[(7,[],[])]⟩),(17,⟨[0,1,3,7,15,31,63,127,255,511,1023,2047,4095,511,8703,32767,65535,131071,262143],[0,1,2,3,4,5,6,7,8,9,10,11,12,13,14,15,16,17,18],[]⟩)] }
def t44L0 : TCode := (.seq (.region [⟨.bin .lss (.loc 26) (.loc 25),(some 27),none⟩])
(.seq (.cond (.loc 27)
.skip
(.exit 5))
(.seq (.block 6
(.seq (.region [⟨.indexAddrS 1 (.loc 24) (.loc 26),none,none⟩,⟨.load1 (.reg 0),none,none⟩,⟨.mov (.reg 1),(some 8),none⟩])
(.region [⟨.mov (.loc 0),none,none⟩,⟨.nilCheck (.reg 0),none,none⟩,⟨.fieldAddr 10 (.reg 1),none,none⟩,⟨.load1 (.reg 2),none,none⟩,⟨.mov (.loc 8),none,none⟩,⟨.build [(.int .i64 0)] [],none,none⟩,⟨.update (.leaf .int) (.reg 3) (.reg 4) (.reg 5),none,none⟩])))
(.region [⟨.bin .add (.loc 26) (.cst (.int .i64 1)),none,none⟩,⟨.mov (.reg 0),(some 26),none⟩]))))
def t44L1 : TCode := (.seq (.region [⟨.bin .lss (.loc 21) (.loc 20),(some 22),none⟩])
(.seq (.cond (.loc 22)
.skip
(.exit 3))
(.seq (.block 4
(.seq (.region [⟨.indexAddrS 5 (.loc 19) (.loc 21),none,none⟩,⟨.loadN 5 (.reg 0),none,none⟩,⟨.allocL 6 [(.int .i64 0),(.int .i64 0),(.sl .nil []),(.bool false),(.sl .nil [])],none,none⟩,⟨.store 5 (.reg 2) (.reg 1),none,none⟩])
(.seq (.region [⟨.mov (.loc 0),none,none⟩,⟨.loadN 5 (.loc 6),none,none⟩,⟨.mov (.loc 2),none,none⟩,⟨.bin .add (.reg 2) (.cst (.int .i64 1)),none,none⟩,⟨.call false false 44 [(.reg 0),(.reg 1),(.reg 3)],none,none⟩,⟨.mov (.reg 4),(some 7),none⟩])
(.seq (.region [⟨.mov (.loc 7),none,none⟩,⟨.bin .neq (.reg 0) (.cst (.int .i64 0)),(some 23),none⟩])
(.cond (.loc 23)
(.seq (.region [⟨.mov (.loc 7),none,none⟩,⟨.mov (.reg 0),(some 4),none⟩])
.ret)
.skip)))))
(.region [⟨.bin .add (.loc 21) (.cst (.int .i64 1)),none,none⟩,⟨.mov (.reg 0),(some 21),none⟩]))))
def t44L2 : TCode := (.seq (.region [⟨.bin .lss (.loc 13) (.loc 12),(some 14),none⟩])
(.seq (.cond (.loc 14)
.skip
(.exit 1))
(.seq (.block 2
(.seq (.region [⟨.indexAddrS 1 (.loc 11) (.loc 13),none,none⟩,⟨.load1 (.reg 0),none,none⟩,⟨.mov (.reg 1),(some 5),none⟩])
(.seq (.seq (.region [⟨.mov (.loc 0),none,none⟩,⟨.nilCheck (.reg 0),none,none⟩,⟨.fieldAddr 8 (.reg 1),none,none⟩,⟨.load1 (.reg 2),none,none⟩,⟨.mov (.loc 5),none,none⟩,⟨.lookup (.leaf .int) (.agg [(.int .i64 0)]) false (.reg 3) (.reg 4),none,none⟩,⟨.field 0 1 false (.reg 5),none,none⟩,⟨.bin .gtr (.reg 6) (.cst (.int .i64 0)),(some 15),none⟩])
(.cond (.loc 15)
(.seq (.region [⟨.mov (.cst (.int .i64 14)),(some 4),none⟩])
.ret)
.skip))
(.seq (.region [⟨.mov (.loc 0),none,none⟩,⟨.nilCheck (.reg 0),none,none⟩,⟨.fieldAddr 8 (.reg 1),none,none⟩,⟨.load1 (.reg 2),none,none⟩,⟨.mov (.loc 5),none,none⟩,⟨.build [(.int .i64 0)] [(0,1,(.cst (.int .i64 1)))],none,none⟩,⟨.update (.leaf .int) (.reg 3) (.reg 4) (.reg 5),none,none⟩])
(.region [⟨.mov (.loc 0),none,none⟩,⟨.nilCheck (.reg 0),none,none⟩,⟨.fieldAddr 10 (.reg 1),none,none⟩,⟨.load1 (.reg 2),none,none⟩,⟨.mov (.loc 5),none,none⟩,⟨.build [(.int .i64 0)] [(0,1,(.cst (.int .i64 1)))],none,none⟩,⟨.update (.leaf .int) (.reg 3) (.reg 4) (.reg 5),none,none⟩])))))
(.region [⟨.bin .add (.loc 13) (.cst (.int .i64 1)),none,none⟩,⟨.mov (.reg 0),(some 13),none⟩]))))
def t44 : TFunc := ⟨3,28,[.loc 4],
(.seq (.region [⟨.boxL 3 (.loc 1),none,none⟩,⟨.mov (.cst (.int .i64 0)),(some 4),none⟩])
(.seq (.block 0
(.seq (.region [⟨.mov (.loc 2),none,none⟩,⟨.bin .geq (.reg 0) (.cst (.int .i64 4000)),none,none⟩,⟨.mov (.reg 1),(some 9),none⟩])
(.cond (.loc 9)
(.seq (.region [⟨.mov (.cst (.int .i64 5)),(some 4),none⟩])
.ret)
(.seq (.region [⟨.mov (.loc 0),none,none⟩,⟨.loadN 5 (.loc 3),none,none⟩,⟨.call false false 87 [(.reg 0),(.reg 1)],none,none⟩,⟨.un .not (.reg 2),none,none⟩,⟨.mov (.reg 3),(some 10),none⟩])
(.cond (.loc 10)
(.seq (.region [⟨.mov (.cst (.int .i64 4)),(some 4),none⟩])
.ret)
.skip)))))
(.seq (.seq (.region [⟨.fieldAddr 2 (.loc 3),none,none⟩,⟨.load1 (.reg 0),(some 11),none⟩,⟨.len .sl (.reg 1),(some 12),none⟩,⟨.mov (.cst (.int .i64 0)),(some 13),none⟩])
(.block 1
(.loop t44L2)))
(.seq (.seq (.region [⟨.fieldAddr 0 (.loc 3),none,none⟩,⟨.load1 (.reg 0),none,none⟩,⟨.bin .eql (.reg 1) (.cst (.int .i64 1)),(some 16),none⟩])
(.cond (.loc 16)
(.seq (.seq (.draw [0,1,2,3,4,5,6,7,8] [] [⟨.mov (.loc 0),none,none⟩,⟨.nilCheck (.reg 0),none,none⟩,⟨.fieldAddr 9 (.reg 1),none,none⟩,⟨.load1 (.reg 2),none,none⟩,⟨.fieldAddr 1 (.loc 3),none,none⟩,⟨.load1 (.reg 4),none,none⟩,⟨.lookup (.leaf .int) (.agg [(.int .i64 0)]) false (.reg 3) (.reg 5),none,none⟩,⟨.field 0 1 false (.reg 6),none,none⟩,⟨.bin .gtr (.reg 7) (.cst (.int .i64 0)),(some 17),none⟩])
(.cond (.loc 17)
(.seq (.region [⟨.mov (.cst (.int .i64 14)),(some 4),none⟩])
.ret)
.skip))
(.draw [0,1,2,3,4,5,6] [(7,[],[])] [⟨.mov (.loc 0),none,none⟩,⟨.nilCheck (.reg 0),none,none⟩,⟨.fieldAddr 9 (.reg 1),none,none⟩,⟨.load1 (.reg 2),none,none⟩,⟨.fieldAddr 1 (.loc 3),none,none⟩,⟨.load1 (.reg 4),none,none⟩,⟨.build [(.int .i64 0)] [(0,1,(.cst (.int .i64 1)))],none,none⟩,⟨.update (.leaf .int) (.reg 3) (.reg 5) (.reg 6),none,none⟩]))
.skip))
(.seq (.seq (.draw [0,1,2,3,4,5,6,7,8,9,10,11,12,13,14,15,16,17,18] [] [⟨.fieldAddr 0 (.loc 3),none,none⟩,⟨.load1 (.reg 0),none,none⟩,⟨.bin .eql (.reg 1) (.cst (.int .i64 2)),none,none⟩,⟨.mov (.reg 2),none,none⟩,⟨.fieldAddr 0 (.loc 3),none,(some (3,false))⟩,⟨.load1 (.reg 4),none,(some (3,false))⟩,⟨.bin .eql (.reg 5) (.cst (.int .i64 4)),none,(some (3,false))⟩,⟨.pick (.reg 3) (.cst (.bool true)) (.reg 6),none,none⟩,⟨.mov (.reg 7),none,none⟩,⟨.mov (.loc 0),none,(some (8,true))⟩,⟨.nilCheck (.reg 9),none,(some (8,true))⟩,⟨.fieldAddr 10 (.reg 10),none,(some (8,true))⟩,⟨.load1 (.reg 11),none,(some (8,true))⟩,⟨.fieldAddr 1 (.loc 3),none,(some (8,true))⟩,⟨.load1 (.reg 13),none,(some (8,true))⟩,⟨.lookup (.leaf .int) (.agg [(.int .i64 0)]) false (.reg 12) (.reg 14),none,(some (8,true))⟩,⟨.field 0 1 false (.reg 15),none,(some (8,true))⟩,⟨.bin .eql (.reg 16) (.cst (.int .i64 0)),none,(some (8,true))⟩,⟨.pick (.reg 8) (.reg 17) (.cst (.bool false)),(some 18),none⟩])
(.cond (.loc 18)
(.seq (.region [⟨.mov (.cst (.int .i64 6)),(some 4),none⟩])
.ret)
.skip))
(.seq (.seq (.region [⟨.fieldAddr 4 (.loc 3),none,none⟩,⟨.load1 (.reg 0),(some 19),none⟩,⟨.len .sl (.reg 1),(some 20),none⟩,⟨.mov (.cst (.int .i64 0)),(some 21),none⟩])
(.block 3
(.loop t44L1)))
(.seq (.seq (.region [⟨.fieldAddr 2 (.loc 3),none,none⟩,⟨.load1 (.reg 0),(some 24),none⟩,⟨.len .sl (.reg 1),(some 25),none⟩,⟨.mov (.cst (.int .i64 0)),(some 26),none⟩])
(.block 5
(.loop t44L0)))
(.seq (.region [⟨.mov (.cst (.int .i64 0)),(some 4),none⟩])
.ret))))))))⟩
theorem c44 : compFunc Tryz.prog opts a44 Tryz.f44 = some t44 := by kernel_rfl
def a45 : Ann := { slots := [0,1,2,5,10,11,12,13],lb := [5,2],mu := [],trunc := [],draws := [] }
def t45L0 : TCode := (.seq (.region [⟨.bin .lss (.loc 6) (.loc 5),(some 7),none⟩])
(.seq (.cond (.loc 7)
.skip
(.exit 0))
(.seq (.block 1
(.seq (.region [⟨.indexAddrS 5 (.loc 4) (.loc 6),none,none⟩,⟨.loadN 5 (.reg 0),none,none⟩,⟨.allocL 3 [(.int .i64 0),(.int .i64 0),(.sl .nil []),(.bool false),(.sl .nil [])],none,none⟩,⟨.store 5 (.reg 2) (.reg 1),none,none⟩])
(.region [⟨.loadN 5 (.loc 3),none,none⟩,⟨.mov (.loc 1),none,none⟩,⟨.call false false 45 [(.reg 0),(.reg 1)],none,none⟩])))
(.region [⟨.bin .add (.loc 6) (.cst (.int .i64 1)),none,none⟩,⟨.mov (.reg 0),(some 6),none⟩]))))
def t45 : TFunc := ⟨2,8,[],
(.seq (.region [⟨.boxL 2 (.loc 0),none,none⟩])
(.seq (.region [⟨.mov (.loc 1),none,none⟩,⟨.loadN 5 (.loc 2),none,none⟩,⟨.callv (.reg 0) [(.reg 1)],none,none⟩])
(.seq (.region [⟨.fieldAddr 4 (.loc 2),none,none⟩,⟨.load1 (.reg 0),(some 4),none⟩,⟨.len .sl (.reg 1),(some 5),none⟩,⟨.mov (.cst (.int .i64 0)),(some 6),none⟩])
(.block 0
(.loop t45L0)))))⟩
theorem c45 : compFunc Tryz.prog opts a45 Tryz.f45 = some t45 := by kernel_rfl
def a46 : Ann := { slots := [0,1,2,5],lb := [2],mu := [],trunc := [],draws := [] }
def t46 : TFunc := ⟨2,4,[],
(.seq (.region [⟨.boxL 2 (.loc 0),none,none⟩])
(.seq (.region [⟨.fieldAddr 0 (.loc 2),none,none⟩,⟨.load1 (.reg 0),none,none⟩,⟨.bin .eql (.reg 1) (.cst (.int .i64 4)),(some 3),none⟩])
(.cond (.loc 3)
(.region [⟨.load1 (.loc 1),none,none⟩,⟨.fieldAddr 1 (.loc 2),none,none⟩,⟨.load1 (.reg 1),none,none⟩,⟨.build [(.int .i64 0)] [],none,none⟩,⟨.update (.leaf .int) (.reg 0) (.reg 2) (.reg 3),none,none⟩])
.skip)))⟩
theorem c46 : compFunc Tryz.prog opts a46 Tryz.f46 = some t46 := by kernel_rfl
def a48 : Ann := { slots := [0,1,2,4,6,7,8,9,14],lb := [2],mu := [],trunc := [],draws := [] }
def t48L0 : TCode := (.seq (.region [⟨.bin .lss (.loc 6) (.loc 5),(some 7),none⟩])
(.seq (.cond (.loc 7)
.skip
(.exit 0))
(.seq (.block 1
(.seq (.region [⟨.indexAddrS 1 (.loc 4) (.loc 6),none,none⟩,⟨.load1 (.reg 0),none,none⟩,⟨.mov (.reg 1),(some 3),none⟩])
(.seq (.region [⟨.fieldAddr 0 (.loc 2),none,none⟩,⟨.load1 (.reg 0),none,none⟩,⟨.bin .eql (.reg 1) (.cst (.int .i64 7)),(some 8),none⟩])
(.cond (.loc 8)
(.region [⟨.load1 (.loc 1),none,none⟩,⟨.mov (.loc 3),none,none⟩,⟨.build [(.int .i64 0)] [],none,none⟩,⟨.update (.leaf .int) (.reg 0) (.reg 1) (.reg 2),none,none⟩])
.skip))))
(.region [⟨.bin .add (.loc 6) (.cst (.int .i64 1)),none,none⟩,⟨.mov (.reg 0),(some 6),none⟩]))))
def t48 : TFunc := ⟨2,9,[],
(.seq (.region [⟨.boxL 2 (.loc 0),none,none⟩])
(.seq (.region [⟨.fieldAddr 2 (.loc 2),none,none⟩,⟨.load1 (.reg 0),(some 4),none⟩,⟨.len .sl (.reg 1),(some 5),none⟩,⟨.mov (.cst (.int .i64 0)),(some 6),none⟩])
(.block 0
(.loop t48L0))))⟩
theorem c48 : compFunc Tryz.prog opts a48 Tryz.f48 = some t48 := by kernel_rfl
def a49 : Ann := { slots := [0,1,2,3,4,6,8,24,33,34,35,36],lb := [8],mu := [],trunc := [],draws := [] }
def t49L0 : TCode := (.seq (.region [⟨.bin .lss (.loc 10) (.loc 9),(some 11),none⟩])
(.seq (.cond (.loc 11)
.skip
(.exit 0))
(.seq (.block 1
(.seq (.region [⟨.indexAddrS 5 (.loc 8) (.loc 10),none,none⟩,⟨.loadN 5 (.reg 0),none,none⟩,⟨.allocL 6 [(.int .i64 0),(.int .i64 0),(.sl .nil []),(.bool false),(.sl .nil [])],none,none⟩,⟨.store 5 (.reg 2) (.reg 1),none,none⟩])
(.region [⟨.loadN 5 (.loc 6),none,none⟩,⟨.load1 (.loc 4),none,none⟩,⟨.mov (.loc 2),none,none⟩,⟨.call false false 49 [(.reg 0),(.reg 1),(.reg 2)],none,none⟩])))
(.region [⟨.bin .add (.loc 10) (.cst (.int .i64 1)),none,none⟩,⟨.mov (.reg 0),(some 10),none⟩]))))
def t49 : TFunc := ⟨3,12,[],
(.seq (.region [⟨.boxH 26 (.loc 0),(some 3),none⟩,⟨.boxH 56 (.loc 1),(some 4),none⟩])
(.seq (.seq (.region [⟨.fieldAddr 0 (.loc 3),none,none⟩,⟨.load1 (.reg 0),none,none⟩,⟨.bin .eql (.reg 1) (.cst (.int .i64 2)),none,none⟩,⟨.mov (.reg 2),none,none⟩,⟨.fieldAddr 0 (.loc 3),none,(some (3,false))⟩,⟨.load1 (.reg 4),none,(some (3,false))⟩,⟨.bin .eql (.reg 5) (.cst (.int .i64 4)),none,(some (3,false))⟩,⟨.pick (.reg 3) (.cst (.bool true)) (.reg 6),none,none⟩,⟨.mov (.reg 7),none,none⟩,⟨.load1 (.loc 4),none,(some (8,true))⟩,⟨.fieldAddr 1 (.loc 3),none,(some (8,true))⟩,⟨.load1 (.reg 10),none,(some (8,true))⟩,⟨.lookup (.leaf .int) (.agg [(.int .i64 0)]) false (.reg 9) (.reg 11),none,(some (8,true))⟩,⟨.field 0 1 false (.reg 12),none,(some (8,true))⟩,⟨.bin .eql (.reg 13) (.cst (.int .i64 0)),none,(some (8,true))⟩,⟨.pick (.reg 8) (.reg 14) (.cst (.bool false)),(some 7),none⟩])
(.cond (.loc 7)
(.region [⟨.mov (.loc 2),none,none⟩,⟨.fieldAddr 1 (.loc 3),none,none⟩,⟨.load1 (.reg 1),none,none⟩,⟨.build [(.int .i64 0)] [],none,none⟩,⟨.update (.leaf .int) (.reg 0) (.reg 2) (.reg 3),none,none⟩])
.skip))
(.seq (.region [⟨.mkFn 90 [] [(.loc 3),(.loc 4)],none,none⟩,⟨.mov (.reg 0),(some 5),none⟩])
(.seq (.region [⟨.mov (.loc 5),none,none⟩,⟨.callv (.reg 0) [(.cst (.int .i64 1))],none,none⟩])
(.seq (.seq (.region [⟨.fieldAddr 4 (.loc 3),none,none⟩,⟨.load1 (.reg 0),(some 8),none⟩,⟨.len .sl (.reg 1),(some 9),none⟩,⟨.mov (.cst (.int .i64 0)),(some 10),none⟩])
(.block 0
(.loop t49L0)))
(.region [⟨.mov (.loc 5),none,none⟩,⟨.callv (.reg 0) [(.cst (.int .i64 (-1)))],none,none⟩]))))))⟩
theorem c49 : compFunc Tryz.prog opts a49 Tryz.f49 = some t49 := by kernel_rfl
def a51 : Ann := { slots := [0,2,3,4,5,7,8,17,22],lb := [],mu := [],trunc := [],draws := [] }
def t51L0 : TCode := (.seq (.seq (.region [⟨.mov (.loc 6),none,none⟩,⟨.mov (.loc 3),none,none⟩,⟨.len .sl (.reg 1),none,none⟩,⟨.bin .lss (.reg 0) (.reg 2),(some 8),none⟩])
(.cond (.loc 8)
.skip
(.exit 0)))
(.seq (.block 1
(.region [⟨.mov (.loc 5),none,none⟩,⟨.mov (.loc 3),none,none⟩,⟨.mov (.loc 6),none,none⟩,⟨.indexAddrS 2 (.reg 1) (.reg 2),none,none⟩,⟨.fieldAddr 0 (.reg 3),none,none⟩,⟨.load1 (.reg 4),none,none⟩,⟨.lit false [(.int .i64 0)] 1 [(0,(.reg 5))],none,none⟩,⟨.append false 1 8 3 (.reg 0) (.reg 6),none,none⟩,⟨.mov (.reg 7),(some 5),none⟩]))
(.region [⟨.mov (.loc 6),none,none⟩,⟨.bin .add (.reg 0) (.cst (.int .i64 1)),none,none⟩,⟨.mov (.reg 1),(some 6),none⟩])))
def t51 : TFunc := ⟨1,9,[.loc 1,.loc 2],
(.seq (.region [⟨.mov (.cst (.sl .nil [])),(some 1),none⟩,⟨.mov (.cst (.int .i64 0)),(some 2),none⟩])
(.seq (.region [⟨.mov (.loc 0),none,none⟩,⟨.conv .strBytes (.reg 0),none,none⟩,⟨.call true false 91 [(.reg 1)],none,none⟩,⟨.mov (.reg 2),none,none⟩,⟨.extract 0 (.reg 3),none,none⟩,⟨.extract 1 (.reg 3),none,none⟩,⟨.extract 2 (.reg 3),none,none⟩,⟨.mov (.reg 4),(some 3),none⟩,⟨.mov (.reg 5),(some 4),none⟩,⟨.mov (.reg 6),none,none⟩])
(.seq (.seq (.region [⟨.mov (.loc 4),none,none⟩,⟨.bin .neq (.reg 0) (.cst (.int .i64 0)),(some 7),none⟩])
(.cond (.loc 7)
(.seq (.region [⟨.mov (.loc 4),none,none⟩,⟨.mov (.cst (.sl .nil [])),(some 1),none⟩,⟨.mov (.reg 0),(some 2),none⟩])
.ret)
.skip))
(.seq (.region [⟨.mov (.cst (.sl .nil [])),(some 5),none⟩])
(.seq (.seq (.region [⟨.mov (.cst (.int .i64 0)),(some 6),none⟩])
(.block 0
(.loop t51L0)))
(.seq (.region [⟨.mov (.loc 5),none,none⟩,⟨.mov (.reg 0),(some 1),none⟩,⟨.mov (.cst (.int .i64 0)),(some 2),none⟩])
.ret))))))⟩
theorem c51 : compFunc Tryz.prog opts a51 Tryz.f51 = some t51 := by kernel_rfl
def a53 : Ann := { slots := [0,2],lb := [],mu := [],trunc := [],draws := [] }
def t53 : TFunc := ⟨1,2,[.loc 1],
(.seq (.region [⟨.mov (.cst (.bool false)),(some 1),none⟩])
(.seq (.region [⟨.mov (.loc 0),none,none⟩,⟨.bin .geq (.reg 0) (.cst (.int .i64 0)),none,none⟩,⟨.mov (.reg 1),none,none⟩,⟨.mov (.loc 0),none,(some (2,true))⟩,⟨.bin .leq (.reg 3) (.cst (.int .i64 1114111)),none,(some (2,true))⟩,⟨.pick (.reg 2) (.reg 4) (.cst (.bool false)),none,none⟩,⟨.mov (.reg 5),none,none⟩,⟨.mov (.loc 0),none,(some (6,true))⟩,⟨.bin .lss (.reg 7) (.cst (.int .i64 55296)),none,(some (6,true))⟩,⟨.mov (.reg 8),none,(some (6,true))⟩,⟨.mov (.loc 0),none,(some (9,false))⟩,⟨.bin .gtr (.reg 10) (.cst (.int .i64 57343)),none,(some (9,false))⟩,⟨.pick (.reg 9) (.cst (.bool true)) (.reg 11),none,(some (6,true))⟩,⟨.pick (.reg 6) (.reg 12) (.cst (.bool false)),none,none⟩,⟨.mov (.reg 13),(some 1),none⟩])
.ret))⟩
theorem c53 : compFunc Tryz.prog opts a53 Tryz.f53 = some t53 := by kernel_rfl
def a73 : Ann := { slots := [0,2],lb := [2],mu := [],trunc := [],draws := [] }
def t73 : TFunc := ⟨1,2,[.cell 1 5 true],
(.seq (.region [⟨.allocL 1 [(.int .i64 0),(.int .i64 0),(.sl .nil []),(.bool false),(.sl .nil [])],none,none⟩])
(.seq (.region [⟨.mov (.loc 0),none,none⟩,⟨.build [(.int .i64 0),(.int .i64 0),(.sl .nil []),(.bool false),(.sl .nil [])] [(0,1,(.cst (.int .i64 8))),(4,1,(.reg 0))],none,none⟩,⟨.store 5 (.loc 1) (.reg 1),none,none⟩])
.ret))⟩
theorem c73 : compFunc Tryz.prog opts a73 Tryz.f73 = some t73 := by kernel_rfl
def a74 : Ann := { slots := [0,1,2,3,5,6,9,12,15,18,21,24,27,30,44,47,56,67,70,73],lb := [2,1],mu := [],trunc := [],draws := [(19,⟨[0,1,3,7,0,16,55,127,0,256,887,1911,2047,8191],[0,1,4,5,8,9],[(2,[5,9],[3]),(6,[9],[7]),(10,[],[11]),(12,[],[13])]⟩),(25,⟨[0,1,3,7,0,0,32,112,255,511,1023],[0,1,2,3,4,5,6,7,8],[(9,[],[10])]⟩)] }
def t74 : TFunc := ⟨1,20,[.cell 2 4 true,.loc 3],
(.seq (.region [⟨.boxL 1 (.loc 0),none,none⟩,⟨.allocL 2 [(.bool false),(.int .i64 0),(.bool false),(.str [])],none,none⟩,⟨.mov (.cst (.bool false)),(some 3),none⟩])
(.seq (.seq (.region [⟨.fieldAddr 0 (.loc 1),none,none⟩,⟨.load1 (.reg 0),(some 4),none⟩])
(.block 0
(.seq (.region [⟨.bin .eql (.loc 4) (.cst (.int .i64 1)),none,none⟩,⟨.mov (.reg 0),(some 5),none⟩])
(.cond (.loc 5)
(.seq (.region [⟨.build [(.bool false),(.int .i64 0),(.bool false),(.str [])] [(0,1,(.cst (.bool true))),(1,1,(.cst (.int .i64 0))),(2,1,(.cst (.bool false))),(3,1,(.cst (.str [99])))],none,none⟩,⟨.store 4 (.loc 2) (.reg 0),none,none⟩,⟨.mov (.cst (.bool true)),(some 3),none⟩])
.ret)
(.seq (.region [⟨.bin .eql (.loc 4) (.cst (.int .i64 2)),none,none⟩,⟨.mov (.reg 0),(some 6),none⟩])
(.cond (.loc 6)
(.seq (.region [⟨.build [(.bool false),(.int .i64 0),(.bool false),(.str [])] [(0,1,(.cst (.bool true))),(1,1,(.cst (.int .i64 0))),(2,1,(.cst (.bool false))),(3,1,(.cst (.str [118])))],none,none⟩,⟨.store 4 (.loc 2) (.reg 0),none,none⟩,⟨.mov (.cst (.bool true)),(some 3),none⟩])
.ret)
(.seq (.region [⟨.bin .eql (.loc 4) (.cst (.int .i64 3)),none,none⟩,⟨.mov (.reg 0),(some 7),none⟩])
(.cond (.loc 7)
(.seq (.region [⟨.build [(.bool false),(.int .i64 0),(.bool false),(.str [])] [(0,1,(.cst (.bool true))),(1,1,(.cst (.int .i64 0))),(2,1,(.cst (.bool false))),(3,1,(.cst (.str [103])))],none,none⟩,⟨.store 4 (.loc 2) (.reg 0),none,none⟩,⟨.mov (.cst (.bool true)),(some 3),none⟩])
.ret)
(.seq (.region [⟨.bin .eql (.loc 4) (.cst (.int .i64 4)),none,none⟩,⟨.mov (.reg 0),(some 8),none⟩])
(.cond (.loc 8)
(.seq (.region [⟨.build [(.bool false),(.int .i64 0),(.bool false),(.str [])] [(0,1,(.cst (.bool true))),(1,1,(.cst (.int .i64 1))),(2,1,(.cst (.bool false))),(3,1,(.cst (.str [115,101,116,33,32,118])))],none,none⟩,⟨.store 4 (.loc 2) (.reg 0),none,none⟩,⟨.mov (.cst (.bool true)),(some 3),none⟩])
.ret)
(.seq (.region [⟨.bin .eql (.loc 4) (.cst (.int .i64 5)),none,none⟩,⟨.mov (.reg 0),(some 9),none⟩])
(.cond (.loc 9)
(.seq (.region [⟨.build [(.bool false),(.int .i64 0),(.bool false),(.str [])] [(0,1,(.cst (.bool true))),(1,1,(.cst (.int .i64 1))),(2,1,(.cst (.bool false))),(3,1,(.cst (.str [115,101,116,33,32,103])))],none,none⟩,⟨.store 4 (.loc 2) (.reg 0),none,none⟩,⟨.mov (.cst (.bool true)),(some 3),none⟩])
.ret)
(.seq (.region [⟨.bin .eql (.loc 4) (.cst (.int .i64 6)),none,none⟩,⟨.mov (.reg 0),(some 10),none⟩])
(.cond (.loc 10)
(.seq (.region [⟨.build [(.bool false),(.int .i64 0),(.bool false),(.str [])] [(0,1,(.cst (.bool false))),(1,1,(.cst (.int .i64 3))),(2,1,(.cst (.bool false))),(3,1,(.cst (.str [105,102])))],none,none⟩,⟨.store 4 (.loc 2) (.reg 0),none,none⟩,⟨.mov (.cst (.bool true)),(some 3),none⟩])
.ret)
(.seq (.region [⟨.bin .eql (.loc 4) (.cst (.int .i64 7)),none,none⟩,⟨.mov (.reg 0),(some 11),none⟩])
(.cond (.loc 11)
(.seq (.region [⟨.build [(.bool false),(.int .i64 0),(.bool false),(.str [])] [(0,1,(.cst (.bool false))),(1,1,(.cst (.int .i64 1))),(2,1,(.cst (.bool false))),(3,1,(.cst (.str [108,97,109,98,100,97])))],none,none⟩,⟨.store 4 (.loc 2) (.reg 0),none,none⟩,⟨.mov (.cst (.bool true)),(some 3),none⟩])
.ret)
(.seq (.region [⟨.bin .eql (.loc 4) (.cst (.int .i64 8)),none,none⟩,⟨.mov (.reg 0),(some 12),none⟩])
(.cond (.loc 12)
(.seq (.region [⟨.build [(.bool false),(.int .i64 0),(.bool false),(.str [])] [(0,1,(.cst (.bool false))),(1,1,(.cst (.int .i64 1))),(2,1,(.cst (.bool true))),(3,1,(.cst (.str [99,97,108,108])))],none,none⟩,⟨.store 4 (.loc 2) (.reg 0),none,none⟩,⟨.mov (.cst (.bool true)),(some 3),none⟩])
.ret)
(.seq (.region [⟨.bin .eql (.loc 4) (.cst (.int .i64 9)),none,none⟩,⟨.mov (.reg 0),(some 13),none⟩])
(.cond (.loc 13)
(.seq (.draw [0,1,4,5,8,9] [(2,[5,9],[3]),(6,[9],[7]),(10,[],[11]),(12,[],[13])] [⟨.fieldAddr 1 (.loc 1),none,none⟩,⟨.load1 (.reg 0),none,none⟩,⟨.call true false 108 [(.reg 1)],none,none⟩,⟨.minmax true [(.cst (.int .i64 0)),(.reg 2)],none,none⟩,⟨.fieldAddr 1 (.loc 1),none,none⟩,⟨.load1 (.reg 4),none,none⟩,⟨.call true false 109 [(.reg 5)],none,none⟩,⟨.build [(.bool false),(.int .i64 0),(.bool false),(.str [])] [(0,1,(.cst (.bool true))),(1,1,(.reg 3)),(2,1,(.cst (.bool false))),(3,1,(.reg 6))],none,none⟩,⟨.fieldAddr 1 (.loc 1),none,none⟩,⟨.load1 (.reg 8),none,none⟩,⟨.call true false 108 [(.reg 9)],none,none⟩,⟨.bin .geq (.reg 10) (.cst (.int .i64 0)),none,none⟩,⟨.store 4 (.loc 2) (.reg 7),none,none⟩,⟨.mov (.reg 11),(some 3),none⟩])
.ret)
(.seq (.region [⟨.bin .eql (.loc 4) (.cst (.int .i64 10)),none,none⟩,⟨.mov (.reg 0),(some 14),none⟩])
(.cond (.loc 14)
(.seq (.region [⟨.build [(.bool false),(.int .i64 0),(.bool false),(.str [])] [(0,1,(.cst (.bool false))),(1,1,(.cst (.int .i64 1))),(2,1,(.cst (.bool true))),(3,1,(.cst (.str [98,101,103,105,110])))],none,none⟩,⟨.store 4 (.loc 2) (.reg 0),none,none⟩,⟨.mov (.cst (.bool true)),(some 3),none⟩])
.ret)
(.seq (.region [⟨.bin .eql (.loc 4) (.cst (.int .i64 11)),none,none⟩,⟨.mov (.reg 0),(some 15),none⟩])
(.cond (.loc 15)
(.seq (.seq (.region [⟨.fieldAddr 1 (.loc 1),none,none⟩,⟨.load1 (.reg 0),none,none⟩,⟨.bin .lss (.reg 1) (.cst (.int .i64 0)),none,none⟩,⟨.mov (.reg 2),none,none⟩,⟨.fieldAddr 1 (.loc 1),none,(some (3,false))⟩,⟨.load1 (.reg 4),none,(some (3,false))⟩,⟨.bin .gtr (.reg 5) (.cst (.int .i64 2)),none,(some (3,false))⟩,⟨.pick (.reg 3) (.cst (.bool true)) (.reg 6),(some 16),none⟩])
(.cond (.loc 16)
(.seq (.region [⟨.build [(.bool false),(.int .i64 0),(.bool false),(.str [])] [],none,none⟩,⟨.store 4 (.loc 2) (.reg 0),none,none⟩,⟨.mov (.cst (.bool false)),(some 3),none⟩])
.ret)
.skip))
(.seq (.draw [0,1,2,3,4,5,6,7,8] [(9,[],[10])] [⟨.fieldAddr 1 (.loc 1),none,none⟩,⟨.load1 (.reg 0),none,none⟩,⟨.bin .add (.reg 1) (.cst (.int .i64 1)),none,none⟩,⟨.minmax false [(.reg 2),(.cst (.int .i64 2))],none,none⟩,⟨.build [(.str []),(.str []),(.str [])] [(0,1,(.cst (.str [99,97,108,108,47,99,99]))),(1,1,(.cst (.str [97,112,112,108,121]))),(2,1,(.cst (.str [99,97,108,108,45,119,105,116,104,45,118,97,108,117,101,115])))],none,none⟩,⟨.fieldAddr 1 (.loc 1),none,none⟩,⟨.load1 (.reg 5),none,none⟩,⟨.indexA 3 1 false (.reg 4) (.reg 6),none,none⟩,⟨.build [(.bool false),(.int .i64 0),(.bool false),(.str [])] [(0,1,(.cst (.bool true))),(1,1,(.reg 3)),(2,1,(.cst (.bool false))),(3,1,(.reg 7))],none,none⟩,⟨.store 4 (.loc 2) (.reg 8),none,none⟩,⟨.mov (.cst (.bool true)),(some 3),none⟩])
.ret))
(.seq (.region [⟨.bin .eql (.loc 4) (.cst (.int .i64 12)),none,none⟩,⟨.mov (.reg 0),(some 17),none⟩])
(.cond (.loc 17)
(.seq (.region [⟨.build [(.bool false),(.int .i64 0),(.bool false),(.str [])] [(0,1,(.cst (.bool false))),(1,1,(.cst (.int .i64 1))),(2,1,(.cst (.bool false))),(3,1,(.cst (.str [98,111,120])))],none,none⟩,⟨.store 4 (.loc 2) (.reg 0),none,none⟩,⟨.mov (.cst (.bool true)),(some 3),none⟩])
.ret)
(.seq (.region [⟨.bin .eql (.loc 4) (.cst (.int .i64 13)),none,none⟩,⟨.mov (.reg 0),(some 18),none⟩])
(.cond (.loc 18)
(.seq (.region [⟨.build [(.bool false),(.int .i64 0),(.bool false),(.str [])] [(0,1,(.cst (.bool false))),(1,1,(.cst (.int .i64 1))),(2,1,(.cst (.bool false))),(3,1,(.cst (.str [117,110,98,111,120])))],none,none⟩,⟨.store 4 (.loc 2) (.reg 0),none,none⟩,⟨.mov (.cst (.bool true)),(some 3),none⟩])
.ret)
(.seq (.region [⟨.bin .eql (.loc 4) (.cst (.int .i64 14)),none,none⟩,⟨.mov (.reg 0),(some 19),none⟩])
(.cond (.loc 19)
(.seq (.region [⟨.build [(.bool false),(.int .i64 0),(.bool false),(.str [])] [(0,1,(.cst (.bool false))),(1,1,(.cst (.int .i64 2))),(2,1,(.cst (.bool false))),(3,1,(.cst (.str [115,101,116,45,98,111,120,33])))],none,none⟩,⟨.store 4 (.loc 2) (.reg 0),none,none⟩,⟨.mov (.cst (.bool true)),(some 3),none⟩])
.ret)
.skip))))))))))))))))))))))))))))))
(.seq (.region [⟨.build [(.bool false),(.int .i64 0),(.bool false),(.str [])] [],none,none⟩,⟨.store 4 (.loc 2) (.reg 0),none,none⟩,⟨.mov (.cst (.bool false)),(some 3),none⟩])
.ret)))⟩
theorem c74 : compFunc Tryz.prog opts a74 Tryz.f74 = some t74 := by kernel_rfl
def a75 : Ann := { slots := [0,2],lb := [],mu := [],trunc := [],draws := [] }
def t75 : TFunc := ⟨1,2,[.loc 1],
(.seq (.region [⟨.mov (.cst (.str [])),(some 1),none⟩])
(.seq (.region [⟨.mov (.loc 0),none,none⟩,⟨.call true false 110 [(.reg 0)],none,none⟩,⟨.mov (.reg 1),(some 1),none⟩])
.ret))⟩
theorem c75 : compFunc Tryz.prog opts a75 Tryz.f75 = some t75 := by kernel_rfl
def a76 : Ann := { slots := [0,1,2,3,5,6,8,9,10,11,22,32],lb := [1],mu := [(5,4)],trunc := [],draws := [(11,⟨[0,0,2,7,0,0,32,112,240,496,1023,2047],[0,1,2,3,4,5,6,7,8,9],[(10,[],[11])]⟩)] }
def t76L0 : TCode := (.seq (.region [⟨.bin .lss (.loc 8) (.loc 7),(some 9),none⟩])
(.seq (.cond (.loc 9)
.skip
(.exit 0))
(.seq (.block 1
(.seq (.region [⟨.indexAddrS 1 (.loc 6) (.loc 8),none,none⟩,⟨.load1 (.reg 0),none,none⟩,⟨.mov (.reg 1),(some 4),none⟩])
(.region [⟨.mov (.loc 3),none,none⟩,⟨.mov (.loc 4),none,none⟩,⟨.call true false 111 [(.reg 1)],none,none⟩,⟨.lit false [(.str [])] 1 [(0,(.reg 2))],none,none⟩,⟨.append true 1 16 9 (.reg 0) (.reg 3),none,none⟩,⟨.mov (.reg 4),(some 3),none⟩])))
(.region [⟨.bin .add (.loc 8) (.cst (.int .i64 1)),none,none⟩,⟨.mov (.reg 0),(some 8),none⟩]))))
def t76 : TFunc := ⟨1,12,[.loc 2],
(.seq (.region [⟨.boxL 1 (.loc 0),none,none⟩,⟨.mov (.cst (.str [])),(some 2),none⟩])
(.seq (.region [⟨.mov (.cst (.sl .nil [])),(some 3),none⟩])
(.seq (.seq (.region [⟨.fieldAddr 2 (.loc 1),none,none⟩,⟨.load1 (.reg 0),(some 6),none⟩,⟨.len .sl (.reg 1),(some 7),none⟩,⟨.mov (.cst (.int .i64 0)),(some 8),none⟩])
(.block 0
(.loop t76L0)))
(.seq (.seq (.region [⟨.mov (.loc 3),none,none⟩,⟨.len .sl (.reg 0),none,none⟩,⟨.mov (.reg 1),(some 5),none⟩])
(.block 2
(.seq (.region [⟨.fieldAddr 3 (.loc 1),none,none⟩,⟨.load1 (.reg 0),none,none⟩,⟨.mov (.reg 1),none,none⟩,⟨.mov (.loc 5),none,(some (2,true))⟩,⟨.bin .eql (.reg 3) (.cst (.int .i64 1)),none,(some (2,true))⟩,⟨.pick (.reg 2) (.reg 4) (.cst (.bool false)),none,none⟩,⟨.mov (.reg 5),(some 10),none⟩])
(.cond (.loc 10)
(.seq (.region [⟨.mov (.loc 3),none,none⟩,⟨.indexAddrS 1 (.reg 0) (.cst (.int .i64 0)),none,none⟩,⟨.load1 (.reg 1),none,none⟩,⟨.mov (.reg 2),(some 2),none⟩])
.ret)
(.seq (.region [⟨.fieldAddr 3 (.loc 1),none,none⟩,⟨.load1 (.reg 0),none,none⟩,⟨.mov (.reg 1),(some 11),none⟩])
(.cond (.loc 11)
(.draw [0,1,2,3,4,5,6,7,8,9] [(10,[],[11])] [⟨.mov (.loc 3),none,none⟩,⟨.mov (.loc 5),none,none⟩,⟨.bin .sub (.reg 1) (.cst (.int .i64 1)),none,none⟩,⟨.slice (.sl 1) (.reg 0) none (some (.reg 2)) none,none,none⟩,⟨.mov (.loc 3),none,none⟩,⟨.mov (.loc 5),none,none⟩,⟨.bin .sub (.reg 5) (.cst (.int .i64 1)),none,none⟩,⟨.indexAddrS 1 (.reg 4) (.reg 6),none,none⟩,⟨.load1 (.reg 7),none,none⟩,⟨.lit false [(.str [])] 2 [(0,(.cst (.str [46]))),(1,(.reg 8))],none,none⟩,⟨.append false 1 16 9 (.reg 3) (.reg 9),none,none⟩,⟨.mov (.reg 10),(some 3),none⟩])
.skip))))))
(.seq (.region [⟨.mov (.loc 3),none,none⟩,⟨.call true false 77 [(.reg 0),(.cst (.str [32]))],none,none⟩,⟨.bin .add (.cst (.str [40])) (.reg 1),none,none⟩,⟨.bin .add (.reg 2) (.cst (.str [41])),none,none⟩,⟨.mov (.reg 3),(some 2),none⟩])
.ret)))))⟩
theorem c76 : compFunc Tryz.prog opts a76 Tryz.f76 = some t76 := by kernel_rfl
def a77 : Ann := { slots := [0,1,4,5,7,8,10,12,13,15,22,29,39,40,41,42,49,63,64,65,66],lb := [],mu := [],trunc := [],draws := [] }
def t77L0 : TCode := (.seq (.region [⟨.bin .lss (.loc 19) (.loc 18),(some 20),none⟩])
(.seq (.cond (.loc 20)
.skip
(.exit 3))
(.seq (.block 4
(.seq (.region [⟨.indexAddrS 1 (.loc 17) (.loc 19),none,none⟩,⟨.load1 (.reg 0),none,none⟩,⟨.mov (.reg 1),(some 6),none⟩])
(.seq (.region [⟨.mov (.loc 1),none,none⟩,⟨.call false false 78 [(.loc 5),(.reg 0)],none,none⟩])
(.region [⟨.mov (.loc 6),none,none⟩,⟨.call false false 78 [(.loc 5),(.reg 0)],none,none⟩]))))
(.region [⟨.bin .add (.loc 19) (.cst (.int .i64 1)),none,none⟩,⟨.mov (.reg 0),(some 19),none⟩]))))
def t77L1 : TCode := (.seq (.region [⟨.bin .lss (.loc 14) (.loc 13),(some 15),none⟩])
(.seq (.cond (.loc 15)
.skip
(.exit 1))
(.seq (.block 2
(.seq (.region [⟨.indexAddrS 1 (.loc 12) (.loc 14),none,none⟩,⟨.load1 (.reg 0),none,none⟩,⟨.mov (.reg 1),(some 4),none⟩])
(.seq (.seq (.region [⟨.mov (.loc 4),none,none⟩,⟨.len .str (.reg 0),none,none⟩,⟨.mov (.loc 3),none,none⟩,⟨.bin .sub (.cst (.int .i64 9223372036854775807)) (.reg 2),none,none⟩,⟨.bin .gtr (.reg 1) (.reg 3),(some 16),none⟩])
(.cond (.loc 16)
(.region [⟨.bad,none,none⟩,⟨.bad,none,none⟩])
.skip))
(.region [⟨.mov (.loc 3),none,none⟩,⟨.mov (.loc 4),none,none⟩,⟨.len .str (.reg 1),none,none⟩,⟨.bin .add (.reg 0) (.reg 2),none,none⟩,⟨.mov (.reg 3),(some 3),none⟩]))))
(.region [⟨.bin .add (.loc 14) (.cst (.int .i64 1)),none,none⟩,⟨.mov (.reg 0),(some 14),none⟩]))))
def t77 : TFunc := ⟨2,21,[.loc 2],
(.seq (.region [⟨.mov (.cst (.str [])),(some 2),none⟩])
(.seq (.seq (.region [⟨.mov (.loc 0),none,none⟩,⟨.len .sl (.reg 0),(some 7),none⟩])
(.block 0
(.seq (.region [⟨.bin .eql (.loc 7) (.cst (.int .i64 0)),none,none⟩,⟨.mov (.reg 0),(some 8),none⟩])
(.cond (.loc 8)
(.seq (.region [⟨.mov (.cst (.str [])),(some 2),none⟩])
.ret)
(.seq (.region [⟨.bin .eql (.loc 7) (.cst (.int .i64 1)),none,none⟩,⟨.mov (.reg 0),(some 9),none⟩])
(.cond (.loc 9)
(.seq (.region [⟨.mov (.loc 0),none,none⟩,⟨.indexAddrS 1 (.reg 0) (.cst (.int .i64 0)),none,none⟩,⟨.load1 (.reg 1),none,none⟩,⟨.mov (.reg 2),(some 2),none⟩])
.ret)
.skip))))))
(.seq (.region [⟨.mov (.cst (.int .i64 0)),(some 3),none⟩])
(.seq (.seq (.region [⟨.mov (.loc 1),none,none⟩,⟨.len .str (.reg 0),none,none⟩,⟨.bin .gtr (.reg 1) (.cst (.int .i64 0)),(some 10),none⟩])
(.cond (.loc 10)
(.seq (.seq (.region [⟨.mov (.loc 1),none,none⟩,⟨.len .str (.reg 0),none,none⟩,⟨.mov (.loc 0),none,none⟩,⟨.len .sl (.reg 2),none,none⟩,⟨.bin .sub (.reg 3) (.cst (.int .i64 1)),none,none⟩,⟨.bin .quo (.cst (.int .i64 9223372036854775807)) (.reg 4),none,none⟩,⟨.bin .geq (.reg 1) (.reg 5),(some 11),none⟩])
(.cond (.loc 11)
(.region [⟨.bad,none,none⟩,⟨.bad,none,none⟩])
.skip))
(.region [⟨.mov (.loc 3),none,none⟩,⟨.mov (.loc 1),none,none⟩,⟨.len .str (.reg 1),none,none⟩,⟨.mov (.loc 0),none,none⟩,⟨.len .sl (.reg 3),none,none⟩,⟨.bin .sub (.reg 4) (.cst (.int .i64 1)),none,none⟩,⟨.bin .mul (.reg 2) (.reg 5),none,none⟩,⟨.bin .add (.reg 0) (.reg 6),none,none⟩,⟨.mov (.reg 7),(some 3),none⟩]))
.skip))
(.seq (.seq (.region [⟨.mov (.loc 0),(some 12),none⟩,⟨.len .sl (.reg 0),(some 13),none⟩,⟨.mov (.cst (.int .i64 0)),(some 14),none⟩])
(.block 1
(.loop t77L1)))
(.seq (.region [⟨.allocH 98 [.nilp,(.sl .nil [])],(some 5),none⟩])
(.seq (.region [⟨.mov (.loc 3),none,none⟩,⟨.call false false 112 [(.loc 5),(.reg 0)],none,none⟩])
(.seq (.region [⟨.mov (.loc 0),none,none⟩,⟨.indexAddrS 1 (.reg 0) (.cst (.int .i64 0)),none,none⟩,⟨.load1 (.reg 1),none,none⟩,⟨.call false false 78 [(.loc 5),(.reg 2)],none,none⟩])
(.seq (.seq (.region [⟨.mov (.loc 0),none,none⟩,⟨.slice (.sl 1) (.reg 0) (some (.cst (.int .i64 1))) none none,(some 17),none⟩,⟨.len .sl (.reg 1),(some 18),none⟩,⟨.mov (.cst (.int .i64 0)),(some 19),none⟩])
(.block 3
(.loop t77L0)))
(.seq (.region [⟨.prim 80 [(.loc 5)],none,none⟩,⟨.mov (.reg 0),(some 2),none⟩])
.ret))))))))))⟩
theorem c77 : compFunc Tryz.prog opts a77 Tryz.f77 = some t77 := by kernel_rfl
def a78 : Ann := { slots := [0,1,4,5],lb := [],mu := [],trunc := [],draws := [] }
def t78 : TFunc := ⟨2,4,[.loc 2,.loc 3],
(.seq (.region [⟨.mov (.cst (.int .i64 0)),(some 2),none⟩,⟨.mov (.cst .nili),(some 3),none⟩])
(.seq (.region [⟨.mov (.loc 0),none,none⟩,⟨.prim 113 [(.reg 0)],none,none⟩])
(.seq (.region [⟨.mov (.loc 0),none,none⟩,⟨.mov (.loc 0),none,none⟩,⟨.nilCheck (.reg 1),none,none⟩,⟨.fieldAddr 1 (.reg 2),none,none⟩,⟨.load1 (.reg 3),none,none⟩,⟨.mov (.loc 1),none,none⟩,⟨.append false 1 1 5 (.reg 4) (.reg 5),none,none⟩,⟨.nilCheck (.reg 0),none,none⟩,⟨.fieldAddr 1 (.reg 7),none,none⟩,⟨.store 1 (.reg 8) (.reg 6),none,none⟩])
(.seq (.region [⟨.mov (.loc 1),none,none⟩,⟨.len .str (.reg 0),none,none⟩,⟨.mov (.reg 1),(some 2),none⟩,⟨.mov (.cst .nili),(some 3),none⟩])
.ret))))⟩
theorem c78 : compFunc Tryz.prog opts a78 Tryz.f78 = some t78 := by kernel_rfl
def a81 : Ann := { slots := [0,1,2],lb := [2],mu := [],trunc := [],draws := [] }
def t81 : TFunc := ⟨2,3,[],
(.seq (.region [⟨.boxL 2 (.loc 0),none,none⟩])
(.region [⟨.load1 (.loc 1),none,none⟩,⟨.bin .add (.reg 0) (.cst (.int .i64 1)),none,none⟩,⟨.store 1 (.loc 1) (.reg 1),none,none⟩]))⟩
theorem c81 : compFunc Tryz.prog opts a81 Tryz.f81 = some t81 := by kernel_rfl
def a82 : Ann := { slots := [0,1,2],lb := [1],mu := [],trunc := [],draws := [] }
def t82 : TFunc := ⟨1,3,[.loc 2],
(.seq (.region [⟨.boxL 1 (.loc 0),none,none⟩,⟨.mov (.cst (.bool false)),(some 2),none⟩])
(.seq (.region [⟨.fieldAddr 0 (.loc 1),none,none⟩,⟨.load1 (.reg 0),none,none⟩,⟨.bin .eql (.reg 1) (.cst (.int .i64 6)),none,none⟩,⟨.mov (.reg 2),none,none⟩,⟨.fieldAddr 3 (.loc 1),none,(some (3,true))⟩,⟨.load1 (.reg 4),none,(some (3,true))⟩,⟨.len .sl (.reg 5),none,(some (3,true))⟩,⟨.bin .eql (.reg 6) (.cst (.int .i64 2)),none,(some (3,true))⟩,⟨.pick (.reg 3) (.reg 7) (.cst (.bool false)),none,none⟩,⟨.mov (.reg 8),(some 2),none⟩])
.ret))⟩
theorem c82 : compFunc Tryz.prog opts a82 Tryz.f82 = some t82 := by kernel_rfl
def a83 : Ann := { slots := [0,1,4],lb := [],mu := [],trunc := [],draws := [] }
def t83 : TFunc := ⟨2,3,[.loc 2],
(.seq (.region [⟨.mov (.cst (.bool false)),(some 2),none⟩])
(.seq (.region [⟨.mov (.loc 0),none,none⟩,⟨.mov (.loc 1),none,none⟩,⟨.call false false 115 [(.reg 0),(.reg 1)],none,none⟩,⟨.bin .geq (.reg 2) (.cst (.int .i64 0)),none,none⟩,⟨.mov (.reg 3),(some 2),none⟩])
.ret))⟩
theorem c83 : compFunc Tryz.prog opts a83 Tryz.f83 = some t83 := by kernel_rfl
def a84 : Ann := { slots := [0,1,2],lb := [1],mu := [],trunc := [],draws := [] }
def t84 : TFunc := ⟨1,3,[.loc 2],
(.seq (.region [⟨.boxL 1 (.loc 0),none,none⟩,⟨.mov (.cst (.bool false)),(some 2),none⟩])
(.seq (.region [⟨.loadN 5 (.loc 1),none,none⟩,⟨.call true false 42 [(.reg 0)],none,none⟩,⟨.un .not (.reg 1),none,none⟩,⟨.mov (.reg 2),(some 2),none⟩])
.ret))⟩
theorem c84 : compFunc Tryz.prog opts a84 Tryz.f84 = some t84 := by kernel_rfl
def a85 : Ann := { slots := [0,1,2,4,6,7,12,22,27,32],lb := [1],mu := [],trunc := [],draws := [] }
def t85 : TFunc := ⟨1,10,[.loc 2],
(.seq (.region [⟨.boxL 1 (.loc 0),none,none⟩,⟨.mov (.cst (.bool false)),(some 2),none⟩])
(.seq (.seq (.region [⟨.fieldAddr 0 (.loc 1),none,none⟩,⟨.load1 (.reg 0),(some 4),none⟩])
(.block 0
(.seq (.seq (.region [⟨.bin .eql (.loc 4) (.cst (.int .i64 0)),none,none⟩,⟨.mov (.reg 0),(some 5),none⟩])
(.cond (.loc 5)
.skip
(.seq (.region [⟨.bin .eql (.loc 4) (.cst (.int .i64 8)),none,none⟩,⟨.mov (.reg 0),(some 5),none⟩])
(.cond (.loc 5)
.skip
(.seq (.region [⟨.bin .eql (.loc 4) (.cst (.int .i64 9)),none,none⟩,⟨.mov (.reg 0),(some 5),none⟩])
(.cond (.loc 5)
.skip
(.region [⟨.bin .eql (.loc 4) (.cst (.int .i64 10)),none,none⟩,⟨.mov (.reg 0),(some 5),none⟩])))))))
(.cond (.loc 5)
(.seq (.region [⟨.mov (.cst (.bool true)),(some 2),none⟩])
.ret)
(.seq (.region [⟨.bin .eql (.loc 4) (.cst (.int .i64 1)),none,none⟩,⟨.mov (.reg 0),(some 6),none⟩])
(.cond (.loc 6)
(.seq (.region [⟨.fieldAddr 1 (.loc 1),none,none⟩,⟨.load1 (.reg 0),none,none⟩,⟨.bin .eql (.reg 1) (.cst (.int .i64 0)),none,none⟩,⟨.mov (.reg 2),none,none⟩,⟨.fieldAddr 1 (.loc 1),none,(some (3,false))⟩,⟨.load1 (.reg 4),none,(some (3,false))⟩,⟨.bin .eql (.reg 5) (.cst (.int .i64 1)),none,(some (3,false))⟩,⟨.pick (.reg 3) (.cst (.bool true)) (.reg 6),none,none⟩,⟨.mov (.reg 7),(some 2),none⟩])
.ret)
(.seq (.region [⟨.bin .eql (.loc 4) (.cst (.int .i64 2)),none,none⟩,⟨.mov (.reg 0),(some 7),none⟩])
(.cond (.loc 7)
(.seq (.region [⟨.fieldAddr 2 (.loc 1),none,none⟩,⟨.load1 (.reg 0),none,none⟩,⟨.call true false 116 [(.reg 1)],none,none⟩,⟨.mov (.reg 2),(some 2),none⟩])
.ret)
(.seq (.region [⟨.bin .eql (.loc 4) (.cst (.int .i64 3)),none,none⟩,⟨.mov (.reg 0),(some 8),none⟩])
(.cond (.loc 8)
(.seq (.region [⟨.fieldAddr 1 (.loc 1),none,none⟩,⟨.load1 (.reg 0),none,none⟩,⟨.call true false 117 [(.reg 1)],none,none⟩,⟨.mov (.reg 2),(some 2),none⟩])
.ret)
(.seq (.seq (.region [⟨.bin .eql (.loc 4) (.cst (.int .i64 4)),none,none⟩,⟨.mov (.reg 0),(some 9),none⟩])
(.cond (.loc 9)
.skip
(.region [⟨.bin .eql (.loc 4) (.cst (.int .i64 5)),none,none⟩,⟨.mov (.reg 0),(some 9),none⟩])))
(.cond (.loc 9)
(.seq (.region [⟨.fieldAddr 2 (.loc 1),none,none⟩,⟨.load1 (.reg 0),none,none⟩,⟨.call true false 118 [(.reg 1)],none,none⟩,⟨.mov (.reg 2),none,none⟩,⟨.extract 0 (.reg 3),none,none⟩,⟨.extract 1 (.reg 3),none,none⟩,⟨.mov (.reg 4),none,none⟩,⟨.mov (.reg 5),(some 3),none⟩])
(.seq (.region [⟨.mov (.loc 3),none,none⟩,⟨.bin .eql (.reg 0) (.cst (.int .i64 0)),none,none⟩,⟨.mov (.reg 1),none,none⟩,⟨.fieldAddr 0 (.loc 1),none,(some (2,true))⟩,⟨.load1 (.reg 3),none,(some (2,true))⟩,⟨.bin .eql (.reg 4) (.cst (.int .i64 4)),none,(some (2,true))⟩,⟨.mov (.reg 5),none,(some (2,true))⟩,⟨.fieldAddr 2 (.loc 1),none,(some (6,false))⟩,⟨.load1 (.reg 7),none,(some (6,false))⟩,⟨.bin .neq (.reg 8) (.cst (.str [])),none,(some (6,false))⟩,⟨.pick (.reg 6) (.cst (.bool true)) (.reg 9),none,(some (2,true))⟩,⟨.pick (.reg 2) (.reg 10) (.cst (.bool false)),none,none⟩,⟨.mov (.reg 11),(some 2),none⟩])
.ret))
.skip))))))))))))
(.seq (.region [⟨.mov (.cst (.bool false)),(some 2),none⟩])
.ret)))⟩
theorem c85 : compFunc Tryz.prog opts a85 Tryz.f85 = some t85 := by kernel_rfl
def a86 : Ann := { slots := [0,1,2],lb := [1],mu := [],trunc := [],draws := [] }
def t86 : TFunc := ⟨1,3,[.loc 2],
(.seq (.region [⟨.boxL 1 (.loc 0),none,none⟩,⟨.mov (.cst (.bool false)),(some 2),none⟩])
(.seq (.region [⟨.loadN 5 (.loc 1),none,none⟩,⟨.call true false 43 [(.reg 0)],none,none⟩,⟨.un .not (.reg 1),none,none⟩,⟨.mov (.reg 2),(some 2),none⟩])
.ret))⟩
theorem c86 : compFunc Tryz.prog opts a86 Tryz.f86 = some t86 := by kernel_rfl
def a87 : Ann := { slots := [0,1,2,3,4,5,6,7,8,73,75,76,88,100],lb := [5,3],mu := [],trunc := [],draws := [(8,⟨[0,0,2,0,8,24,56,120,248,511,1023],[0,1,2,3,4,5,6,7,8],[(9,[],[10])]⟩),(11,⟨[0,0,2,0,8,24,56,120,255,511],[0,1,2,3,4,5,6,7],[(8,[],[9])]⟩),(14,⟨[0,0,2,0,8,24,56,120,255,511],[0,1,2,3,4,5,6,7],[(8,[],[9])]⟩)] }
def t87 : TFunc := ⟨2,14,[.loc 4],
(.seq (.region [⟨.boxH 55 (.loc 0),(some 2),none⟩,⟨.boxL 3 (.loc 1),none,none⟩,⟨.mov (.cst (.bool false)),(some 4),none⟩])
(.seq (.region [⟨.loadN 5 (.loc 3),none,none⟩,⟨.call true false 74 [(.reg 0)],none,none⟩,⟨.mov (.reg 1),none,none⟩,⟨.extract 0 (.reg 2),none,none⟩,⟨.extract 1 (.reg 2),none,none⟩,⟨.allocL 5 [(.bool false),(.int .i64 0),(.bool false),(.str [])],none,none⟩,⟨.store 4 (.reg 5) (.reg 3),none,none⟩,⟨.mov (.reg 4),(some 6),none⟩])
(.seq (.region [⟨.fieldAddr 0 (.loc 3),none,none⟩,⟨.load1 (.reg 0),none,none⟩,⟨.bin .eql (.reg 1) (.cst (.int .i64 7)),none,none⟩,⟨.mov (.reg 2),(some 7),none⟩])
(.seq (.seq (.region [⟨.mov (.loc 6),none,none⟩,⟨.un .not (.reg 0),none,none⟩,⟨.mov (.reg 1),none,none⟩,⟨.fieldAddr 4 (.loc 3),none,(some (2,false))⟩,⟨.load1 (.reg 3),none,(some (2,false))⟩,⟨.len .sl (.reg 4),none,(some (2,false))⟩,⟨.fieldAddr 1 (.loc 5),none,(some (2,false))⟩,⟨.load1 (.reg 6),none,(some (2,false))⟩,⟨.bin .lss (.reg 5) (.reg 7),none,(some (2,false))⟩,⟨.pick (.reg 2) (.cst (.bool true)) (.reg 8),none,none⟩,⟨.mov (.reg 9),none,none⟩,⟨.fieldAddr 4 (.loc 3),none,(some (10,false))⟩,⟨.load1 (.reg 11),none,(some (10,false))⟩,⟨.len .sl (.reg 12),none,(some (10,false))⟩,⟨.fieldAddr 1 (.loc 5),none,(some (10,false))⟩,⟨.load1 (.reg 14),none,(some (10,false))⟩,⟨.bin .gtr (.reg 13) (.reg 15),none,(some (10,false))⟩,⟨.mov (.reg 16),none,(some (10,false))⟩,⟨.fieldAddr 2 (.loc 5),none,(some (17,true))⟩,⟨.load1 (.reg 18),none,(some (17,true))⟩,⟨.un .not (.reg 19),none,(some (17,true))⟩,⟨.pick (.reg 17) (.reg 20) (.cst (.bool false)),none,(some (10,false))⟩,⟨.pick (.reg 10) (.cst (.bool true)) (.reg 21),none,none⟩,⟨.mov (.reg 22),none,none⟩,⟨.fieldAddr 0 (.loc 5),none,(some (23,false))⟩,⟨.load1 (.reg 24),none,(some (23,false))⟩,⟨.un .not (.reg 25),none,(some (23,false))⟩,⟨.mov (.reg 26),none,(some (23,false))⟩,⟨.fieldAddr 1 (.loc 3),none,(some (27,true))⟩,⟨.load1 (.reg 28),none,(some (27,true))⟩,⟨.bin .neq (.reg 29) (.cst (.int .i64 0)),none,(some (27,true))⟩,⟨.pick (.reg 27) (.reg 30) (.cst (.bool false)),none,(some (23,false))⟩,⟨.pick (.reg 23) (.cst (.bool true)) (.reg 31),none,none⟩,⟨.mov (.reg 32),none,none⟩,⟨.mov (.loc 7),none,(some (33,false))⟩,⟨.un .not (.reg 34),none,(some (33,false))⟩,⟨.mov (.reg 35),none,(some (33,false))⟩,⟨.fieldAddr 2 (.loc 3),none,(some (36,true))⟩,⟨.load1 (.reg 37),none,(some (36,true))⟩,⟨.len .sl (.reg 38),none,(some (36,true))⟩,⟨.bin .gtr (.reg 39) (.cst (.int .i64 0)),none,(some (36,true))⟩,⟨.mov (.reg 40),none,(some (36,true))⟩,⟨.fieldAddr 3 (.loc 3),none,(some (41,false))⟩,⟨.load1 (.reg 42),none,(some (41,false))⟩,⟨.pick (.reg 41) (.cst (.bool true)) (.reg 43),none,(some (36,true))⟩,⟨.pick (.reg 36) (.reg 44) (.cst (.bool false)),none,(some (33,false))⟩,⟨.pick (.reg 33) (.cst (.bool true)) (.reg 45),none,none⟩,⟨.mov (.reg 46),none,none⟩,⟨.fieldAddr 3 (.loc 3),none,(some (47,false))⟩,⟨.load1 (.reg 48),none,(some (47,false))⟩,⟨.mov (.reg 49),none,(some (47,false))⟩,⟨.fieldAddr 2 (.loc 3),none,(some (50,true))⟩,⟨.load1 (.reg 51),none,(some (50,true))⟩,⟨.len .sl (.reg 52),none,(some (50,true))⟩,⟨.bin .eql (.reg 53) (.cst (.int .i64 0)),none,(some (50,true))⟩,⟨.pick (.reg 50) (.reg 54) (.cst (.bool false)),none,(some (47,false))⟩,⟨.pick (.reg 47) (.cst (.bool true)) (.reg 55),(some 9),none⟩])
(.cond (.loc 9)
(.seq (.region [⟨.mov (.cst (.bool false)),(some 4),none⟩])
.ret)
.skip))
(.seq (.region [⟨.allocH 135 [.nilf],(some 8),none⟩,⟨.store 1 (.reg 0) (.fn 119),none,none⟩])
(.seq (.seq (.region [⟨.fieldAddr 0 (.loc 3),none,none⟩,⟨.load1 (.reg 0),(some 10),none⟩])
(.block 0
(.seq (.region [⟨.bin .eql (.loc 10) (.cst (.int .i64 1)),none,none⟩,⟨.mov (.reg 0),(some 11),none⟩])
(.cond (.loc 11)
(.seq (.draw [0,1,2,3,4,5,6,7,8] [(9,[],[10])] [⟨.load1 (.loc 8),none,none⟩,⟨.fieldAddr 1 (.loc 3),none,none⟩,⟨.load1 (.reg 1),none,none⟩,⟨.load1 (.loc 2),none,none⟩,⟨.nilCheck (.reg 3),none,none⟩,⟨.fieldAddr 0 (.reg 4),none,none⟩,⟨.fieldAddr 7 (.reg 5),none,none⟩,⟨.load1 (.reg 6),none,none⟩,⟨.len .sl (.reg 7),none,none⟩,⟨.callv (.reg 0) [(.reg 2),(.reg 8)],none,none⟩,⟨.mov (.reg 9),(some 4),none⟩])
.ret)
(.seq (.seq (.region [⟨.bin .eql (.loc 10) (.cst (.int .i64 2)),none,none⟩,⟨.mov (.reg 0),(some 12),none⟩])
(.cond (.loc 12)
.skip
(.region [⟨.bin .eql (.loc 10) (.cst (.int .i64 4)),none,none⟩,⟨.mov (.reg 0),(some 12),none⟩])))
(.cond (.loc 12)
(.seq (.draw [0,1,2,3,4,5,6,7] [(8,[],[9])] [⟨.load1 (.loc 8),none,none⟩,⟨.fieldAddr 1 (.loc 3),none,none⟩,⟨.load1 (.reg 1),none,none⟩,⟨.load1 (.loc 2),none,none⟩,⟨.nilCheck (.reg 3),none,none⟩,⟨.fieldAddr 0 (.reg 4),none,none⟩,⟨.fieldAddr 6 (.reg 5),none,none⟩,⟨.load1 (.reg 6),none,none⟩,⟨.callv (.reg 0) [(.reg 2),(.reg 7)],none,none⟩,⟨.mov (.reg 8),(some 4),none⟩])
.ret)
(.seq (.seq (.region [⟨.bin .eql (.loc 10) (.cst (.int .i64 3)),none,none⟩,⟨.mov (.reg 0),(some 13),none⟩])
(.cond (.loc 13)
.skip
(.region [⟨.bin .eql (.loc 10) (.cst (.int .i64 5)),none,none⟩,⟨.mov (.reg 0),(some 13),none⟩])))
(.cond (.loc 13)
(.seq (.draw [0,1,2,3,4,5,6,7] [(8,[],[9])] [⟨.load1 (.loc 8),none,none⟩,⟨.fieldAddr 1 (.loc 3),none,none⟩,⟨.load1 (.reg 1),none,none⟩,⟨.load1 (.loc 2),none,none⟩,⟨.nilCheck (.reg 3),none,none⟩,⟨.fieldAddr 0 (.reg 4),none,none⟩,⟨.fieldAddr 5 (.reg 5),none,none⟩,⟨.load1 (.reg 6),none,none⟩,⟨.callv (.reg 0) [(.reg 2),(.reg 7)],none,none⟩,⟨.mov (.reg 8),(some 4),none⟩])
.ret)
.skip))))))))
(.seq (.region [⟨.fieldAddr 2 (.loc 3),none,none⟩,⟨.load1 (.reg 0),none,none⟩,⟨.mkFn 121 [] [(.loc 8),(.loc 2)],none,none⟩,⟨.call false false 120 [(.reg 1),(.reg 2)],none,none⟩,⟨.un .not (.reg 3),none,none⟩,⟨.mov (.reg 4),(some 4),none⟩])
.ret)))))))⟩
theorem c87 : compFunc Tryz.prog opts a87 Tryz.f87 = some t87 := by kernel_rfl
def a90 : Ann := { slots := [0,1,2,5,7,8,9,10,15],lb := [],mu := [],trunc := [],draws := [] }
def t90L0 : TCode := (.seq (.region [⟨.bin .lss (.loc 6) (.loc 5),(some 7),none⟩])
(.seq (.cond (.loc 7)
.skip
(.exit 0))
(.seq (.block 1
(.seq (.region [⟨.indexAddrS 1 (.loc 4) (.loc 6),none,none⟩,⟨.load1 (.reg 0),none,none⟩,⟨.mov (.reg 1),(some 3),none⟩])
(.seq (.region [⟨.fieldAddr 0 (.loc 1),none,none⟩,⟨.load1 (.reg 0),none,none⟩,⟨.bin .eql (.reg 1) (.cst (.int .i64 7)),(some 8),none⟩])
(.cond (.loc 8)
(.region [⟨.load1 (.loc 2),none,none⟩,⟨.mov (.loc 3),none,none⟩,⟨.load1 (.loc 2),none,none⟩,⟨.mov (.loc 3),none,none⟩,⟨.lookup (.leaf .int) (.agg [(.int .i64 0)]) false (.reg 2) (.reg 3),none,none⟩,⟨.field 0 1 false (.reg 4),none,none⟩,⟨.mov (.loc 0),none,none⟩,⟨.bin .add (.reg 5) (.reg 6),none,none⟩,⟨.build [(.int .i64 0)] [(0,1,(.reg 7))],none,none⟩,⟨.update (.leaf .int) (.reg 0) (.reg 1) (.reg 8),none,none⟩])
.skip))))
(.region [⟨.bin .add (.loc 6) (.cst (.int .i64 1)),none,none⟩,⟨.mov (.reg 0),(some 6),none⟩]))))
def t90 : TFunc := ⟨3,9,[],
(.seq (.region [⟨.fieldAddr 2 (.loc 1),none,none⟩,⟨.load1 (.reg 0),(some 4),none⟩,⟨.len .sl (.reg 1),(some 5),none⟩,⟨.mov (.cst (.int .i64 0)),(some 6),none⟩])
(.block 0
(.loop t90L0)))⟩
theorem c90 : compFunc Tryz.prog opts a90 Tryz.f90 = some t90 := by kernel_rfl
def a91 : Ann := { slots := [0,2,3,4,5,6,7,8,9,13,22],lb := [],mu := [],trunc := [],draws := [] }
def t91L0 : TCode := (.seq (.seq (.region [⟨.mov (.loc 5),none,none⟩,⟨.mov (.loc 0),none,none⟩,⟨.len .sl (.reg 1),none,none⟩,⟨.bin .lss (.reg 0) (.reg 2),(some 9),none⟩])
(.cond (.loc 9)
.skip
(.exit 0)))
(.block 1
(.seq (.region [⟨.mov (.loc 0),none,none⟩,⟨.mov (.loc 5),none,none⟩,⟨.call true false 125 [(.reg 0),(.reg 1)],none,none⟩,⟨.mov (.reg 2),none,none⟩,⟨.extract 0 (.reg 3),none,none⟩,⟨.extract 1 (.reg 3),none,none⟩,⟨.extract 2 (.reg 3),none,none⟩,⟨.mov (.reg 4),(some 6),none⟩,⟨.mov (.reg 5),(some 7),none⟩,⟨.mov (.reg 6),(some 8),none⟩])
(.seq (.seq (.region [⟨.mov (.loc 8),none,none⟩,⟨.bin .neq (.reg 0) (.cst (.int .i64 0)),(some 10),none⟩])
(.cond (.loc 10)
(.seq (.region [⟨.mov (.loc 5),none,none⟩,⟨.mov (.cst (.sl .nil [])),(some 1),none⟩,⟨.mov (.cst (.int .i64 4)),(some 2),none⟩,⟨.mov (.reg 0),(some 3),none⟩])
.ret)
.skip))
(.seq (.region [⟨.mov (.loc 4),none,none⟩,⟨.mov (.loc 6),none,none⟩,⟨.mov (.loc 5),none,none⟩,⟨.build [(.int .i64 0),(.int .i64 0)] [(0,1,(.reg 1)),(1,1,(.reg 2))],none,none⟩,⟨.lit false [(.int .i64 0),(.int .i64 0)] 1 [(0,(.reg 3))],none,none⟩,⟨.append false 2 16 113 (.reg 0) (.reg 4),none,none⟩,⟨.mov (.reg 5),(some 4),none⟩])
(.region [⟨.mov (.loc 5),none,none⟩,⟨.mov (.loc 7),none,none⟩,⟨.bin .add (.reg 0) (.reg 1),none,none⟩,⟨.mov (.reg 2),(some 5),none⟩]))))))
def t91 : TFunc := ⟨1,11,[.loc 1,.loc 2,.loc 3],
(.seq (.region [⟨.mov (.cst (.sl .nil [])),(some 1),none⟩,⟨.mov (.cst (.int .i64 0)),(some 2),none⟩,⟨.mov (.cst (.int .i64 0)),(some 3),none⟩])
(.seq (.region [⟨.mov (.cst (.sl .nil [])),(some 4),none⟩])
(.seq (.region [⟨.mov (.cst (.int .i64 0)),(some 5),none⟩])
(.seq (.block 0
(.loop t91L0))
(.seq (.region [⟨.mov (.loc 4),none,none⟩,⟨.mov (.reg 0),(some 1),none⟩,⟨.mov (.cst (.int .i64 0)),(some 2),none⟩,⟨.mov (.cst (.int .i64 0)),(some 3),none⟩])
.ret)))))⟩
theorem c91 : compFunc Tryz.prog opts a91 Tryz.f91 = some t91 := by kernel_rfl
end Go.Proofs.YtookmpaholmmfaaGreatDoor
