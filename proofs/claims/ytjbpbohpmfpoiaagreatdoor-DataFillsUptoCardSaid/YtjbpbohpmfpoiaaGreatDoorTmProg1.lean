/- The functions of this seat, compiled for the evaluator TM; each held against the translation by the kernel. By program. Condition: none. -/
import Derived.Test.YtjbpbohpmfpoiaaGreatDoorPrim
set_option maxRecDepth 100000
set_option linter.unusedVariables false
namespace Go.Proofs.YtjbpbohpmfpoiaaGreatDoor
open Go Go.TM
abbrev r_0:aC:=.reg 0
abbrev r_1:aC:=.reg 1
abbrev r_2:aC:=.reg 2
abbrev r_3:aC:=.reg 3
abbrev r_4:aC:=.reg 4
abbrev r_5:aC:=.reg 5
abbrev r_6:aC:=.reg 6
abbrev r_7:aC:=.reg 7
abbrev r_8:aC:=.reg 8
abbrev r_9:aC:=.reg 9
abbrev gR:aC:=.reg 10
abbrev jE:aC:=.reg 11
abbrev nP:aC:=.reg 12
abbrev mM:aC:=.reg 13
abbrev wH:aC:=.reg 14
abbrev aA0:aC:=.reg 15
abbrev aEm:aC:=.reg 16
abbrev aEn:aC:=.reg 17
abbrev aQi:aC:=.reg 18
abbrev aWy:aC:=.reg 19
abbrev bBp:aC:=.reg 20
abbrev bGk:aC:=.reg 21
abbrev bGl:aC:=.reg 22
abbrev bGm:aC:=.reg 23
abbrev bGn:aC:=.reg 24
abbrev bGo:aC:=.reg 25
abbrev bHn:aC:=.reg 26
abbrev bHo:aC:=.reg 27
abbrev bHp:aC:=.reg 28
abbrev bHq:aC:=.reg 29
abbrev bHr:aC:=.reg 30
abbrev bHs:aC:=.reg 31
abbrev bHt:aC:=.reg 32
abbrev bHu:aC:=.reg 33
abbrev bHv:aC:=.reg 34
abbrev bHw:aC:=.reg 35
abbrev bHx:aC:=.reg 36
abbrev bHy:aC:=.reg 37
abbrev bHz:aC:=.reg 38
abbrev l_0:aC:=.loc 0
abbrev l_1:aC:=.loc 1
abbrev l_2:aC:=.loc 2
abbrev l_3:aC:=.loc 3
abbrev l_4:aC:=.loc 4
abbrev l_5:aC:=.loc 5
abbrev l_6:aC:=.loc 6
abbrev l_7:aC:=.loc 7
abbrev l_8:aC:=.loc 8
abbrev l_9:aC:=.loc 9
abbrev eX:aC:=.loc 10
abbrev gJ:aC:=.loc 11
abbrev mN:aC:=.loc 12
abbrev jV:aC:=.loc 13
abbrev uJ:aC:=.loc 14
abbrev tF:aC:=.loc 15
abbrev pQ:aC:=.loc 16
abbrev aH1:aC:=.loc 17
abbrev wI:aC:=.loc 18
abbrev tG:aC:=.loc 19
abbrev aQj:aC:=.loc 20
abbrev bBq:aC:=.loc 21
abbrev aQk:aC:=.loc 22
abbrev bBr:aC:=.loc 23
abbrev bBs:aC:=.loc 24
abbrev bE3:aC:=.loc 25
abbrev bE4:aC:=.loc 26
abbrev bGp:aC:=.loc 27
abbrev bE5:aC:=.loc 28
abbrev bBt:aC:=.loc 29
abbrev bGq:aC:=.loc 30
abbrev bH0:aC:=.loc 31
abbrev bH1:aC:=.loc 32
abbrev T_:aC:=.cst (.bool true)
abbrev F_:aC:=.cst (.bool false)
abbrev N_:aC:=.cst (.sl .nil [])
abbrev y_ (n:Nat) (x:TOp):aG:=⟨x, none, some (n, true)⟩
abbrev x_ (n:Nat) (x:TOp):aG:=⟨x, none, some (n, false)⟩
abbrev c_ (n:Nat) (l:List aC):aG:=⟨.call true false n l, none, none⟩
abbrev g_ (l:List aG):aL:=.region l
abbrev h_ (l:List aG) (b:aL):aL:=.seq (.region l) b
abbrev v_ (x:aC):aG:=⟨.mov x, none, none⟩
abbrev w_ (n:Nat) (x:aC):aG:=⟨.mov x, some n, none⟩
abbrev d_ (x:aC):aG:=⟨.load1 x, none, none⟩
abbrev f_ (n:Nat) (x:aC):aG:=⟨.fieldAddr n x, none, none⟩
abbrev D_:List UInt8:=[48,48,48,49,48,50,48,51,48,52,48,53,48,54,48,55,48,56,48,57,49,48,49,49,49,50,49,51,49,52,49,53,49,54,49,55,49,56,49,57,50,48,50,49,50,50,50,51,50,52,50,53,50,54,50,55,50,56,50,57,51,48,51,49,51,50,51,51,51,52,51,53,51,54,51,55,51,56,51,57,52,48,52,49,52,50,52,51,52,52,52,53,52,54,52,55,52,56,52,57,53,48,53,49,53,50,53,51,53,52,53,53,53,54,53,55,53,56,53,57,54,48,54,49,54,50,54,51,54,52,54,53,54,54,54,55,54,56,54,57,55,48,55,49,55,50,55,51,55,52,55,53,55,54,55,55,55,56,55,57,56,48,56,49,56,50,56,51,56,52,56,53,56,54,56,55,56,56,56,57,57,48,57,49,57,50,57,51,57,52,57,53,57,54,57,55,57,56,57,57]
abbrev o_ (x:TOp):aG:=⟨x,none,none⟩
abbrev s_ (n:Nat) (x:TOp):aG:=⟨x,some n,none⟩
abbrev i_ (n:Int):aC:=.cst (.int .i64 n)
def opts:cW:=⟨fun f=>([16,20,21,24,25,26,30,31,32,33,34,36,37,40,42,43,44,45,46,47,48,49,55,57,58,60,65,70,71,72,76,84,87,88,90,91,95,97,98,99,102,107,113,119,120,121,122,124,125,127,129,138,139,145,168,169,170,171,172,173,174,175,176]:List Nat).contains f,fun f=>([72,98,147,159]:List Nat).contains f⟩
def a4:Ann:=⟨[0,1,4,5,6,7,8,9,10,11,12,13,14,15,16,17,18,19,20,21,23,34,43,72,82,94,149,165,170,183],[19,16],[],[],[(22,⟨[0,1,3,7,7,31,63,127,255,7,7,1543,3591,8191,16383,32767,65535,65535,262143,524287,1048575,2097151,4194303,8388607,16777215,33554431,67108863,67108863,201326591,536870911,1073741823,2147483647,4294967295,4294967295,17179869183,34359738367,68719476735,137438953471,274877906943,549755813887],[0,1,2,3,4,5,6,7,8,9,10,11,12,13,14,15,16,17,18,19,20,21,22,23,24,25,26,27,28,29,30,31,32,33,34,35,36,37,38,39],[]⟩),(32,⟨[0,0,3,7,15,0,0,96,224,480,1023],[0,1,2,3,4,5,6,7,8,9,10],[]⟩)]⟩
def t4L0:aL:=(.seq (.seq (g_ [v_ tG, v_ wI, s_ 28 (.bin .lss r_0 r_1)])
(.cond bE5
.skip
(.exit 6)))
(.seq (.block 7
(.seq (.draw [0,1,2,3,4,5,6,7,8,9,10] [] [v_ pQ,v_ wI,o_ (.indexAddrS 5 r_0 r_1),f_ 2 r_2,d_ r_3,v_ pQ,v_ tG,o_ (.indexAddrS 5 r_5 r_6),f_ 2 r_7,d_ r_8,s_ 29 (.bin .eql r_4 r_9)])
(.cond bBt
(h_ [w_ 2 F_]
.ret)
.skip)))
(g_ [v_ tG,o_ (.bin .add r_0 (i_ 1)),w_ 19 r_1])))
def t4L1:aL:=(.seq (.seq (g_ [v_ wI,v_ pQ,o_ (.len .sl r_1),s_ 27 (.bin .lss r_0 r_2)])
(.cond bGp
.skip
(.exit 4)))
(.seq (.block 5
(h_ [w_ 19 (i_ 0)]
(.block 6
(.loop t4L0))))
(g_ [v_ wI,o_ (.bin .add r_0 (i_ 1)),w_ 18 r_1])))
def t4L2:aL:=(.seq (.seq (g_ [v_ gJ,v_ eX,o_ (.len .sl r_1),s_ 25 (.bin .lss r_0 r_2)])
(.cond bE3
.skip
(.exit 2)))
(.seq (.block 3
(h_ [v_ gJ,o_ (.bin .sub r_0 (i_ 1)),v_ l_4,o_ (.len .sl r_2),o_ (.bin .sub r_1 r_3),w_ 12 r_4]
(h_ [v_ eX,v_ gJ,o_ (.indexAddrS 1 r_0 r_1),d_ r_2,o_ (.bin .shr r_3 (.cst (.int .u64 2))),o_ (.conv (.toInt .i64) r_4),v_ l_1,o_ (.bin .sub r_5 r_6),w_ 13 r_7]
(.seq (.draw [0,1,2,3,4,5,6,7,8,9,10,11,12,13,14,15,16,17,18,19,20,21,22,23,24,25,26,27,28,29,30,31,32,33,34,35,36,37,38,39] [] [v_ mN,o_ (.bin .geq r_0 (i_ 0)),v_ r_1,y_ 2 (.mov eX),y_ 2 (.mov gJ),y_ 2 (.indexAddrS 1 r_3 r_4),y_ 2 (.load1 r_5),y_ 2 (.bin .and r_6 (.cst (.int .u32 3))),y_ 2 (.bin .eql r_7 (.cst (.int .u32 3))),y_ 2 (.mov l_7),y_ 2 (.mov mN),y_ 2 (.indexAddrS 1 r_9 gR),y_ 2 (.load1 jE),y_ 2 (.eqB true .bool r_8 nP),o_ (.pick r_2 mM F_),v_ wH,x_ 15 (.mov eX),x_ 15 (.mov gJ),x_ 15 (.indexAddrS 1 aEm aEn),x_ 15 (.load1 aQi),x_ 15 (.bin .and aWy (.cst (.int .u32 3))),x_ 15 (.bin .eql bBp (.cst (.int .u32 1))),x_ 15 (.mov bGk),y_ 22 (.mov jV),y_ 22 (.bin .lss bGm (i_ 0)),y_ 22 (.mov bGn),x_ 25 (.mov jV),x_ 25 (.mov l_3),x_ 25 (.len .sl bHo),x_ 25 (.bin .geq bHn bHp),y_ 22 (.pick bGo T_ bHq),y_ 22 (.mov bHr),x_ 31 (.mov l_7),x_ 31 (.mov jV),x_ 31 (.indexAddrS 1 bHt bHu),x_ 31 (.load1 bHv),x_ 31 (.un .not bHw),y_ 22 (.pick bHs T_ bHx),x_ 15 (.pick bGl bHy F_),s_ 26 (.pick aA0 T_ bHz)])
(.cond bE4
(h_ [w_ 2 F_]
.ret)
.skip)))))
(g_ [v_ gJ,o_ (.bin .add r_0 (i_ 1)),w_ 11 r_1])))
def t4L3:aL:=(.seq (.seq (g_ [v_ l_9,v_ l_3,o_ (.len .sl r_1),s_ 22 (.bin .lss r_0 r_2)])
(.cond aQk
.skip
(.exit 0)))
(.seq (.block 1
(.seq (.seq (g_ [v_ l_3,v_ l_9,o_ (.indexAddrS 1 r_0 r_1),d_ r_2,o_ (.bin .and r_3 (.cst (.int .u32 3))),o_ (.bin .neq r_4 (.cst (.int .u32 3))),v_ r_5,x_ 6 (.mov l_3),x_ 6 (.mov l_9),x_ 6 (.indexAddrS 1 r_7 r_8),x_ 6 (.load1 r_9),x_ 6 (.bin .shr gR (.cst (.int .u64 5))),x_ 6 (.conv (.toInt .i64) jE),x_ 6 (.mov l_3),x_ 6 (.len .sl mM),x_ 6 (.mov l_9),x_ 6 (.bin .sub wH aA0),x_ 6 (.bin .sub aEm (i_ 1)),x_ 6 (.bin .gtr nP aEn),s_ 23 (.pick r_6 T_ aQi)])
(.cond bBr
(h_ [w_ 2 F_]
.ret)
.skip))
(h_ [v_ l_7,v_ l_9,o_ (.indexAddrS 1 r_0 r_1),o_ (.store 1 r_2 T_)]
(h_ [v_ l_3,v_ l_9,o_ (.indexAddrS 1 r_0 r_1),d_ r_2,o_ (.bin .shr r_3 (.cst (.int .u64 2))),o_ (.bin .and r_4 (.cst (.int .u32 7))),s_ 24 (.bin .eql r_5 (.cst (.int .u32 5)))]
(.cond bBs
(g_ [v_ l_8,o_ (.bin .add r_0 (i_ 1)),w_ 8 r_1])
.skip)))))
(g_ [v_ l_9,o_ (.bin .add r_0 (i_ 1)),v_ l_3,v_ l_9,o_ (.indexAddrS 1 r_2 r_3),d_ r_4,o_ (.bin .shr r_5 (.cst (.int .u64 5))),o_ (.conv (.toInt .i64) r_6),o_ (.bin .add r_1 r_7),w_ 9 r_8])))
def t4:aN:=⟨2,30,[.loc 2],
(h_ [w_ 2 F_]
(.seq (.seq (g_ [v_ l_0,s_ 20 (.call true false 6 [r_0])])
(.cond aQj
(h_ [c_ 7 [],w_ 2 r_0]
.ret)
.skip))
(h_ [v_ l_0,v_ l_1,c_ 8 [r_0,r_1],v_ r_2,o_ (.extract 0 r_3),o_ (.extract 1 r_3),o_ (.extract 2 r_3),o_ (.extract 3 r_3),w_ 3 r_4,w_ 4 r_5,w_ 5 r_6,w_ 6 r_7]
(.seq (.seq (g_ [v_ l_6,s_ 21 (.bin .neq r_0 (i_ 0))])
(.cond bBq
(h_ [c_ 7 [],w_ 2 r_0]
.ret)
.skip))
(h_ [v_ l_3,o_ (.len .sl r_0),o_ (.bin .add r_1 (i_ 1)),o_ (.mkSlice [(.bool false)] 1 r_2 r_2),w_ 7 r_3]
(h_ [w_ 8 (i_ 0)]
(.seq (.seq (g_ [w_ 9 (i_ 0)])
(.block 0
(.loop t4L3)))
(h_ [v_ l_5,o_ (.lit false [(.int .u32 0)] 1 [(0,r_0)]),v_ l_4,o_ (.append false 1 4 26 r_1 r_2),v_ l_3,o_ (.append false 1 4 26 r_3 r_4),w_ 10 r_5]
(.seq (.seq (g_ [w_ 11 (i_ 0)])
(.block 2
(.loop t4L2)))
(h_ [v_ l_3,v_ l_1,v_ l_5,c_ 11 [r_0,r_1,r_2],v_ r_3,o_ (.extract 0 r_4),o_ (.extract 1 r_4),o_ (.allocL 14 [(.int .i64 0),(.int .i64 0),(.str []),(.sl .nil []),(.int .i64 0)]),o_ (.store 5 r_7 r_5),w_ 15 r_6]
(h_ [o_ (.loadN 5 uJ),c_ 12 [r_0],v_ r_1,o_ (.extract 0 r_2),o_ (.extract 1 r_2),o_ (.allocL 17 [(.int .i64 0),(.int .i64 0),(.str []),(.sl .nil []),(.int .i64 0)]),w_ 16 r_3,o_ (.store 5 r_5 r_4)]
(.seq (.seq (g_ [w_ 18 (i_ 0)])
(.block 4
(.loop t4L1)))
(h_ [v_ tF,o_ (.bin .eql r_0 (i_ 0)),v_ r_1,y_ 2 (.mov pQ),y_ 2 (.len .sl r_3),y_ 2 (.mov l_8),y_ 2 (.bin .eql r_4 r_5),o_ (.pick r_2 r_6 F_),v_ r_7,y_ 8 (.call true false 7 []),o_ (.pick r_8 r_9 F_),w_ 2 gR]
.ret)))))))))))))⟩
def a6:Ann:=⟨[0,2,3,11,19],[],[],[],[]⟩
def t6L0:aL:=(.seq (.seq (g_ [v_ l_2,v_ l_0,o_ (.len .sl r_1),o_ (.bin .lss r_0 r_2),v_ r_3,y_ 4 (.mov l_2),y_ 4 (.bin .lss r_5 (i_ 30)),s_ 3 (.pick r_4 r_6 F_)])
(.cond l_3
.skip
(.exit 0)))
(.seq (.block 1
(h_ [v_ l_0,v_ l_2,o_ (.indexAddrS 5 r_0 r_1),o_ (.loadN 5 r_2),c_ 18 [r_3,(i_ 60)],s_ 4 (.bin .gtr r_4 (i_ 300))]
(.cond l_4
(h_ [w_ 1 T_]
.ret)
.skip)))
(g_ [v_ l_2,o_ (.bin .add r_0 (i_ 1)),w_ 2 r_1])))
def t6:aN:=⟨1,5,[.loc 1],
(h_ [w_ 1 F_]
(.seq (.seq (g_ [w_ 2 (i_ 0)])
(.block 0
(.loop t6L0)))
(h_ [v_ l_0,o_ (.len .sl r_0),o_ (.bin .gtr r_1 (i_ 20)),w_ 1 r_2]
.ret)))⟩
def a7:Ann:=⟨[0],[],[],[],[]⟩
def t7:aN:=⟨0,1,[.loc 0],
(h_ [w_ 0 F_]
(h_ [o_ (.lit false [(.int .u32 0)] 2 [(0,(.cst (.int .u32 51))),(1,(.cst (.int .u32 1554)))]),o_ (.lit false [(.int .u32 0)] 1 [(0,(.cst (.int .u32 401)))]),o_ (.call true false 14 [(.cst (.str [97]))]),o_ (.lit false [(.int .i64 0),(.int .i64 0),(.str []),(.sl .nil []),(.int .i64 0)] 1 [(0,r_2)]),c_ 15 [r_0,r_1,(.cst (.int .u32 38)),r_3],v_ r_4,y_ 5 (.lit false [(.int .u32 0)] 7 [(0,(.cst (.int .u32 51))),(1,(.cst (.int .u32 1842))),(2,(.cst (.int .u32 55))),(3,(.cst (.int .u32 401))),(4,(.cst (.int .u32 67))),(5,(.cst (.int .u32 409))),(6,(.cst (.int .u32 38)))]),y_ 5 (.lit false [(.int .u32 0)] 2 [(0,(.cst (.int .u32 409))),(1,(.cst (.int .u32 409)))]),y_ 5 (.call true false 19 [(.cst (.str [115]))]),y_ 5 (.call true false 19 [(.cst (.str [115]))]),y_ 5 (.lit false [(.int .i64 0),(.int .i64 0),(.str []),(.sl .nil []),(.int .i64 0)] 2 [(0,r_8),(1,r_9)]),y_ 5 (.call true false 15 [r_6,r_7,(.cst (.int .u32 417)),gR]),o_ (.pick r_5 jE F_),w_ 0 nP]
.ret))⟩
def a8:Ann:=⟨[0,1,4,5,6,7,8,10,20,31,32,33,34,50],[],[],[],[]⟩
def t8L0:aL:=(.seq (g_ [s_ 12 (.bin .lss gJ eX)])
(.seq (.cond mN
.skip
(.exit 0))
(.seq (.block 1
(h_ [o_ (.indexAddrS 1 l_9 gJ),d_ r_0,w_ 7 r_1]
(g_ [v_ l_6,v_ l_7,v_ l_4,o_ (.lit false [(.int .u32 0)] 2 [(0,r_1),(1,r_2)]),o_ (.call false false 25 [r_0,(i_ 0),r_3]),w_ 4 r_4])))
(g_ [o_ (.bin .add gJ (i_ 1)),w_ 11 r_0]))))
def t8:aN:=⟨2,14,[.loc 2,.loc 3,.loc 4,.loc 5],
(h_ [w_ 2 N_,w_ 3 N_,s_ 4 (.mov (.cst (.int .u32 0))),w_ 5 (i_ 0)]
(.seq (.seq (g_ [v_ l_1,o_ (.bin .lss r_0 (i_ 0)),v_ r_1,x_ 2 (.mov l_1),x_ 2 (.bin .gtr r_3 (i_ 67108864)),o_ (.pick r_2 T_ r_4),v_ r_5,x_ 6 (.mov l_0),x_ 6 (.call false false 20 [r_7,(.fn 21)]),s_ 8 (.pick r_6 T_ r_8)])
(.cond l_8
(h_ [w_ 2 N_,w_ 3 N_,s_ 4 (.mov (.cst (.int .u32 0))),w_ 5 (i_ 2)]
.ret)
.skip))
(h_ [v_ l_1,o_ (.mkMap),o_ (.build [(.int .i64 0),(.sl .nil []),.nilm,(.sl .nil [])] [(0,1,r_0),(2,1,r_1)]),o_ (.boxH 53 r_2),w_ 6 r_3]
(h_ [v_ l_6,v_ l_0,o_ (.call false false 24 [r_0,r_1]),w_ 3 r_2]
(h_ [s_ 4 (.mov (.cst (.int .u32 38)))]
(.seq (.seq (g_ [v_ l_6,o_ (.nilCheck r_0),f_ 3 r_1,s_ 9 (.load1 r_2),s_ 10 (.len .sl r_3),w_ 11 (i_ 0)])
(.block 0
(.loop t8L0)))
(.seq (.seq (g_ [v_ l_1,v_ l_6,o_ (.nilCheck r_1),f_ 1 r_2,d_ r_3,o_ (.len .sl r_4),o_ (.bin .add r_0 r_5),s_ 13 (.bin .gtr r_6 (i_ 67108864))])
(.cond jV
(h_ [w_ 2 N_,w_ 3 N_,s_ 4 (.mov (.cst (.int .u32 0))),w_ 5 (i_ 3)]
.ret)
.skip))
(h_ [v_ l_6,o_ (.nilCheck r_0),f_ 1 r_1,d_ r_2,v_ l_3,v_ l_4,w_ 2 r_3,w_ 3 r_4,w_ 4 r_5,w_ 5 (i_ 0)]
.ret))))))))⟩
def a11:Ann:=⟨[0,1,2,6,7,8,9,21],[9,6],[],[],[(4,⟨[0,0,2,6,14,1,63],[0,1,2,3,4],[(5,[4],[6])]⟩)]⟩
def t11:aN:=⟨3,8,[.cell 3 5 true,.loc 4],
(h_ [o_ (.allocL 3 [(.int .i64 0),(.int .i64 0),(.str []),(.sl .nil []),(.int .i64 0)]),w_ 4 (i_ 0)]
(h_ [v_ l_1,v_ l_0,o_ (.build [(.int .i64 0),(.sl .nil []),(.int .i64 0),(.int .i64 0)] [(0,1,r_0),(1,1,r_1)]),o_ (.boxH 77 r_2),w_ 5 r_3]
(h_ [v_ l_5,v_ l_2,o_ (.call false false 30 [r_0,r_1,(i_ 0)]),o_ (.allocL 6 [(.int .i64 0),(.int .i64 0),(.str []),(.sl .nil []),(.int .i64 0)]),o_ (.store 5 r_3 r_2)]
(.seq (.seq (g_ [v_ l_5,o_ (.nilCheck r_0),f_ 3 r_1,d_ r_2,s_ 7 (.bin .neq r_3 (i_ 0))])
(.cond l_7
(.seq (.draw [0,1,2,3,4] [(5,[4],[6])] [o_ (.build [(.int .i64 0),(.int .i64 0),(.str []),(.sl .nil []),(.int .i64 0)] []),v_ l_5,o_ (.nilCheck r_1),f_ 3 r_2,d_ r_3,o_ (.store 5 l_3 r_0),w_ 4 r_4])
.ret)
.skip))
(h_ [o_ (.loadN 5 l_6),o_ (.store 5 l_3 r_0),w_ 4 (i_ 0)]
.ret)))))⟩
def a12:Ann:=⟨[0,1,2,3,5],[3,1],[],[],[(4,⟨[0,0,1,7],[0,1,2],[(3,[],[])]⟩)]⟩
def t12L0:aL:=(.seq (.seq (g_ [o_ (.loadN 5 l_1),s_ 4 (.call false false 31 [r_0])])
(.cond l_4
.skip
(.exit 0)))
(.block 1
(h_ [v_ l_2,f_ 3 l_1,d_ r_1,o_ (.indexAddrS 5 r_2 (i_ 0)),o_ (.loadN 5 r_3),o_ (.lit false [(.int .i64 0),(.int .i64 0),(.str []),(.sl .nil []),(.int .i64 0)] 1 [(0,r_4)]),o_ (.append false 5 64 37 r_0 r_5),w_ 2 r_6]
(g_ [f_ 3 l_1,d_ r_0,o_ (.indexAddrS 5 r_1 (i_ 1)),o_ (.loadN 5 r_2),o_ (.store 5 l_1 r_3)]))))
def t12:aN:=⟨1,5,[.loc 2,.cell 3 5 true],
(h_ [o_ (.boxL 1 l_0),w_ 2 N_,o_ (.allocL 3 [(.int .i64 0),(.int .i64 0),(.str []),(.sl .nil []),(.int .i64 0)])]
(.seq (.block 0
(.loop t12L0))
(.seq (.draw [0,1,2] [(3,[],[])] [v_ l_2,o_ (.loadN 5 l_1),w_ 2 r_0,o_ (.store 5 l_3 r_1)])
.ret)))⟩
def a14:Ann:=⟨[0,2],[2],[],[],[]⟩
def t14:aN:=⟨1,2,[.cell 1 5 true],
(h_ [o_ (.allocL 1 [(.int .i64 0),(.int .i64 0),(.str []),(.sl .nil []),(.int .i64 0)])]
(h_ [v_ l_0,o_ (.build [(.int .i64 0),(.int .i64 0),(.str []),(.sl .nil []),(.int .i64 0)] [(0,1,(i_ 4)),(2,1,r_0)]),o_ (.store 5 l_1 r_1)]
.ret))⟩
def a15:Ann:=⟨[0,1,2,3,8,9,10,11,12,13,14,42,46,57,61,72],[],[],[],[(7,⟨[0,0,3,7,0,0,48,112,255],[0,1,2,3,4,5,6,7,8],[]⟩),(12,⟨[0,0,3,7,0,0,48,112,255],[0,1,2,3,4,5,6,7,8],[]⟩)]⟩
def t15L0:aL:=(.seq (.seq (g_ [v_ eX,v_ l_6,o_ (.len .sl r_1),s_ 14 (.bin .lss r_0 r_2)])
(.cond uJ
.skip
(.exit 2)))
(.seq (.block 3
(.seq (.draw [0,1,2,3,4,5,6,7,8] [] [v_ l_6,v_ eX,o_ (.indexAddrS 1 r_0 r_1),d_ r_2,v_ l_1,v_ eX,o_ (.indexAddrS 1 r_4 r_5),d_ r_6,s_ 15 (.bin .neq r_3 r_7)])
(.cond tF
(h_ [w_ 4 F_]
.ret)
.skip)))
(g_ [v_ eX,o_ (.bin .add r_0 (i_ 1)),w_ 10 r_1])))
def t15L1:aL:=(.seq (.seq (g_ [v_ l_9,v_ l_5,o_ (.len .sl r_1),s_ 12 (.bin .lss r_0 r_2)])
(.cond mN
.skip
(.exit 0)))
(.seq (.block 1
(.seq (.draw [0,1,2,3,4,5,6,7,8] [] [v_ l_5,v_ l_9,o_ (.indexAddrS 1 r_0 r_1),d_ r_2,v_ l_0,v_ l_9,o_ (.indexAddrS 1 r_4 r_5),d_ r_6,s_ 13 (.bin .neq r_3 r_7)])
(.cond jV
(h_ [w_ 4 F_]
.ret)
.skip)))
(g_ [v_ l_9,o_ (.bin .add r_0 (i_ 1)),w_ 9 r_1])))
def t15:aN:=⟨4,16,[.loc 4],
(h_ [w_ 4 F_]
(h_ [v_ l_3,c_ 8 [r_0,(i_ 100)],v_ r_1,o_ (.extract 0 r_2),o_ (.extract 1 r_2),o_ (.extract 2 r_2),o_ (.extract 3 r_2),w_ 5 r_3,w_ 6 r_4,w_ 7 r_5,w_ 8 r_6]
(.seq (.seq (g_ [v_ l_8,o_ (.bin .neq r_0 (i_ 0)),v_ r_1,x_ 2 (.mov l_7),x_ 2 (.mov l_2),x_ 2 (.bin .neq r_3 r_4),o_ (.pick r_2 T_ r_5),v_ r_6,x_ 7 (.mov l_5),x_ 7 (.len .sl r_8),x_ 7 (.mov l_0),x_ 7 (.len .sl gR),x_ 7 (.bin .neq r_9 jE),o_ (.pick r_7 T_ nP),v_ mM,x_ 14 (.mov l_6),x_ 14 (.len .sl aA0),x_ 14 (.mov l_1),x_ 14 (.len .sl aEn),x_ 14 (.bin .neq aEm aQi),s_ 11 (.pick wH T_ aWy)])
(.cond gJ
(h_ [w_ 4 F_]
.ret)
.skip))
(.seq (.seq (g_ [w_ 9 (i_ 0)])
(.block 0
(.loop t15L1)))
(.seq (.seq (g_ [w_ 10 (i_ 0)])
(.block 2
(.loop t15L0)))
(h_ [w_ 4 T_]
.ret))))))⟩
def a18:Ann:=⟨[0,1,2,4,5,6,8,21],[2],[],[],[]⟩
def t18L0:aL:=(.seq (.seq (g_ [v_ l_5,f_ 3 l_2,d_ r_1,o_ (.len .sl r_2),o_ (.bin .lss r_0 r_3),v_ r_4,y_ 5 (.mov l_4),y_ 5 (.bin .lss r_6 (i_ 9000)),s_ 7 (.pick r_5 r_7 F_)])
(.cond l_7
.skip
(.exit 0)))
(.seq (.block 1
(g_ [v_ l_4,f_ 3 l_2,d_ r_1,v_ l_5,o_ (.indexAddrS 5 r_2 r_3),o_ (.loadN 5 r_4),v_ l_1,o_ (.bin .sub r_6 (i_ 1)),c_ 18 [r_5,r_7],o_ (.bin .add r_0 r_8),w_ 4 r_9]))
(g_ [v_ l_5,o_ (.bin .add r_0 (i_ 1)),w_ 5 r_1])))
def t18:aN:=⟨2,8,[.loc 3],
(h_ [o_ (.boxL 2 l_0),w_ 3 (i_ 0)]
(.seq (.seq (g_ [v_ l_1,s_ 6 (.bin .eql r_0 (i_ 0))])
(.cond l_6
(h_ [w_ 3 (i_ 9000)]
.ret)
.skip))
(h_ [f_ 2 l_2,d_ r_0,o_ (.len .str r_1),o_ (.bin .add (i_ 1) r_2),w_ 4 r_3]
(.seq (.seq (g_ [w_ 5 (i_ 0)])
(.block 0
(.loop t18L0)))
(h_ [v_ l_4,w_ 3 r_0]
.ret)))))⟩
def a19:Ann:=⟨[0,2],[2],[],[],[]⟩
def t19:aN:=⟨1,2,[.cell 1 5 true],
(h_ [o_ (.allocL 1 [(.int .i64 0),(.int .i64 0),(.str []),(.sl .nil []),(.int .i64 0)])]
(h_ [v_ l_0,o_ (.build [(.int .i64 0),(.int .i64 0),(.str []),(.sl .nil []),(.int .i64 0)] [(0,1,(i_ 5)),(2,1,r_0)]),o_ (.store 5 l_1 r_1)]
.ret))⟩
def a20:Ann:=⟨[0,1,4],[],[],[],[]⟩
def t20:aN:=⟨2,3,[.loc 2],
(h_ [w_ 2 F_]
(h_ [v_ l_0,v_ l_1,o_ (.call false false 33 [r_0,r_1]),o_ (.bin .geq r_2 (i_ 0)),w_ 2 r_3]
.ret))⟩
def a21:Ann:=⟨[0,1,2],[1],[],[],[]⟩
def t21:aN:=⟨1,3,[.loc 2],
(h_ [o_ (.boxL 1 l_0),w_ 2 F_]
(h_ [o_ (.loadN 5 l_1),c_ 22 [r_0],o_ (.un .not r_1),v_ r_2,x_ 3 (.loadN 5 l_1),x_ 3 (.call true false 23 [r_4]),x_ 3 (.un .not r_5),o_ (.pick r_3 T_ r_6),w_ 2 r_7]
.ret))⟩
def a22:Ann:=⟨[0,1,2,4,10,17],[1],[],[],[]⟩
def t22L0:aL:=(.seq (.seq (g_ [o_ (.loadN 5 l_1),s_ 3 (.call false false 31 [r_0])])
(.cond l_3
.skip
(.exit 0)))
(.block 1
(.seq (.seq (g_ [f_ 3 l_1,d_ r_0,o_ (.indexAddrS 5 r_1 (i_ 0)),o_ (.loadN 5 r_2),c_ 22 [r_3],s_ 4 (.un .not r_4)])
(.cond l_4
(h_ [w_ 2 F_]
.ret)
.skip))
(g_ [f_ 3 l_1,d_ r_0,o_ (.indexAddrS 5 r_1 (i_ 1)),o_ (.loadN 5 r_2),o_ (.store 5 l_1 r_3)]))))
def t22:aN:=⟨1,6,[.loc 2],
(h_ [o_ (.boxL 1 l_0),w_ 2 F_]
(.seq (.block 0
(.loop t22L0))
(.seq (.seq (g_ [f_ 0 l_1,d_ r_0,s_ 5 (.bin .eql r_1 (i_ 7))])
(.cond l_5
(h_ [f_ 3 l_1,d_ r_0,o_ (.call false false 20 [r_1,(.fn 34)]),o_ (.un .not r_2),w_ 2 r_3]
.ret)
.skip))
(h_ [f_ 3 l_1,d_ r_0,o_ (.len .sl r_1),o_ (.bin .eql r_2 (i_ 0)),v_ r_3,y_ 4 (.loadN 5 l_1),y_ 4 (.call true false 35 [r_5]),o_ (.pick r_4 r_6 F_),w_ 2 r_7]
.ret))))⟩
def a23:Ann:=⟨[0,1,2,5,11],[1],[],[],[]⟩
def t23L0:aL:=(.seq (.seq (g_ [f_ 0 l_1,d_ r_0,s_ 3 (.bin .eql r_1 (i_ 6))])
(.cond l_3
.skip
(.exit 0)))
(.block 1
(.seq (.seq (g_ [f_ 3 l_1,d_ r_0,o_ (.indexAddrS 5 r_1 (i_ 0)),o_ (.loadN 5 r_2),c_ 23 [r_3],s_ 4 (.un .not r_4)])
(.cond l_4
(h_ [w_ 2 F_]
.ret)
.skip))
(g_ [f_ 3 l_1,d_ r_0,o_ (.indexAddrS 5 r_1 (i_ 1)),o_ (.loadN 5 r_2),o_ (.store 5 l_1 r_3)]))))
def t23:aN:=⟨1,5,[.loc 2],
(h_ [o_ (.boxL 1 l_0),w_ 2 F_]
(.seq (.block 0
(.loop t23L0))
(h_ [f_ 0 l_1,d_ r_0,o_ (.bin .neq r_1 (i_ 5)),v_ r_2,x_ 3 (.fieldAddr 1 l_1),x_ 3 (.load1 r_4),x_ 3 (.bin .eql r_5 (i_ 0)),o_ (.pick r_3 T_ r_6),v_ r_7,y_ 8 (.fieldAddr 3 l_1),y_ 8 (.load1 r_9),y_ 8 (.call false false 20 [gR,(.fn 36)]),y_ 8 (.un .not jE),o_ (.pick r_8 nP F_),w_ 2 mM]
.ret)))⟩
def a24:Ann:=⟨[0,1,4,6,7,8,9,10],[6],[],[],[]⟩
def t24L0:aL:=(.seq (g_ [s_ 7 (.bin .lss l_6 l_5)])
(.seq (.cond l_7
.skip
(.exit 0))
(.seq (.block 1
(h_ [o_ (.indexAddrS 5 l_4 l_6),o_ (.loadN 5 r_0),o_ (.allocL 3 [(.int .i64 0),(.int .i64 0),(.str []),(.sl .nil []),(.int .i64 0)]),o_ (.store 5 r_2 r_1)]
(g_ [v_ l_2,v_ l_0,o_ (.loadN 5 l_3),o_ (.call false false 37 [r_1,r_2]),o_ (.lit false [(.int .u32 0)] 1 [(0,r_3)]),o_ (.append false 1 4 26 r_0 r_4),w_ 2 r_5])))
(g_ [o_ (.bin .add l_6 (i_ 1)),w_ 6 r_0]))))
def t24:aN:=⟨2,8,[.loc 2],
(h_ [w_ 2 N_]
(.seq (.seq (g_ [w_ 4 l_1,s_ 5 (.len .sl r_0),w_ 6 (i_ 0)])
(.block 0
(.loop t24L0)))
(h_ [v_ l_2,w_ 2 r_0]
.ret)))⟩
def a25:Ann:=⟨[0,1,2,6,7],[],[],[],[(1,⟨[0,1,3,7,0,16,48,112,240,511,1023],[0,1,2,3,4,5,6,7,8,9,10],[]⟩)]⟩
def t25:aN:=⟨3,5,[.loc 3],
(h_ [s_ 3 (.mov (.cst (.int .u32 0)))]
(.seq (.draw [0,1,2,3,4,5,6,7,8,9,10] [] [v_ l_0,o_ (.nilCheck r_0),f_ 0 r_1,d_ r_2,v_ l_0,o_ (.nilCheck r_4),f_ 1 r_5,d_ r_6,o_ (.len .sl r_7),o_ (.bin .add r_3 r_8),w_ 4 r_9])
(h_ [v_ l_0,v_ l_0,o_ (.nilCheck r_1),f_ 1 r_2,d_ r_3,v_ l_2,o_ (.len .sl r_5),o_ (.conv (.toInt .u32) r_6),o_ (.bin .shl r_7 (.cst (.int .u64 5))),v_ l_1,o_ (.conv (.toInt .u32) r_9),o_ (.bin .shl gR (.cst (.int .u64 2))),o_ (.bin .or r_8 jE),o_ (.bin .or nP (.cst (.int .u32 3))),o_ (.lit false [(.int .u32 0)] 1 [(0,mM)]),o_ (.append false 1 4 26 r_4 wH),o_ (.nilCheck r_0),f_ 1 aEm,o_ (.store 1 aEn aA0)]
(h_ [v_ l_0,v_ l_0,o_ (.nilCheck r_1),f_ 1 r_2,d_ r_3,v_ l_2,o_ (.append false 1 4 26 r_4 r_5),o_ (.nilCheck r_0),f_ 1 r_7,o_ (.store 1 r_8 r_6)]
(h_ [v_ l_4,o_ (.conv (.toInt .u32) r_0),o_ (.bin .shl r_1 (.cst (.int .u64 2))),o_ (.bin .or r_2 (.cst (.int .u32 1))),w_ 3 r_3]
.ret)))))⟩
def a30:Ann:=⟨[0,1,2,6,7,8,9,11,12,13,18,22,26,37,44,51,57,61,62,63,64,79,86,108,113,119],[9,6],[],[],[(19,⟨[0,1,0,0,0,16,60,124,255,511,1023],[0,1,2,3,4,5],[(6,[1],[7]),(8,[],[9]),(10,[],[])]⟩)]⟩
def t30L0:aL:=(.seq (g_ [s_ 20 (.bin .lss tG wI)])
(.seq (.cond aQj
.skip
(.exit 1))
(.seq (.block 2
(h_ [o_ (.indexAddrS 1 aH1 tG),d_ r_0,w_ 7 r_1]
(.draw [0,1,2,3,4,5] [(6,[1],[7]),(8,[],[9]),(10,[],[])] [f_ 3 l_6,d_ r_0,v_ l_0,v_ l_7,v_ l_2,o_ (.bin .add r_4 (i_ 1)),o_ (.call false false 30 [r_2,r_3,r_5]),o_ (.lit false [(.int .i64 0),(.int .i64 0),(.str []),(.sl .nil []),(.int .i64 0)] 1 [(0,r_6)]),o_ (.append false 5 64 37 r_1 r_7),f_ 3 l_6,o_ (.store 1 r_9 r_8)])))
(g_ [o_ (.bin .add tG (i_ 1)),w_ 19 r_0]))))
def t30:aN:=⟨3,26,[.cell 3 5 true],
(h_ [o_ (.allocL 3 [(.int .i64 0),(.int .i64 0),(.str []),(.sl .nil []),(.int .i64 0)])]
(.seq (.seq (g_ [v_ l_0,o_ (.nilCheck r_0),f_ 3 r_1,d_ r_2,s_ 10 (.bin .neq r_3 (i_ 0))])
(.cond eX
(h_ [o_ (.build [(.int .i64 0),(.int .i64 0),(.str []),(.sl .nil []),(.int .i64 0)] []),o_ (.store 5 l_3 r_0)]
.ret)
.skip))
(.seq (.seq (g_ [v_ l_1,o_ (.bin .and r_0 (.cst (.int .u32 3))),s_ 11 (.bin .neq r_1 (.cst (.int .u32 1)))])
(.cond gJ
(.seq (.seq (g_ [v_ l_0,v_ l_2,o_ (.call false false 42 [r_0,r_1]),s_ 12 (.un .not r_2)])
(.cond mN
(h_ [o_ (.build [(.int .i64 0),(.int .i64 0),(.str []),(.sl .nil []),(.int .i64 0)] []),o_ (.store 5 l_3 r_0)]
.ret)
.skip))
(h_ [v_ l_0,v_ l_1,o_ (.call false false 43 [r_0,r_1]),o_ (.store 5 l_3 r_2)]
.ret))
.skip))
(h_ [v_ l_0,v_ l_1,o_ (.call false false 44 [r_0,r_1]),v_ r_2,o_ (.extract 0 r_3),o_ (.extract 1 r_3),w_ 4 r_4,w_ 5 r_5]
(.seq (.block 0
(h_ [v_ l_0,o_ (.nilCheck r_0),f_ 3 r_1,d_ r_2,o_ (.bin .neq r_3 (i_ 0)),w_ 13 r_4]
(.cond jV
(h_ [o_ (.build [(.int .i64 0),(.int .i64 0),(.str []),(.sl .nil []),(.int .i64 0)] []),o_ (.store 5 l_3 r_0)]
.ret)
(h_ [v_ l_4,o_ (.bin .eql r_0 (i_ 0)),w_ 14 r_1]
(.cond uJ
(h_ [v_ l_0,v_ l_1,v_ l_2,o_ (.call false false 45 [r_0,r_1,r_2]),o_ (.store 5 l_3 r_3)]
.ret)
(h_ [v_ l_0,v_ l_2,o_ (.call false false 42 [r_0,r_1]),o_ (.un .not r_2),w_ 15 r_3]
(.cond tF
(h_ [o_ (.build [(.int .i64 0),(.int .i64 0),(.str []),(.sl .nil []),(.int .i64 0)] []),o_ (.store 5 l_3 r_0)]
.ret)
(h_ [v_ l_4,o_ (.bin .eql r_0 (i_ 1)),w_ 16 r_1]
(.cond pQ
(h_ [o_ (.build [(.int .i64 0),(.int .i64 0),(.str []),(.sl .nil []),(.int .i64 0)] [(0,1,(i_ 7))]),o_ (.allocL 6 [(.int .i64 0),(.int .i64 0),(.str []),(.sl .nil []),(.int .i64 0)]),o_ (.store 5 r_1 r_0)]
(.seq (.seq (g_ [w_ 17 l_5,s_ 18 (.len .sl r_0),w_ 19 (i_ 0)])
(.block 1
(.loop t30L0)))
(h_ [o_ (.loadN 5 l_6),o_ (.store 5 l_3 r_0)]
.ret)))
(h_ [v_ l_4,o_ (.bin .eql r_0 (i_ 4)),w_ 21 r_1]
(.cond bBq
(h_ [v_ l_0,v_ l_5,o_ (.call false false 46 [r_0,r_1]),o_ (.build [(.int .i64 0),(.int .i64 0),(.str []),(.sl .nil []),(.int .i64 0)] [(0,1,(i_ 4)),(2,1,r_2)]),o_ (.store 5 l_3 r_3)]
.ret)
(h_ [v_ l_4,o_ (.bin .eql r_0 (i_ 5)),v_ r_1,y_ 2 (.mov l_5),y_ 2 (.len .sl r_3),y_ 2 (.bin .eql r_4 (i_ 1)),o_ (.pick r_2 r_5 F_),w_ 22 r_6]
(.cond aQk
(h_ [v_ l_0,v_ l_5,o_ (.indexAddrS 1 r_1 (i_ 0)),d_ r_2,o_ (.call false false 44 [r_0,r_3]),v_ r_4,o_ (.extract 0 r_5),o_ (.extract 1 r_5),w_ 8 r_6,w_ 9 r_7]
(h_ [v_ l_8,o_ (.bin .eql r_0 (i_ 4)),v_ r_1,y_ 2 (.mov l_9),y_ 2 (.len .sl r_3),y_ 2 (.bin .gtr r_4 (i_ 0)),s_ 23 (.pick r_2 r_5 F_)]
(.cond bBr
(h_ [v_ l_0,v_ l_9,o_ (.call false false 46 [r_0,r_1]),o_ (.build [(.int .i64 0),(.int .i64 0),(.str []),(.sl .nil []),(.int .i64 0)] [(0,1,(i_ 5)),(2,1,r_2)]),o_ (.store 5 l_3 r_3)]
.ret)
.skip)))
(h_ [v_ l_4,o_ (.bin .eql r_0 (i_ 6)),w_ 24 r_1]
(.cond bBs
(h_ [v_ l_0,v_ l_5,o_ (.call false false 47 [r_0,r_1]),o_ (.store 5 l_3 r_2)]
.ret)
(h_ [v_ l_4,o_ (.bin .eql r_0 (i_ 7)),w_ 25 r_1]
(.cond bE3
(h_ [v_ l_0,v_ l_5,o_ (.call false false 48 [r_0,r_1]),o_ (.store 5 l_3 r_2)]
.ret)
.skip)))))))))))))))))
(h_ [v_ l_0,o_ (.call false false 49 [r_0,(i_ 4)]),o_ (.store 5 l_3 r_1)]
.ret))))))⟩
def a31:Ann:=⟨[0,1,2],[1],[],[],[]⟩
def t31:aN:=⟨1,3,[.loc 2],
(h_ [o_ (.boxL 1 l_0),w_ 2 F_]
(h_ [f_ 0 l_1,d_ r_0,o_ (.bin .eql r_1 (i_ 6)),v_ r_2,y_ 3 (.fieldAddr 3 l_1),y_ 3 (.load1 r_4),y_ 3 (.len .sl r_5),y_ 3 (.bin .eql r_6 (i_ 2)),o_ (.pick r_3 r_7 F_),w_ 2 r_8]
.ret))⟩
def a33:Ann:=⟨[0,1,4,5,7,8,9,16],[],[],[],[]⟩
def t33L0:aL:=(.seq (g_ [s_ 6 (.bin .lss l_5 l_4)])
(.seq (.cond l_6
.skip
(.exit 0))
(.seq (.block 1
(h_ [v_ l_5,w_ 3 r_0]
(h_ [v_ l_1,v_ l_0,v_ l_3,o_ (.indexAddrS 5 r_1 r_2),o_ (.loadN 5 r_3),s_ 7 (.callv r_0 [r_4])]
(.cond l_7
(h_ [v_ l_3,w_ 2 r_0]
.ret)
.skip))))
(g_ [o_ (.bin .add l_5 (i_ 1)),w_ 5 r_0]))))
def t33:aN:=⟨2,8,[.loc 2],
(h_ [w_ 2 (i_ 0)]
(.seq (.seq (g_ [v_ l_0,s_ 4 (.len .sl r_0),w_ 5 (i_ 0)])
(.block 0
(.loop t33L0)))
(h_ [s_ 2 (.mov (i_ (-1)))]
.ret)))⟩
def a34:Ann:=⟨[0,1,2],[1],[],[],[]⟩
def t34:aN:=⟨1,3,[.loc 2],
(h_ [o_ (.boxL 1 l_0),w_ 2 F_]
(h_ [o_ (.loadN 5 l_1),c_ 22 [r_0],o_ (.un .not r_1),w_ 2 r_2]
.ret))⟩
def a35:Ann:=⟨[0,1,2,4,6,7,12,22,27,32],[1],[],[],[]⟩
def t35:aN:=⟨1,10,[.loc 2],
(h_ [o_ (.boxL 1 l_0),w_ 2 F_]
(.seq (.seq (g_ [f_ 0 l_1,s_ 4 (.load1 r_0)])
(.block 0
(.seq (.seq (g_ [o_ (.bin .eql l_4 (i_ 0)),w_ 5 r_0])
(.cond l_5
.skip
(h_ [o_ (.bin .eql l_4 (i_ 8)),w_ 5 r_0]
(.cond l_5
.skip
(h_ [o_ (.bin .eql l_4 (i_ 9)),w_ 5 r_0]
(.cond l_5
.skip
(g_ [o_ (.bin .eql l_4 (i_ 10)),w_ 5 r_0])))))))
(.cond l_5
(h_ [w_ 2 T_]
.ret)
(h_ [o_ (.bin .eql l_4 (i_ 1)),w_ 6 r_0]
(.cond l_6
(h_ [f_ 1 l_1,d_ r_0,o_ (.bin .eql r_1 (i_ 0)),v_ r_2,x_ 3 (.fieldAddr 1 l_1),x_ 3 (.load1 r_4),x_ 3 (.bin .eql r_5 (i_ 1)),o_ (.pick r_3 T_ r_6),w_ 2 r_7]
.ret)
(h_ [o_ (.bin .eql l_4 (i_ 2)),w_ 7 r_0]
(.cond l_7
(h_ [f_ 2 l_1,d_ r_0,c_ 50 [r_1],w_ 2 r_2]
.ret)
(h_ [o_ (.bin .eql l_4 (i_ 3)),w_ 8 r_0]
(.cond l_8
(h_ [f_ 1 l_1,d_ r_0,c_ 51 [r_1],w_ 2 r_2]
.ret)
(.seq (.seq (g_ [o_ (.bin .eql l_4 (i_ 4)),w_ 9 r_0])
(.cond l_9
.skip
(g_ [o_ (.bin .eql l_4 (i_ 5)),w_ 9 r_0])))
(.cond l_9
(h_ [f_ 2 l_1,d_ r_0,c_ 52 [r_1],v_ r_2,o_ (.extract 0 r_3),o_ (.extract 1 r_3),v_ r_4,w_ 3 r_5]
(h_ [v_ l_3,o_ (.bin .eql r_0 (i_ 0)),v_ r_1,y_ 2 (.fieldAddr 0 l_1),y_ 2 (.load1 r_3),y_ 2 (.bin .eql r_4 (i_ 4)),y_ 2 (.mov r_5),x_ 6 (.fieldAddr 2 l_1),x_ 6 (.load1 r_7),x_ 6 (.bin .neq r_8 (.cst (.str []))),y_ 2 (.pick r_6 T_ r_9),o_ (.pick r_2 gR F_),w_ 2 jE]
.ret))
.skip))))))))))))
(h_ [w_ 2 F_]
.ret)))⟩
def a36:Ann:=⟨[0,1,2],[1],[],[],[]⟩
def t36:aN:=⟨1,3,[.loc 2],
(h_ [o_ (.boxL 1 l_0),w_ 2 F_]
(h_ [o_ (.loadN 5 l_1),c_ 23 [r_0],o_ (.un .not r_1),w_ 2 r_2]
.ret))⟩
def a37:Ann:=⟨[0,1,2,3,4,5,7,9,10,11,12,13,15,17,18,23,34,39,45,51,55,56,57,58,71,79,93,94,95,102,104],[11,5,3],[],[],[(22,⟨[0,0,0,4,14,31,63],[0,1,2,3],[(4,[0],[]),(5,[],[6])]⟩)]⟩
def t37L0:aL:=(.seq (g_ [s_ 23 (.bin .lss aQk bBq)])
(.seq (.cond bBr
.skip
(.exit 1))
(.seq (.block 2
(h_ [o_ (.indexAddrS 1 aQj aQk),d_ r_0,w_ 7 r_1]
(g_ [v_ l_6,v_ l_7,o_ (.conv (.toInt .i64) r_1),c_ 59 [r_2],o_ (.lit false [(.int .u32 0)] 1 [(0,r_3)]),o_ (.append false 1 4 26 r_0 r_4),w_ 6 r_5])))
(g_ [o_ (.bin .add aQk (i_ 1)),w_ 22 r_0]))))
def t37:aN:=⟨2,31,[.loc 4],
(h_ [s_ 2 (.boxH 50 l_0),o_ (.boxL 3 l_1),s_ 4 (.mov (.cst (.int .u32 0)))]
(.seq (.seq (g_ [f_ 0 l_3,s_ 13 (.load1 r_0)])
(.block 0
(h_ [o_ (.bin .eql jV (i_ 1)),w_ 14 r_0]
(.cond uJ
(h_ [f_ 1 l_3,d_ r_0,c_ 53 [r_1],w_ 4 r_2]
.ret)
(h_ [o_ (.bin .eql jV (i_ 2)),w_ 15 r_0]
(.cond tF
(h_ [f_ 2 l_3,d_ r_0,c_ 54 [r_1],v_ r_2,o_ (.extract 0 r_3),o_ (.extract 1 r_3),o_ (.allocL 5 [(.bool false),(.sl .nil [])]),o_ (.store 2 r_6 r_4),v_ r_5]
(h_ [d_ l_2,o_ (.loadN 2 l_5),o_ (.call false false 55 [r_0,r_1]),w_ 4 r_2]
.ret))
(h_ [o_ (.bin .eql jV (i_ 3)),w_ 16 r_0]
(.cond pQ
(h_ [f_ 1 l_3,d_ r_0,c_ 56 [r_1],w_ 4 r_2]
.ret)
(h_ [o_ (.bin .eql jV (i_ 4)),w_ 17 r_0]
(.cond aH1
(h_ [d_ l_2,f_ 2 l_3,d_ r_1,o_ (.call false false 57 [r_0,r_2]),w_ 4 r_3]
.ret)
(h_ [o_ (.bin .eql jV (i_ 5)),w_ 18 r_0]
(.cond wI
(h_ [d_ l_2,f_ 2 l_3,d_ r_1,o_ (.call false false 58 [r_0,r_2]),w_ 4 r_3]
.ret)
(h_ [o_ (.bin .eql jV (i_ 8)),w_ 19 r_0]
(.cond tG
(h_ [w_ 6 N_]
(.seq (.seq (g_ [f_ 2 l_3,d_ r_0,s_ 20 (.conv .strBytes r_1),s_ 21 (.len .sl r_2),w_ 22 (i_ 0)])
(.block 1
(.loop t37L0)))
(h_ [d_ l_2,v_ l_6,o_ (.call false false 25 [r_0,(i_ 6),r_1]),w_ 4 r_2]
.ret)))
(h_ [o_ (.bin .eql jV (i_ 7)),w_ 24 r_0]
(.cond bBs
(.seq (.draw [0,1,2,3] [(4,[0],[]),(5,[],[6])] [d_ l_2,d_ l_2,f_ 3 l_3,d_ r_2,o_ (.call false false 24 [r_1,r_3]),o_ (.call false false 25 [r_0,(i_ 1),r_4]),w_ 4 r_5])
.ret)
(h_ [o_ (.bin .eql jV (i_ 6)),w_ 25 r_0]
(.cond bE3
(h_ [o_ (.loadN 5 l_3),c_ 12 [r_0],v_ r_1,o_ (.extract 0 r_2),o_ (.extract 1 r_2),o_ (.allocL 9 [(.int .i64 0),(.int .i64 0),(.str []),(.sl .nil []),(.int .i64 0)]),w_ 8 r_3,o_ (.store 5 r_5 r_4)]
(h_ [d_ l_2,v_ l_8,o_ (.call false false 24 [r_0,r_1]),w_ 10 r_2]
(h_ [d_ l_2,o_ (.loadN 5 l_9),o_ (.call false false 37 [r_0,r_1]),s_ 11 (.allocH 27 [(.int .u32 0)]),o_ (.store 1 r_3 r_2)]
(.seq (.seq (g_ [v_ eX,s_ 26 (.call false false 60 [r_0])])
(.block 3
(.rangeFunc bE4 [27,28]
(g_ [w_ 12 bE5])
(.block 4
(g_ [d_ l_2,v_ mN,d_ gJ,o_ (.lit false [(.int .u32 0)] 2 [(0,r_1),(1,r_2)]),o_ (.call false false 25 [r_0,(i_ 0),r_3]),o_ (.store 1 gJ r_4)])))))
(h_ [d_ gJ,w_ 4 r_0]
.ret)))))
(h_ [o_ (.bin .eql jV (i_ 9)),w_ 29 r_0]
(.cond bBt
(h_ [s_ 4 (.mov (.cst (.int .u32 54)))]
.ret)
(h_ [o_ (.bin .eql jV (i_ 10)),w_ 30 r_0]
(.cond bGq
(h_ [s_ 4 (.mov (.cst (.int .u32 70)))]
.ret)
.skip))))))))))))))))))))))
(h_ [s_ 4 (.mov (.cst (.int .u32 38)))]
.ret)))⟩
def a42:Ann:=⟨[0,1,4,20],[],[],[],[]⟩
def t42:aN:=⟨2,4,[.loc 2],
(h_ [w_ 2 F_]
(h_ [v_ l_0,o_ (.nilCheck r_0),f_ 2 r_1,d_ r_2,o_ (.bin .add r_3 (i_ 1)),o_ (.nilCheck r_0),f_ 2 r_5,o_ (.store 1 r_6 r_4)]
(.seq (.seq (g_ [v_ l_0,o_ (.nilCheck r_0),f_ 2 r_1,d_ r_2,o_ (.bin .gtr r_3 (i_ 1048576)),v_ r_4,x_ 5 (.mov l_1),x_ 5 (.bin .gtr r_6 (i_ 1000)),s_ 3 (.pick r_5 T_ r_7)])
(.cond l_3
(g_ [v_ l_0,o_ (.call false false 49 [r_0,(i_ 3)])])
.skip))
(h_ [v_ l_0,o_ (.nilCheck r_0),f_ 3 r_1,d_ r_2,o_ (.bin .eql r_3 (i_ 0)),w_ 2 r_4]
.ret))))⟩
def a43:Ann:=⟨[0,1,4,5,16,20,24,28,32,36],[4],[],[],[]⟩
def t43:aN:=⟨2,10,[.cell 2 5 true],
(h_ [o_ (.allocL 2 [(.int .i64 0),(.int .i64 0),(.str []),(.sl .nil []),(.int .i64 0)])]
(.seq (.block 0
(h_ [v_ l_1,o_ (.bin .and r_0 (.cst (.int .u32 3))),o_ (.bin .eql r_1 (.cst (.int .u32 0))),w_ 3 r_2]
(.cond l_3
(h_ [v_ l_1,o_ (.conv (.toInt .i32) r_0),o_ (.conv (.toInt .i64) r_1),o_ (.bin .shr r_2 (.cst (.int .u64 2))),c_ 68 [r_3],c_ 67 [r_4],o_ (.build [(.int .i64 0),(.int .i64 0),(.str []),(.sl .nil []),(.int .i64 0)] [(0,1,(i_ 2)),(2,1,r_5)]),o_ (.store 5 l_2 r_6)]
.ret)
(h_ [v_ l_1,o_ (.bin .eql r_0 (.cst (.int .u32 6))),w_ 4 r_1]
(.cond l_4
(h_ [o_ (.build [(.int .i64 0),(.int .i64 0),(.str []),(.sl .nil []),(.int .i64 0)] [(0,1,(i_ 1))]),o_ (.store 5 l_2 r_0)]
.ret)
(h_ [v_ l_1,o_ (.bin .eql r_0 (.cst (.int .u32 22))),w_ 5 r_1]
(.cond l_5
(h_ [o_ (.build [(.int .i64 0),(.int .i64 0),(.str []),(.sl .nil []),(.int .i64 0)] [(0,1,(i_ 1)),(1,1,(i_ 1))]),o_ (.store 5 l_2 r_0)]
.ret)
(h_ [v_ l_1,o_ (.bin .eql r_0 (.cst (.int .u32 38))),w_ 6 r_1]
(.cond l_6
(h_ [o_ (.build [(.int .i64 0),(.int .i64 0),(.str []),(.sl .nil []),(.int .i64 0)] [(0,1,(i_ 0))]),o_ (.store 5 l_2 r_0)]
.ret)
(h_ [v_ l_1,o_ (.bin .eql r_0 (.cst (.int .u32 54))),w_ 7 r_1]
(.cond l_7
(h_ [o_ (.build [(.int .i64 0),(.int .i64 0),(.str []),(.sl .nil []),(.int .i64 0)] [(0,1,(i_ 9))]),o_ (.store 5 l_2 r_0)]
.ret)
(h_ [v_ l_1,o_ (.bin .eql r_0 (.cst (.int .u32 70))),w_ 8 r_1]
(.cond l_8
(h_ [o_ (.build [(.int .i64 0),(.int .i64 0),(.str []),(.sl .nil []),(.int .i64 0)] [(0,1,(i_ 10))]),o_ (.store 5 l_2 r_0)]
.ret)
(h_ [v_ l_1,c_ 69 [r_0],o_ (.bin .geq r_1 (i_ 0)),w_ 9 r_2]
(.cond l_9
(h_ [v_ l_1,c_ 69 [r_0],o_ (.build [(.int .i64 0),(.int .i64 0),(.str []),(.sl .nil []),(.int .i64 0)] [(0,1,(i_ 3)),(1,1,r_1)]),o_ (.store 5 l_2 r_2)]
.ret)
.skip)))))))))))))))
(h_ [v_ l_0,o_ (.call false false 49 [r_0,(i_ 4)]),o_ (.store 5 l_2 r_1)]
.ret)))⟩
def a44:Ann:=⟨[0,1,4,5,6,7,42,63],[],[],[],[(9,⟨[0,1,3,7,0,31,63,127,255,511,0,1024,3072,7168,0,16384,0,65536,0,458752,1047552,1023,4194303],[0,1,2,3,4,5,6,7,8,9,10,11,12,13,14,15,16,17,18,19,20,21,22],[]⟩)]⟩
def t44:aN:=⟨2,8,[.loc 2,.loc 3],
(h_ [w_ 2 (i_ 0),w_ 3 N_]
(h_ [v_ l_1,o_ (.bin .shr r_0 (.cst (.int .u64 2))),o_ (.conv (.toInt .i64) r_1),v_ l_0,o_ (.nilCheck r_3),f_ 0 r_4,d_ r_5,o_ (.bin .sub r_2 r_6),w_ 4 r_7]
(.seq (.seq (g_ [v_ l_1,o_ (.bin .and r_0 (.cst (.int .u32 3))),o_ (.bin .neq r_1 (.cst (.int .u32 1))),v_ r_2,x_ 3 (.mov l_4),x_ 3 (.bin .lss r_4 (i_ 0)),o_ (.pick r_3 T_ r_5),v_ r_6,x_ 7 (.mov l_4),x_ 7 (.mov l_0),x_ 7 (.nilCheck r_9),x_ 7 (.fieldAddr 1 gR),x_ 7 (.load1 jE),x_ 7 (.len .sl nP),x_ 7 (.bin .geq r_8 mM),o_ (.pick r_7 T_ wH),v_ aA0,x_ 16 (.mov l_0),x_ 16 (.nilCheck aEn),x_ 16 (.fieldAddr 1 aQi),x_ 16 (.load1 aWy),x_ 16 (.mov l_4),x_ 16 (.indexAddrS 1 bBp bGk),x_ 16 (.load1 bGl),x_ 16 (.bin .and bGm (.cst (.int .u32 3))),x_ 16 (.bin .neq bGn (.cst (.int .u32 3))),s_ 6 (.pick aEm T_ bGo)])
(.cond l_6
(h_ [v_ l_0,o_ (.call false false 49 [r_0,(i_ 4)])]
(h_ [s_ 2 (.mov (i_ (-1))),w_ 3 N_]
.ret))
.skip))
(h_ [v_ l_0,o_ (.nilCheck r_0),f_ 1 r_1,d_ r_2,v_ l_4,o_ (.indexAddrS 1 r_3 r_4),d_ r_5,o_ (.bin .shr r_6 (.cst (.int .u64 5))),o_ (.conv (.toInt .i64) r_7),w_ 5 r_8]
(.seq (.seq (g_ [v_ l_5,v_ l_0,o_ (.nilCheck r_1),f_ 1 r_2,d_ r_3,o_ (.len .sl r_4),v_ l_4,o_ (.bin .sub r_5 r_6),o_ (.bin .sub r_7 (i_ 1)),s_ 7 (.bin .gtr r_0 r_8)])
(.cond l_7
(h_ [v_ l_0,o_ (.call false false 49 [r_0,(i_ 4)])]
(h_ [s_ 2 (.mov (i_ (-1))),w_ 3 N_]
.ret))
.skip))
(.seq (.draw [0,1,2,3,4,5,6,7,8,9,10,11,12,13,14,15,16,17,18,19,20,21,22] [] [v_ l_0,o_ (.nilCheck r_0),f_ 1 r_1,d_ r_2,v_ l_4,o_ (.indexAddrS 1 r_3 r_4),d_ r_5,o_ (.bin .shr r_6 (.cst (.int .u64 2))),o_ (.bin .and r_7 (.cst (.int .u32 7))),o_ (.conv (.toInt .i64) r_8),v_ l_0,o_ (.nilCheck gR),f_ 1 jE,d_ nP,v_ l_4,o_ (.bin .add wH (i_ 1)),v_ l_4,o_ (.bin .add aEm (i_ 1)),v_ l_5,o_ (.bin .add aEn aQi),o_ (.slice (.sl 1) mM (some aA0) (some aWy) none),w_ 2 r_9,w_ 3 bBp])
.ret))))))⟩
def a45:Ann:=⟨[0,1,2,6,7,8,9,12,19,26,35,41],[6],[],[],[]⟩
def t45L0:aL:=(.block 1
(h_ [s_ 5 (.mov (i_ (-1))),w_ 6 N_]
(.seq (.seq (g_ [v_ l_1,o_ (.bin .and r_0 (.cst (.int .u32 3))),s_ 7 (.bin .eql r_1 (.cst (.int .u32 1)))])
(.cond l_7
(g_ [v_ l_0,v_ l_1,o_ (.call false false 44 [r_0,r_1]),v_ r_2,o_ (.extract 0 r_3),o_ (.extract 1 r_3),w_ 5 r_4,w_ 6 r_5])
.skip))
(.seq (.block 2
(h_ [v_ l_0,o_ (.nilCheck r_0),f_ 3 r_1,d_ r_2,o_ (.bin .neq r_3 (i_ 0)),w_ 8 r_4]
(.cond l_8
(h_ [o_ (.build [(.int .i64 0),(.int .i64 0),(.str []),(.sl .nil []),(.int .i64 0)] []),o_ (.store 5 l_3 r_0)]
.ret)
(h_ [v_ l_5,o_ (.bin .neq r_0 (i_ 0)),w_ 9 r_1]
(.cond l_9
(h_ [v_ l_4,v_ l_0,v_ l_1,v_ l_2,o_ (.call false false 30 [r_1,r_2,r_3]),o_ (.call false false 70 [r_0,r_4]),o_ (.store 5 l_3 r_5)]
.ret)
(h_ [v_ l_6,o_ (.len .sl r_0),o_ (.bin .neq r_1 (i_ 2)),w_ 10 r_2]
(.cond eX
(h_ [v_ l_0,o_ (.call false false 49 [r_0,(i_ 4)]),o_ (.store 5 l_3 r_1)]
.ret)
(h_ [v_ l_0,v_ l_2,o_ (.call false false 42 [r_0,r_1]),o_ (.un .not r_2),w_ 11 r_3]
(.cond gJ
(h_ [o_ (.build [(.int .i64 0),(.int .i64 0),(.str []),(.sl .nil []),(.int .i64 0)] []),o_ (.store 5 l_3 r_0)]
.ret)
.skip)))))))))
(h_ [v_ l_4,v_ l_0,v_ l_6,o_ (.indexAddrS 1 r_2 (i_ 0)),d_ r_3,v_ l_2,o_ (.bin .add r_5 (i_ 1)),o_ (.call false false 30 [r_1,r_4,r_6]),o_ (.lit false [(.int .i64 0),(.int .i64 0),(.str []),(.sl .nil []),(.int .i64 0)] 1 [(0,r_7)]),o_ (.append false 5 64 37 r_0 r_8),w_ 4 r_9]
(g_ [v_ l_6,o_ (.indexAddrS 1 r_0 (i_ 1)),d_ r_1,w_ 1 r_2]))))))
def t45:aN:=⟨3,12,[.cell 3 5 true],
(h_ [o_ (.allocL 3 [(.int .i64 0),(.int .i64 0),(.str []),(.sl .nil []),(.int .i64 0)])]
(h_ [w_ 4 N_]
(.block 0
(.loop t45L0))))⟩
def a46:Ann:=⟨[0,1,4,5,7,8,9,10,11,12,18],[],[],[],[]⟩
def t46L0:aL:=(.seq (g_ [s_ 9 (.bin .lss l_8 l_7)])
(.seq (.cond l_9
.skip
(.exit 0))
(.seq (.block 1
(h_ [o_ (.indexAddrS 1 l_6 l_8),d_ r_0,w_ 4 r_1]
(h_ [v_ l_4,c_ 69 [r_0],w_ 5 r_1]
(.seq (.seq (g_ [v_ l_5,s_ 10 (.bin .lss r_0 (i_ 0))])
(.cond eX
(h_ [v_ l_0,o_ (.call false false 49 [r_0,(i_ 4)])]
(h_ [s_ 2 (.mov (.cst (.str [])))]
.ret))
.skip))
(g_ [v_ l_5,o_ (.conv (.toInt .i32) r_0),o_ (.call false false 71 [l_3,r_1])])))))
(g_ [o_ (.bin .add l_8 (i_ 1)),w_ 8 r_0]))))
def t46:aN:=⟨2,11,[.loc 2],
(h_ [s_ 2 (.mov (.cst (.str [])))]
(h_ [s_ 3 (.allocH 115 [.nilp,(.sl .nil [])])]
(.seq (.seq (g_ [w_ 6 l_1,s_ 7 (.len .sl r_0),w_ 8 (i_ 0)])
(.block 0
(.loop t46L0)))
(h_ [o_ (.prim 72 [l_3]),w_ 2 r_0]
.ret))))⟩
def a47:Ann:=⟨[0,1,4,5,7,8,9,10,11,16],[4],[],[],[]⟩
def t47L0:aL:=(.seq (g_ [s_ 8 (.bin .lss l_7 l_6)])
(.seq (.cond l_8
.skip
(.exit 0))
(.seq (.block 1
(h_ [o_ (.indexAddrS 1 l_5 l_7),d_ r_0,w_ 4 r_1]
(.seq (.seq (g_ [v_ l_4,c_ 73 [r_0,(i_ 255)],s_ 9 (.bin .lss r_1 (i_ 0))])
(.cond l_9
(h_ [v_ l_0,o_ (.call false false 49 [r_0,(i_ 4)]),o_ (.store 5 l_2 r_1)]
.ret)
.skip))
(g_ [v_ l_3,v_ l_4,o_ (.bin .shr r_1 (.cst (.int .u64 2))),o_ (.conv (.toInt .u8) r_2),o_ (.lit false [(.int .u8 0)] 1 [(0,r_3)]),o_ (.append false 1 1 5 r_0 r_4),w_ 3 r_5]))))
(g_ [o_ (.bin .add l_7 (i_ 1)),w_ 7 r_0]))))
def t47:aN:=⟨2,10,[.cell 2 5 true],
(h_ [o_ (.allocL 2 [(.int .i64 0),(.int .i64 0),(.str []),(.sl .nil []),(.int .i64 0)])]
(h_ [w_ 3 N_]
(.seq (.seq (g_ [w_ 5 l_1,s_ 6 (.len .sl r_0),w_ 7 (i_ 0)])
(.block 0
(.loop t47L0)))
(h_ [v_ l_3,o_ (.conv .bytesStr r_0),o_ (.build [(.int .i64 0),(.int .i64 0),(.str []),(.sl .nil []),(.int .i64 0)] [(0,1,(i_ 8)),(2,1,r_1)]),o_ (.store 5 l_2 r_2)]
.ret))))⟩
def a48:Ann:=⟨[0,1,4,5,7,8,10,20,29,30,31,32,38,65],[5,4],[],[],[]⟩
def t48L0:aL:=(.seq (g_ [s_ 11 (.bin .lss eX l_9)])
(.seq (.cond gJ
.skip
(.exit 0))
(.seq (.block 1
(h_ [o_ (.indexAddrS 1 l_8 eX),d_ r_0,w_ 4 r_1]
(h_ [v_ l_4,c_ 73 [r_0,(i_ 65535)],w_ 5 r_1]
(.seq (.seq (g_ [v_ l_5,s_ 12 (.bin .lss r_0 (i_ 0))])
(.cond mN
(h_ [v_ l_0,o_ (.call false false 49 [r_0,(i_ 4)]),o_ (.store 5 l_2 r_1)]
.ret)
.skip))
(g_ [f_ 1 l_3,d_ r_0,v_ l_5,o_ (.conv (.toInt .u16) r_2),o_ (.lit false [(.int .u16 0)] 1 [(0,r_3)]),o_ (.append false 1 2 84 r_1 r_4),f_ 1 l_3,o_ (.store 1 r_6 r_5)])))))
(g_ [o_ (.bin .add eX (i_ 1)),w_ 10 r_0]))))
def t48:aN:=⟨2,14,[.cell 2 5 true],
(h_ [o_ (.allocL 2 [(.int .i64 0),(.int .i64 0),(.str []),(.sl .nil []),(.int .i64 0)])]
(.seq (.seq (g_ [v_ l_1,o_ (.len .sl r_0),o_ (.bin .eql r_1 (i_ 0)),v_ r_2,x_ 3 (.mov l_1),x_ 3 (.indexAddrS 1 r_4 (i_ 0)),x_ 3 (.load1 r_5),x_ 3 (.call true false 73 [r_6,(i_ 1)]),x_ 3 (.bin .lss r_7 (i_ 0)),s_ 7 (.pick r_3 T_ r_8)])
(.cond l_7
(h_ [v_ l_0,o_ (.call false false 49 [r_0,(i_ 4)]),o_ (.store 5 l_2 r_1)]
.ret)
.skip))
(h_ [v_ l_1,o_ (.indexAddrS 1 r_0 (i_ 0)),d_ r_1,o_ (.bin .neq r_2 (.cst (.int .u32 0))),o_ (.build [(.bool false),(.sl .nil [])] [(0,1,r_3)]),o_ (.allocL 3 [(.bool false),(.sl .nil [])]),o_ (.store 2 r_5 r_4)]
(.seq (.seq (g_ [v_ l_1,s_ 8 (.slice (.sl 1) r_0 (some (i_ 1)) none none),s_ 9 (.len .sl r_1),w_ 10 (i_ 0)])
(.block 0
(.loop t48L0)))
(.seq (.seq (g_ [o_ (.loadN 2 l_3),c_ 74 [r_0],v_ r_1,o_ (.extract 0 r_2),o_ (.extract 1 r_2),v_ r_3,w_ 6 r_4])
(h_ [v_ l_6,v_ r_0,x_ 1 (.fieldAddr 1 l_3),x_ 1 (.load1 r_2),x_ 1 (.fieldAddr 1 l_3),x_ 1 (.load1 r_4),x_ 1 (.len .sl r_5),x_ 1 (.bin .sub r_6 (i_ 1)),x_ 1 (.indexAddrS 1 r_3 r_7),x_ 1 (.load1 r_8),x_ 1 (.bin .eql r_9 (.cst (.int .u16 0))),s_ 13 (.pick r_1 T_ gR)]
(.cond jV
(h_ [v_ l_0,o_ (.call false false 49 [r_0,(i_ 4)]),o_ (.store 5 l_2 r_1)]
.ret)
.skip)))
(h_ [o_ (.loadN 2 l_3),c_ 67 [r_0],o_ (.build [(.int .i64 0),(.int .i64 0),(.str []),(.sl .nil []),(.int .i64 0)] [(0,1,(i_ 2)),(2,1,r_1)]),o_ (.store 5 l_2 r_2)]
.ret))))))⟩
def a49:Ann:=⟨[0,1,4,9],[4],[],[],[]⟩
def t49:aN:=⟨2,4,[.cell 2 5 true],
(h_ [o_ (.allocL 2 [(.int .i64 0),(.int .i64 0),(.str []),(.sl .nil []),(.int .i64 0)])]
(.seq (.seq (g_ [v_ l_0,o_ (.nilCheck r_0),f_ 3 r_1,d_ r_2,s_ 3 (.bin .eql r_3 (i_ 0))])
(.cond l_3
(g_ [v_ l_0,v_ l_1,o_ (.nilCheck r_0),f_ 3 r_2,o_ (.store 1 r_3 r_1)])
.skip))
(h_ [o_ (.build [(.int .i64 0),(.int .i64 0),(.str []),(.sl .nil []),(.int .i64 0)] []),o_ (.store 5 l_2 r_0)]
.ret)))⟩
def a50:Ann:=⟨[0,2,3,16],[],[],[],[]⟩
def t50:aN:=⟨1,4,[.loc 1],
(h_ [w_ 1 F_]
(h_ [v_ l_0,o_ (.call true false 75 [r_0,(.cst (.str [45]))]),w_ 2 r_1]
(.seq (.seq (g_ [v_ l_2,o_ (.bin .eql r_0 (.cst (.str []))),v_ r_1,x_ 2 (.mov l_2),x_ 2 (.indexS r_3 (i_ 0)),x_ 2 (.bin .eql r_4 (.cst (.int .u8 48))),x_ 2 (.mov r_5),y_ 6 (.mov l_0),y_ 6 (.bin .neq r_7 (.cst (.str [48]))),x_ 2 (.pick r_6 r_8 F_),s_ 3 (.pick r_2 T_ r_9)])
(.cond l_3
(h_ [w_ 1 F_]
.ret)
.skip))
(h_ [v_ l_2,o_ (.call false false 76 [r_0,(.fn 77)]),o_ (.un .not r_1),w_ 1 r_2]
.ret))))⟩
def a51:Ann:=⟨[0,2],[],[],[],[]⟩
def t51:aN:=⟨1,2,[.loc 1],
(h_ [w_ 1 F_]
(h_ [v_ l_0,o_ (.bin .geq r_0 (i_ 0)),v_ r_1,y_ 2 (.mov l_0),y_ 2 (.bin .leq r_3 (i_ 1114111)),o_ (.pick r_2 r_4 F_),v_ r_5,y_ 6 (.mov l_0),y_ 6 (.conv (.toInt .i32) r_7),y_ 6 (.call true false 78 [r_8]),o_ (.pick r_6 r_9 F_),w_ 1 gR]
.ret))⟩
def a52:Ann:=⟨[0,2,3,4,5,6,8,17,20,21,22,23],[8,5],[],[],[(3,⟨[0,1,0,7],[0,1,2,3],[]⟩)]⟩
def t52L0:aL:=(.seq (g_ [s_ 11 (.bin .lss eX l_9)])
(.seq (.cond gJ
.skip
(.exit 0))
(.seq (.block 1
(h_ [o_ (.indexAddrS 2 l_8 eX),o_ (.loadN 2 r_0),o_ (.allocL 6 [(.int .i64 0),(.int .i64 0)]),o_ (.store 2 r_2 r_1)]
(g_ [v_ l_5,f_ 0 l_6,d_ r_1,o_ (.lit false [(.int .i64 0)] 1 [(0,r_2)]),o_ (.append false 1 8 3 r_0 r_3),w_ 5 r_4])))
(g_ [o_ (.bin .add eX (i_ 1)),w_ 10 r_0]))))
def t52:aN:=⟨1,12,[.loc 1,.loc 2],
(h_ [w_ 1 N_,w_ 2 (i_ 0)]
(h_ [v_ l_0,o_ (.conv .strBytes r_0),c_ 79 [r_1],v_ r_2,o_ (.extract 0 r_3),o_ (.extract 1 r_3),o_ (.allocL 4 [(.int .i64 0),(.int .i64 0)]),w_ 3 r_4,o_ (.store 2 r_6 r_5)]
(.seq (.seq (g_ [f_ 0 l_4,d_ r_0,s_ 7 (.bin .neq r_1 (i_ 0))])
(.cond l_7
(.seq (.draw [0,1,2,3] [] [f_ 0 l_4,d_ r_0,w_ 1 N_,w_ 2 r_1])
.ret)
.skip))
(h_ [w_ 5 N_]
(.seq (.seq (g_ [w_ 8 l_3,s_ 9 (.len .sl r_0),w_ 10 (i_ 0)])
(.block 0
(.loop t52L0)))
(h_ [v_ l_5,w_ 1 r_0,w_ 2 (i_ 0)]
.ret))))))⟩
def a53:Ann:=⟨[0,2,4],[],[],[],[]⟩
def t53:aN:=⟨1,3,[.loc 1],
(h_ [s_ 1 (.mov (.cst (.int .u32 0)))]
(.seq (.seq (g_ [v_ l_0,s_ 2 (.bin .neq r_0 (i_ 0))])
(.cond l_2
(h_ [s_ 1 (.mov (.cst (.int .u32 22)))]
.ret)
.skip))
(h_ [s_ 1 (.mov (.cst (.int .u32 6)))]
.ret)))⟩
def a54:Ann:=⟨[0,2,3,4,5,7,19,22,23,24,25,33],[2],[],[],[]⟩
def t54L0:aL:=(.seq (g_ [s_ 10 (.bin .lss l_9 l_8)])
(.seq (.cond eX
.skip
(.exit 0))
(.seq (.block 1
(h_ [o_ (.indexAddrS 1 l_7 l_9),d_ r_0,w_ 5 r_1]
(.seq (.seq (g_ [v_ l_5,o_ (.bin .lss r_0 (.cst (.int .u8 48))),v_ r_1,x_ 2 (.mov l_5),x_ 2 (.bin .gtr r_3 (.cst (.int .u8 57))),s_ 11 (.pick r_2 T_ r_4)])
(.cond gJ
(h_ [o_ (.build [(.bool false),(.sl .nil [])] []),o_ (.store 2 l_1 r_0),w_ 2 (i_ 4)]
.ret)
.skip))
(g_ [v_ l_4,v_ l_5,o_ (.bin .sub r_1 (.cst (.int .u8 48))),o_ (.conv (.toInt .u32) r_2),c_ 82 [r_0,(.cst (.int .u32 10)),r_3],c_ 81 [r_4],w_ 4 r_5]))))
(g_ [o_ (.bin .add l_9 (i_ 1)),w_ 9 r_0]))))
def t54:aN:=⟨1,12,[.cell 1 2 true,.loc 2],
(h_ [o_ (.allocL 1 [(.bool false),(.sl .nil [])]),w_ 2 (i_ 0)]
(h_ [v_ l_0,o_ (.call true false 80 [r_0,(.cst (.str [43,45]))]),w_ 3 r_1]
(.seq (.seq (g_ [v_ l_0,o_ (.len .str r_0),v_ l_3,o_ (.len .str r_2),o_ (.bin .sub r_1 r_3),o_ (.bin .gtr r_4 (i_ 1)),v_ r_5,x_ 6 (.mov l_3),x_ 6 (.bin .eql r_7 (.cst (.str []))),s_ 6 (.pick r_6 T_ r_8)])
(.cond l_6
(h_ [o_ (.build [(.bool false),(.sl .nil [])] []),o_ (.store 2 l_1 r_0),w_ 2 (i_ 4)]
.ret)
.skip))
(h_ [w_ 4 N_]
(.seq (.seq (g_ [v_ l_3,s_ 7 (.conv .strBytes r_0),s_ 8 (.len .sl r_1),w_ 9 (i_ 0)])
(.block 0
(.loop t54L0)))
(h_ [v_ l_0,o_ (.indexS r_0 (i_ 0)),o_ (.bin .eql r_1 (.cst (.int .u8 45))),v_ l_4,c_ 83 [r_2,r_3],o_ (.store 2 l_1 r_4),w_ 2 (i_ 0)]
.ret))))))⟩
def a55:Ann:=⟨[0,1,3,4,5,6,7,9,15,21,26,27,28,29],[3],[(4,1)],[],[]⟩
def t55L0:aL:=(.seq (g_ [s_ 13 (.bin .lss mN gJ)])
(.seq (.cond jV
.skip
(.exit 0))
(.seq (.block 1
(h_ [o_ (.indexAddrS 1 eX mN),d_ r_0,w_ 7 r_1]
(g_ [v_ l_6,v_ l_7,o_ (.conv (.toInt .i64) r_1),c_ 59 [r_2],o_ (.lit false [(.int .u32 0)] 1 [(0,r_3)]),o_ (.append false 1 4 26 r_0 r_4),w_ 6 r_5])))
(g_ [o_ (.bin .add mN (i_ 1)),w_ 12 r_0]))))
def t55:aN:=⟨2,14,[.loc 3],
(h_ [o_ (.boxL 2 l_1),s_ 3 (.mov (.cst (.int .u32 0)))]
(.seq (.seq (g_ [o_ (.loadN 2 l_2),c_ 74 [r_0],v_ r_1,o_ (.extract 0 r_2),o_ (.extract 1 r_2),w_ 4 r_3,w_ 5 r_4])
(h_ [w_ 8 l_5]
(.cond l_8
(h_ [v_ l_4,c_ 59 [r_0],w_ 3 r_1]
.ret)
.skip)))
(h_ [c_ 59 [(i_ 0)],o_ (.lit true [(.int .u32 0)] 1 [(0,r_0)]),w_ 6 r_1]
(.seq (.seq (g_ [f_ 0 l_2,s_ 9 (.load1 r_0)])
(.cond l_9
(g_ [v_ l_6,c_ 59 [(i_ 1)],o_ (.indexAddrS 1 r_0 (i_ 0)),o_ (.store 1 r_2 r_1)])
.skip))
(.seq (.seq (g_ [f_ 1 l_2,s_ 10 (.load1 r_0),s_ 11 (.len .sl r_1),w_ 12 (i_ 0)])
(.block 0
(.loop t55L0)))
(h_ [v_ l_0,v_ l_6,o_ (.call false false 25 [r_0,(i_ 7),r_1]),w_ 3 r_2]
.ret))))))⟩
def a56:Ann:=⟨[0,2],[],[],[],[]⟩
def t56:aN:=⟨1,2,[.loc 1],
(h_ [s_ 1 (.mov (.cst (.int .u32 0)))]
(h_ [v_ l_0,o_ (.conv (.toInt .u32) r_0),o_ (.bin .shl r_1 (.cst (.int .u64 4))),o_ (.bin .or r_2 (.cst (.int .u32 2))),w_ 1 r_3]
.ret))⟩
def a57:Ann:=⟨[0,1,4,5,7,9,15,16,17,18],[],[],[],[]⟩
def t57L0:aL:=(.seq (g_ [s_ 9 (.bin .lss l_8 l_7)])
(.seq (.cond l_9
.skip
(.exit 0))
(.seq (.block 1
(h_ [o_ (.indexAddrS 1 l_6 l_8),d_ r_0,w_ 5 r_1]
(g_ [v_ l_4,v_ l_5,c_ 56 [r_1],o_ (.lit false [(.int .u32 0)] 1 [(0,r_2)]),o_ (.append false 1 4 26 r_0 r_3),w_ 4 r_4])))
(g_ [o_ (.bin .add l_8 (i_ 1)),w_ 8 r_0]))))
def t57:aN:=⟨2,10,[.loc 2],
(h_ [s_ 2 (.mov (.cst (.int .u32 0)))]
(h_ [v_ l_1,c_ 52 [r_0],v_ r_1,o_ (.extract 0 r_2),o_ (.extract 1 r_2),w_ 3 r_3,v_ r_4]
(h_ [w_ 4 N_]
(.seq (.seq (g_ [w_ 6 l_3,s_ 7 (.len .sl r_0),w_ 8 (i_ 0)])
(.block 0
(.loop t57L0)))
(h_ [v_ l_0,v_ l_4,o_ (.call false false 25 [r_0,(i_ 4),r_1]),w_ 2 r_2]
.ret)))))⟩
def a58:Ann:=⟨[0,1,4,5,6,7,17],[5],[],[],[]⟩
def t58:aN:=⟨2,7,[.loc 2],
(h_ [s_ 2 (.mov (.cst (.int .u32 0)))]
(.seq (.seq (g_ [v_ l_0,o_ (.nilCheck r_0),f_ 2 r_1,d_ r_2,v_ l_1,o_ (.lookup (.leaf .str) (.agg [(.int .u32 0)]) true r_3 r_4),v_ r_5,o_ (.extract 0 r_6),o_ (.extract 1 r_6),o_ (.allocL 3 [(.int .u32 0)]),o_ (.store 1 r_9 r_7),w_ 4 r_8])
(h_ [w_ 6 l_4]
(.cond l_6
(h_ [f_ 0 l_3,d_ r_0,w_ 2 r_1]
.ret)
.skip)))
(h_ [v_ l_0,v_ l_0,v_ l_1,o_ (.call false false 57 [r_1,r_2]),o_ (.lit false [(.int .u32 0)] 1 [(0,r_3)]),o_ (.call false false 25 [r_0,(i_ 5),r_4]),w_ 5 r_5]
(h_ [v_ l_0,o_ (.nilCheck r_0),f_ 2 r_1,d_ r_2,v_ l_1,v_ l_5,o_ (.build [(.int .u32 0)] [(0,1,r_5)]),o_ (.update (.leaf .str) r_3 r_4 r_6)]
(h_ [v_ l_0,v_ l_0,o_ (.nilCheck r_1),f_ 3 r_2,d_ r_3,v_ l_5,o_ (.lit false [(.int .u32 0)] 1 [(0,r_5)]),o_ (.append false 1 4 26 r_4 r_6),o_ (.nilCheck r_0),f_ 3 r_8,o_ (.store 1 r_9 r_7)]
(h_ [v_ l_5,w_ 2 r_0]
.ret))))))⟩
def a59:Ann:=⟨[0,2],[],[],[],[]⟩
def t59:aN:=⟨1,2,[.loc 1],
(h_ [s_ 1 (.mov (.cst (.int .u32 0)))]
(h_ [v_ l_0,o_ (.conv (.toInt .u32) r_0),o_ (.bin .shl r_1 (.cst (.int .u64 2))),w_ 1 r_2]
.ret))⟩
def a60:Ann:=⟨[0,1,2],[],[],[],[]⟩
def t60:aN:=⟨1,3,[.loc 2],
(h_ [s_ 1 (.boxH 26 l_0),s_ 2 (.mov (.cst .nilf))]
(h_ [o_ (.mkFn 84 [] [l_1]),w_ 2 r_0]
.ret))⟩
def a67:Ann:=⟨[0,1,2,3,4,5,6,12,15,26,38],[1],[(11,3)],[],[]⟩
def t67L0:aL:=(.seq (.seq (g_ [v_ l_3,o_ (.len .sl r_0),s_ 8 (.bin .gtr r_1 (i_ 0))])
(.cond l_8
.skip
(.exit 0)))
(.block 1
(h_ [s_ 5 (.mov (.cst (.int .u32 0)))]
(h_ [v_ l_3,c_ 92 [r_0,(.cst (.int .u32 10000))],v_ r_1,o_ (.extract 0 r_2),o_ (.extract 1 r_2),w_ 3 r_3,w_ 5 r_4]
(h_ [v_ l_5,o_ (.conv (.toInt .i64) r_0),c_ 93 [r_1],w_ 6 r_2]
(.seq (.seq (g_ [v_ l_3,o_ (.len .sl r_0),s_ 9 (.bin .gtr r_1 (i_ 0))])
(.cond l_9
(g_ [v_ l_6,o_ (.len .str r_0),o_ (.bin .sub (i_ 4) r_1),o_ (.call true false 94 [(.cst (.str [48])),r_2]),v_ l_6,o_ (.bin .add r_3 r_4),w_ 6 r_5])
.skip))
(g_ [v_ l_4,v_ l_6,o_ (.lit false [(.str [])] 1 [(0,r_1)]),o_ (.append true 1 16 9 r_0 r_2),w_ 4 r_3])))))))
def t67:aN:=⟨1,11,[.loc 2],
(h_ [o_ (.boxL 1 l_0),s_ 2 (.mov (.cst (.str [])))]
(h_ [f_ 1 l_1,d_ r_0,c_ 81 [r_1],w_ 3 r_2]
(.seq (.seq (g_ [v_ l_3,o_ (.len .sl r_0),s_ 7 (.bin .eql r_1 (i_ 0))])
(.cond l_7
(h_ [s_ 2 (.mov (.cst (.str [48])))]
.ret)
.skip))
(h_ [w_ 4 N_]
(.seq (.block 0
(.loop t67L0))
(.seq (.seq (g_ [f_ 0 l_1,s_ 10 (.load1 r_0)])
(.cond eX
(g_ [v_ l_4,o_ (.lit false [(.str [])] 1 [(0,(.cst (.str [45])))]),o_ (.append false 1 16 9 r_0 r_1),w_ 4 r_2])
.skip))
(h_ [v_ l_4,o_ (.call false false 95 [r_0])]
(h_ [v_ l_4,o_ (.call true false 96 [r_0,(.cst (.str []))]),w_ 2 r_1]
.ret))))))))⟩
def a68:Ann:=⟨[0,2,3,4,8,12],[2],[],[],[]⟩
def t68L0:aL:=(.seq (.seq (g_ [v_ l_2,s_ 5 (.bin .neq r_0 (.cst (.int .u64 0)))])
(.cond l_5
.skip
(.exit 0)))
(.seq (.block 1
(g_ [v_ l_3,v_ l_2,o_ (.conv (.toInt .u16) r_1),o_ (.lit false [(.int .u16 0)] 1 [(0,r_2)]),o_ (.append false 1 2 84 r_0 r_3),w_ 3 r_4]))
(g_ [v_ l_2,o_ (.bin .shr r_0 (.cst (.int .u64 16))),w_ 2 r_1])))
def t68:aN:=⟨1,6,[.cell 1 2 true],
(h_ [o_ (.allocL 1 [(.bool false),(.sl .nil [])])]
(h_ [v_ l_0,o_ (.conv (.toInt .u64) r_0),w_ 2 r_1]
(.seq (.seq (g_ [v_ l_0,s_ 4 (.bin .lss r_0 (i_ 0))])
(.cond l_4
(g_ [v_ l_2,o_ (.un .neg r_0),w_ 2 r_1])
.skip))
(h_ [w_ 3 N_]
(.seq (.block 0
(.loop t68L0))
(h_ [v_ l_0,o_ (.bin .lss r_0 (i_ 0)),v_ l_3,c_ 83 [r_1,r_2],o_ (.store 2 l_1 r_3)]
.ret))))))⟩
def a69:Ann:=⟨[0,2,12],[],[],[],[]⟩
def t69:aN:=⟨1,3,[.loc 1],
(h_ [w_ 1 (i_ 0)]
(.seq (.seq (g_ [v_ l_0,o_ (.bin .and r_0 (.cst (.int .u32 15))),o_ (.bin .neq r_1 (.cst (.int .u32 2))),v_ r_2,x_ 3 (.mov l_0),x_ 3 (.bin .shr r_4 (.cst (.int .u64 4))),x_ 3 (.conv (.toInt .i64) r_5),x_ 3 (.call true false 51 [r_6]),x_ 3 (.un .not r_7),s_ 2 (.pick r_3 T_ r_8)])
(.cond l_2
(h_ [s_ 1 (.mov (i_ (-1)))]
.ret)
.skip))
(h_ [v_ l_0,o_ (.bin .shr r_0 (.cst (.int .u64 4))),o_ (.conv (.toInt .i64) r_1),w_ 1 r_2]
.ret)))⟩
def a70:Ann:=⟨[0,1,3,4,6,8,9,10],[4],[],[],[]⟩
def t70:aN:=⟨2,8,[.cell 3 5 true],
(h_ [s_ 2 (.boxH 38 l_1),o_ (.allocL 3 [(.int .i64 0),(.int .i64 0),(.str []),(.sl .nil []),(.int .i64 0)])]
(.seq (.seq (g_ [v_ l_0,s_ 5 (.call false false 97 [r_0])])
(.block 0
(.rangeFunc l_5 [6,7]
(g_ [s_ 4 (.allocH 38 [(.int .i64 0),(.int .i64 0),(.str []),(.sl .nil []),(.int .i64 0)]),o_ (.store 5 r_0 l_7)])
(.block 1
(g_ [o_ (.loadN 5 l_4),o_ (.loadN 5 l_2),o_ (.lit false [(.int .i64 0),(.int .i64 0),(.str []),(.sl .nil []),(.int .i64 0)] 2 [(0,r_0),(1,r_1)]),f_ 4 l_4,d_ r_3,o_ (.build [(.int .i64 0),(.int .i64 0),(.str []),(.sl .nil []),(.int .i64 0)] [(0,1,(i_ 6)),(3,1,r_2),(4,1,r_4)]),o_ (.store 5 l_2 r_5)])))))
(h_ [o_ (.loadN 5 l_2),o_ (.store 5 l_3 r_0)]
.ret)))⟩
def a71:Ann:=⟨[0,1,4,5,6],[],[],[],[]⟩
def t71:aN:=⟨2,5,[.loc 2,.loc 3],
(h_ [w_ 2 (i_ 0),s_ 3 (.mov (.cst .nili))]
(h_ [v_ l_0,o_ (.prim 98 [r_0])]
(h_ [v_ l_0,o_ (.nilCheck r_0),f_ 1 r_1,d_ r_2,o_ (.len .sl r_3),w_ 4 r_4]
(h_ [v_ l_0,v_ l_0,o_ (.nilCheck r_1),f_ 1 r_2,d_ r_3,v_ l_1,o_ (.call false false 99 [r_4,r_5]),o_ (.nilCheck r_0),f_ 1 r_7,o_ (.store 1 r_8 r_6)]
(h_ [v_ l_0,o_ (.nilCheck r_0),f_ 1 r_1,d_ r_2,o_ (.len .sl r_3),v_ l_4,o_ (.bin .sub r_4 r_5),w_ 2 r_6,s_ 3 (.mov (.cst .nili))]
.ret)))))⟩
def a73:Ann:=⟨[0,1,4,19],[],[],[],[]⟩
def t73:aN:=⟨2,4,[.loc 2],
(h_ [w_ 2 (i_ 0)]
(.seq (.seq (g_ [v_ l_0,o_ (.bin .and r_0 (.cst (.int .u32 3))),o_ (.bin .neq r_1 (.cst (.int .u32 0))),v_ r_2,x_ 3 (.mov l_0),x_ 3 (.conv (.toInt .i32) r_4),x_ 3 (.bin .lss r_5 (.cst (.int .i32 0))),o_ (.pick r_3 T_ r_6),v_ r_7,x_ 8 (.mov l_0),x_ 8 (.bin .shr r_9 (.cst (.int .u64 2))),x_ 8 (.conv (.toInt .i64) gR),x_ 8 (.mov l_1),x_ 8 (.bin .gtr jE nP),s_ 3 (.pick r_8 T_ mM)])
(.cond l_3
(h_ [s_ 2 (.mov (i_ (-1)))]
.ret)
.skip))
(h_ [v_ l_0,o_ (.bin .shr r_0 (.cst (.int .u64 2))),o_ (.conv (.toInt .i64) r_1),w_ 2 r_2]
.ret)))⟩
def a74:Ann:=⟨[0,1,2,3,4,5,20],[1],[],[],[]⟩
def t74:aN:=⟨1,7,[.loc 2,.loc 3],
(h_ [o_ (.boxL 1 l_0),w_ 2 (i_ 0),w_ 3 F_]
(h_ [o_ (.loadN 2 l_1),c_ 100 [r_0],v_ r_1,o_ (.extract 0 r_2),o_ (.extract 1 r_2),w_ 4 r_3,w_ 5 r_4]
(.seq (.seq (g_ [v_ l_5,o_ (.un .not r_0),v_ r_1,x_ 2 (.mov l_4),x_ 2 (.bin .lss r_3 (i_ (-536870912))),o_ (.pick r_2 T_ r_4),v_ r_5,x_ 6 (.mov l_4),x_ 6 (.bin .gtr r_7 (i_ 536870911)),s_ 6 (.pick r_6 T_ r_8)])
(.cond l_6
(h_ [w_ 2 (i_ 0),w_ 3 F_]
.ret)
.skip))
(h_ [v_ l_4,w_ 2 r_0,w_ 3 T_]
.ret))))⟩
def a75:Ann:=⟨[0,1,4],[],[],[],[]⟩
def t75:aN:=⟨2,3,[.loc 2],
(h_ [s_ 2 (.mov (.cst (.str [])))]
(h_ [v_ l_0,v_ l_1,c_ 101 [r_0,r_1],w_ 2 r_2]
.ret))⟩
def a76:Ann:=⟨[0,1,4],[],[],[],[]⟩
def t76:aN:=⟨2,3,[.loc 2],
(h_ [w_ 2 F_]
(h_ [v_ l_0,v_ l_1,o_ (.call false false 102 [r_0,r_1]),o_ (.bin .geq r_2 (i_ 0)),w_ 2 r_3]
.ret))⟩
def a77:Ann:=⟨[0,2],[],[],[],[]⟩
def t77:aN:=⟨1,2,[.loc 1],
(h_ [w_ 1 F_]
(h_ [v_ l_0,o_ (.bin .lss r_0 (.cst (.int .i32 48))),v_ r_1,x_ 2 (.mov l_0),x_ 2 (.bin .gtr r_3 (.cst (.int .i32 57))),o_ (.pick r_2 T_ r_4),w_ 1 r_5]
.ret))⟩
def a78:Ann:=⟨[0,2,3,10],[],[],[],[]⟩
def t78:aN:=⟨1,4,[.loc 1],
(h_ [w_ 1 F_]
(.seq (.block 0
(h_ [v_ l_0,o_ (.bin .leq (.cst (.int .i32 0)) r_0),v_ r_1,y_ 2 (.mov l_0),y_ 2 (.bin .lss r_3 (.cst (.int .i32 55296))),o_ (.pick r_2 r_4 F_),w_ 2 r_5]
(.cond l_2
(h_ [w_ 1 T_]
.ret)
(h_ [v_ l_0,o_ (.bin .lss (.cst (.int .i32 57343)) r_0),v_ r_1,y_ 2 (.mov l_0),y_ 2 (.bin .leq r_3 (.cst (.int .i32 1114111))),o_ (.pick r_2 r_4 F_),w_ 3 r_5]
(.cond l_3
(h_ [w_ 1 T_]
.ret)
.skip)))))
(h_ [w_ 1 F_]
.ret)))⟩
def a79:Ann:=⟨[0,2,3,4,5,6,8,11,12,13,17,27],[3],[],[],[]⟩
def t79L0:aL:=(.seq (g_ [s_ 8 (.nextS l_7),s_ 9 (.extract 0 r_0)])
(.seq (.cond l_9
.skip
(.exit 0))
(.block 1
(h_ [o_ (.extract 1 l_8),o_ (.extract 2 l_8),w_ 4 r_0,w_ 5 r_1]
(.seq (.seq (g_ [v_ l_5,s_ 10 (.bin .eql r_0 (.cst (.int .i32 65533)))])
(.cond eX
(h_ [v_ l_0,v_ l_4,o_ (.slice (.sl 1) r_0 (some r_1) none none),c_ 103 [r_2],v_ r_3,o_ (.extract 0 r_4),o_ (.extract 1 r_4),v_ r_5,w_ 6 r_6]
(h_ [v_ l_5,v_ l_6,s_ 11 (.call true false 104 [r_0,r_1])]
(.cond gJ
(h_ [v_ l_4,o_ (.build [(.int .i64 0),(.int .i64 0)] [(0,1,(i_ 4)),(1,1,r_0)]),w_ 1 N_,o_ (.store 2 l_2 r_1)]
.ret)
.skip)))
.skip))
(g_ [v_ l_3,v_ l_5,o_ (.conv (.toInt .i64) r_1),v_ l_4,o_ (.build [(.int .i64 0),(.int .i64 0)] [(0,1,r_2),(1,1,r_3)]),o_ (.lit false [(.int .i64 0),(.int .i64 0)] 1 [(0,r_4)]),o_ (.append false 2 16 132 r_0 r_5),w_ 3 r_6]))))))
def t79:aN:=⟨1,12,[.loc 1,.cell 2 2 true],
(h_ [w_ 1 N_,o_ (.allocL 2 [(.int .i64 0),(.int .i64 0)])]
(h_ [w_ 3 N_]
(.seq (.seq (g_ [v_ l_0,o_ (.conv .bytesStr r_0),s_ 7 (.range true r_1)])
(.block 0
(.loop t79L0)))
(h_ [v_ l_3,o_ (.build [(.int .i64 0),(.int .i64 0)] []),w_ 1 r_0,o_ (.store 2 l_2 r_1)]
.ret))))⟩
def a80:Ann:=⟨[0,1,4,5,6,12,21,31],[],[],[],[]⟩
def t80:aN:=⟨2,8,[.loc 2],
(h_ [s_ 2 (.mov (.cst (.str [])))]
(.seq (.seq (g_ [v_ l_0,o_ (.bin .eql r_0 (.cst (.str []))),v_ r_1,x_ 2 (.mov l_1),x_ 2 (.bin .eql r_3 (.cst (.str []))),s_ 5 (.pick r_2 T_ r_4)])
(.cond l_5
(h_ [v_ l_0,w_ 2 r_0]
.ret)
.skip))
(.seq (.seq (g_ [v_ l_1,o_ (.len .str r_0),o_ (.bin .eql r_1 (i_ 1)),v_ r_2,y_ 3 (.mov l_1),y_ 3 (.indexS r_4 (i_ 0)),y_ 3 (.bin .lss r_5 (.cst (.int .u8 128))),s_ 6 (.pick r_3 r_6 F_)])
(.cond l_6
(h_ [v_ l_0,v_ l_1,o_ (.indexS r_1 (i_ 0)),c_ 105 [r_0,r_2],w_ 2 r_3]
.ret)
.skip))
(.seq (.seq (g_ [v_ l_1,c_ 106 [r_0],v_ r_1,o_ (.extract 0 r_2),o_ (.extract 1 r_2),s_ 3 (.allocH 173 [(.bool false),(.bool false),(.bool false),(.bool false),(.bool false),(.bool false),(.bool false),(.bool false),(.bool false),(.bool false),(.bool false),(.bool false),(.bool false),(.bool false),(.bool false),(.bool false),(.bool false),(.bool false),(.bool false),(.bool false),(.bool false),(.bool false),(.bool false),(.bool false),(.bool false),(.bool false),(.bool false),(.bool false),(.bool false),(.bool false),(.bool false),(.bool false),(.bool false),(.bool false),(.bool false),(.bool false),(.bool false),(.bool false),(.bool false),(.bool false),(.bool false),(.bool false),(.bool false),(.bool false),(.bool false),(.bool false),(.bool false),(.bool false),(.bool false),(.bool false),(.bool false),(.bool false),(.bool false),(.bool false),(.bool false),(.bool false),(.bool false),(.bool false),(.bool false),(.bool false),(.bool false),(.bool false),(.bool false),(.bool false),(.bool false),(.bool false),(.bool false),(.bool false),(.bool false),(.bool false),(.bool false),(.bool false),(.bool false),(.bool false),(.bool false),(.bool false),(.bool false),(.bool false),(.bool false),(.bool false),(.bool false),(.bool false),(.bool false),(.bool false),(.bool false),(.bool false),(.bool false),(.bool false),(.bool false),(.bool false),(.bool false),(.bool false),(.bool false),(.bool false),(.bool false),(.bool false),(.bool false),(.bool false),(.bool false),(.bool false),(.bool false),(.bool false),(.bool false),(.bool false),(.bool false),(.bool false),(.bool false),(.bool false),(.bool false),(.bool false),(.bool false),(.bool false),(.bool false),(.bool false),(.bool false),(.bool false),(.bool false),(.bool false),(.bool false),(.bool false),(.bool false),(.bool false),(.bool false),(.bool false),(.bool false),(.bool false),(.bool false),(.bool false),(.bool false),(.bool false),(.bool false),(.bool false),(.bool false),(.bool false),(.bool false),(.bool false),(.bool false),(.bool false),(.bool false),(.bool false),(.bool false),(.bool false),(.bool false),(.bool false),(.bool false),(.bool false),(.bool false),(.bool false),(.bool false),(.bool false),(.bool false),(.bool false),(.bool false),(.bool false),(.bool false),(.bool false),(.bool false),(.bool false),(.bool false),(.bool false),(.bool false),(.bool false),(.bool false),(.bool false),(.bool false),(.bool false),(.bool false),(.bool false),(.bool false),(.bool false),(.bool false),(.bool false),(.bool false),(.bool false),(.bool false),(.bool false),(.bool false),(.bool false),(.bool false),(.bool false),(.bool false),(.bool false),(.bool false),(.bool false),(.bool false),(.bool false),(.bool false),(.bool false),(.bool false),(.bool false),(.bool false),(.bool false),(.bool false),(.bool false),(.bool false),(.bool false),(.bool false),(.bool false),(.bool false),(.bool false),(.bool false),(.bool false),(.bool false),(.bool false),(.bool false),(.bool false),(.bool false),(.bool false),(.bool false),(.bool false),(.bool false),(.bool false),(.bool false),(.bool false),(.bool false),(.bool false),(.bool false),(.bool false),(.bool false),(.bool false),(.bool false),(.bool false),(.bool false),(.bool false),(.bool false),(.bool false),(.bool false),(.bool false),(.bool false),(.bool false),(.bool false),(.bool false),(.bool false),(.bool false),(.bool false),(.bool false),(.bool false),(.bool false),(.bool false),(.bool false),(.bool false),(.bool false),(.bool false),(.bool false),(.bool false),(.bool false),(.bool false),(.bool false),(.bool false),(.bool false),(.bool false),(.bool false),(.bool false),(.bool false),(.bool false),(.bool false)]),o_ (.store 256 r_5 r_3),w_ 4 r_4])
(h_ [w_ 7 l_4]
(.cond l_7
(h_ [v_ l_0,o_ (.call false false 107 [r_0,l_3]),w_ 2 r_1]
.ret)
.skip)))
(h_ [v_ l_0,v_ l_1,c_ 108 [r_0,r_1],w_ 2 r_2]
.ret)))))⟩
def a81:Ann:=⟨[0,2,14],[],[],[],[]⟩
def t81L0:aL:=(.seq (.seq (g_ [v_ l_0,o_ (.len .sl r_0),o_ (.bin .gtr r_1 (i_ 0)),v_ r_2,y_ 3 (.mov l_0),y_ 3 (.mov l_0),y_ 3 (.len .sl r_5),y_ 3 (.bin .sub r_6 (i_ 1)),y_ 3 (.indexAddrS 1 r_4 r_7),y_ 3 (.load1 r_8),y_ 3 (.bin .eql r_9 (.cst (.int .u16 0))),s_ 2 (.pick r_3 gR F_)])
(.cond l_2
.skip
(.exit 0)))
(.block 1
(g_ [v_ l_0,v_ l_0,o_ (.len .sl r_1),o_ (.bin .sub r_2 (i_ 1)),o_ (.slice (.sl 1) r_0 none (some r_3) none),w_ 0 r_4])))
def t81:aN:=⟨1,3,[.loc 1],
(h_ [w_ 1 N_]
(.seq (.block 0
(.loop t81L0))
(h_ [v_ l_0,w_ 1 r_0]
.ret)))⟩
def a82:Ann:=⟨[0,1,2,6,7,9,10,11,12,13],[],[],[],[]⟩
def t82L0:aL:=(.seq (g_ [s_ 9 (.bin .lss l_8 l_7)])
(.seq (.cond l_9
.skip
(.exit 0))
(.seq (.block 1
(h_ [o_ (.indexAddrS 1 l_6 l_8),d_ r_0,w_ 5 r_1]
(h_ [v_ l_2,v_ l_5,o_ (.conv (.toInt .u32) r_1),v_ l_1,o_ (.bin .mul r_2 r_3),o_ (.bin .add r_0 r_4),w_ 2 r_5]
(h_ [v_ l_4,v_ l_2,o_ (.conv (.toInt .u16) r_1),o_ (.lit false [(.int .u16 0)] 1 [(0,r_2)]),o_ (.append false 1 2 84 r_0 r_3),w_ 4 r_4]
(g_ [v_ l_2,o_ (.bin .shr r_0 (.cst (.int .u64 16))),w_ 2 r_1])))))
(g_ [o_ (.bin .add l_8 (i_ 1)),w_ 8 r_0]))))
def t82:aN:=⟨3,10,[.loc 3],
(h_ [w_ 3 N_]
(h_ [w_ 4 N_]
(.seq (.seq (g_ [w_ 6 l_0,s_ 7 (.len .sl r_0),w_ 8 (i_ 0)])
(.block 0
(.loop t82L0)))
(h_ [v_ l_4,v_ l_2,o_ (.conv (.toInt .u16) r_1),o_ (.lit false [(.int .u16 0)] 1 [(0,r_2)]),o_ (.append false 1 2 84 r_0 r_3),w_ 3 r_4]
.ret))))⟩
def a83:Ann:=⟨[0,1,4],[4],[],[],[]⟩
def t83:aN:=⟨2,3,[.cell 2 2 true],
(h_ [o_ (.allocL 2 [(.bool false),(.sl .nil [])])]
(h_ [v_ l_1,c_ 81 [r_0],w_ 1 r_1]
(h_ [v_ l_0,v_ r_0,y_ 1 (.mov l_1),y_ 1 (.len .sl r_2),y_ 1 (.bin .gtr r_3 (i_ 0)),o_ (.pick r_1 r_4 F_),v_ l_1,o_ (.build [(.bool false),(.sl .nil [])] [(0,1,r_5),(1,1,r_6)]),o_ (.store 2 l_2 r_7)]
.ret)))⟩
def a84:Ann:=⟨[0,1,3,8,18],[],[],[],[]⟩
def t84L0:aL:=(.seq (.seq (g_ [v_ l_2,s_ 3 (.bin .geq r_0 (i_ 0))])
(.cond l_3
.skip
(.exit 0)))
(.seq (.block 1
(h_ [v_ l_0,v_ l_2,d_ l_1,v_ l_2,o_ (.indexAddrS 1 r_2 r_3),d_ r_4,o_ (.callv r_0 [r_1,r_5]),s_ 4 (.un .not r_6)]
(.cond l_4
.ret
.skip)))
(g_ [v_ l_2,o_ (.bin .sub r_0 (i_ 1)),w_ 2 r_1])))
def t84:aN:=⟨2,5,[],
(h_ [d_ l_1,o_ (.len .sl r_0),o_ (.bin .sub r_1 (i_ 1)),w_ 2 r_2]
(.block 0
(.loop t84L0)))⟩
def a92:Ann:=⟨[0,1,4,5,6,7,8,16],[],[],[],[]⟩
def t92L0:aL:=(.seq (.seq (g_ [v_ l_6,s_ 7 (.bin .geq r_0 (i_ 0))])
(.cond l_7
.skip
(.exit 0)))
(.seq (.block 1
(h_ [v_ l_5,o_ (.bin .shl r_0 (.cst (.int .u64 16))),v_ l_0,v_ l_6,o_ (.indexAddrS 1 r_2 r_3),d_ r_4,o_ (.conv (.toInt .u32) r_5),o_ (.bin .or r_1 r_6),w_ 5 r_7]
(h_ [v_ l_4,v_ l_6,v_ l_5,v_ l_1,o_ (.bin .quo r_2 r_3),o_ (.conv (.toInt .u16) r_4),o_ (.indexAddrS 1 r_0 r_1),o_ (.store 1 r_6 r_5)]
(g_ [v_ l_5,v_ l_1,o_ (.bin .rem r_0 r_1),w_ 5 r_2]))))
(g_ [v_ l_6,o_ (.bin .sub r_0 (i_ 1)),w_ 6 r_1])))
def t92:aN:=⟨2,8,[.loc 2,.loc 3],
(h_ [w_ 2 N_,s_ 3 (.mov (.cst (.int .u32 0)))]
(h_ [v_ l_0,o_ (.len .sl r_0),o_ (.mkSlice [(.int .u16 0)] 2 r_1 r_1),w_ 4 r_2,s_ 5 (.mov (.cst (.int .u32 0)))]
(.seq (.seq (g_ [v_ l_0,o_ (.len .sl r_0),o_ (.bin .sub r_1 (i_ 1)),w_ 6 r_2])
(.block 0
(.loop t92L0)))
(h_ [v_ l_4,c_ 81 [r_0],v_ l_5,w_ 2 r_1,w_ 3 r_2]
.ret))))⟩
def a93:Ann:=⟨[0,2],[],[],[],[]⟩
def t93:aN:=⟨1,2,[.loc 1],
(h_ [s_ 1 (.mov (.cst (.str [])))]
(h_ [v_ l_0,c_ 116 [r_0],w_ 1 r_1]
.ret))⟩
def a94:Ann:=⟨[0,1,4,5,6,7,8,9,10,11,12,14,18,34,40,42,43,49,58,67,76,85,96,104,113],[],[],[],[]⟩
def t94L0:aL:=(.seq (.seq (g_ [o_ (.call false false 121 [l_7]),v_ l_5,s_ 24 (.bin .lss r_0 r_1)])
(.cond bBs
.skip
(.exit 3)))
(.block 4
(h_ [v_ l_5,o_ (.call false false 121 [l_7]),o_ (.bin .sub r_0 r_1),o_ (.call false false 121 [l_7]),v_ l_6,o_ (.minmax false [r_2,r_3,r_4]),w_ 8 r_5]
(g_ [o_ (.prim 72 [l_7]),v_ l_8,o_ (.slice .str r_0 none (some r_1) none),o_ (.call false false 120 [l_7,r_2])]))))
def t94:aN:=⟨2,25,[.loc 2],
(h_ [s_ 2 (.mov (.cst (.str [])))]
(.seq (.seq (g_ [w_ 9 l_1])
(.block 0
(h_ [o_ (.bin .eql l_9 (i_ 0)),w_ 10 r_0]
(.cond eX
(h_ [s_ 2 (.mov (.cst (.str [])))]
.ret)
(h_ [o_ (.bin .eql l_9 (i_ 1)),w_ 11 r_0]
(.cond gJ
(h_ [v_ l_0,w_ 2 r_0]
.ret)
.skip))))))
(.seq (.seq (g_ [v_ l_1,s_ 12 (.bin .lss r_0 (i_ 0))])
(.cond mN
(g_ [o_ (.bad),o_ (.bad)])
.skip))
(h_ [v_ l_0,o_ (.len .str r_0),o_ (.conv (.toInt .u64) r_1),v_ l_1,o_ (.conv (.toInt .u64) r_3),c_ 117 [r_2,r_4],v_ r_5,o_ (.extract 0 r_6),o_ (.extract 1 r_6),w_ 3 r_7,w_ 4 r_8]
(.seq (.seq (g_ [v_ l_3,o_ (.bin .gtr r_0 (.cst (.int .u64 0))),v_ r_1,x_ 2 (.mov l_4),x_ 2 (.bin .gtr r_3 (.cst (.int .u64 9223372036854775807))),s_ 13 (.pick r_2 T_ r_4)])
(.cond jV
(g_ [o_ (.bad),o_ (.bad)])
.skip))
(h_ [v_ l_4,o_ (.conv (.toInt .i64) r_0),w_ 5 r_1]
(.seq (.seq (g_ [v_ l_0,o_ (.len .str r_0),s_ 14 (.bin .eql r_1 (i_ 0))])
(.cond uJ
(h_ [s_ 2 (.mov (.cst (.str [])))]
.ret)
.skip))
(.seq (.seq (g_ [v_ l_0,s_ 15 (.indexS r_0 (i_ 0))])
(.block 1
(.seq (.seq (g_ [o_ (.bin .eql tF (.cst (.int .u8 32))),w_ 16 r_0])
(.cond pQ
.skip
(h_ [o_ (.bin .eql tF (.cst (.int .u8 45))),w_ 16 r_0]
(.cond pQ
.skip
(h_ [o_ (.bin .eql tF (.cst (.int .u8 48))),w_ 16 r_0]
(.cond pQ
.skip
(h_ [o_ (.bin .eql tF (.cst (.int .u8 61))),w_ 16 r_0]
(.cond pQ
.skip
(g_ [o_ (.bin .eql tF (.cst (.int .u8 9))),w_ 16 r_0])))))))))
(.cond pQ
(.block 2
(h_ [v_ l_5,o_ (.bin .leq r_0 (i_ 128)),v_ r_1,y_ 2 (.mov l_0),y_ 2 (.call true false 118 [(.cst (.str [32,32,32,32,32,32,32,32,32,32,32,32,32,32,32,32,32,32,32,32,32,32,32,32,32,32,32,32,32,32,32,32,32,32,32,32,32,32,32,32,32,32,32,32,32,32,32,32,32,32,32,32,32,32,32,32,32,32,32,32,32,32,32,32,32,32,32,32,32,32,32,32,32,32,32,32,32,32,32,32,32,32,32,32,32,32,32,32,32,32,32,32,32,32,32,32,32,32,32,32,32,32,32,32,32,32,32,32,32,32,32,32,32,32,32,32,32,32,32,32,32,32,32,32,32,32,32,32])),r_3]),o_ (.pick r_2 r_4 F_),w_ 17 r_5]
(.cond aH1
(h_ [v_ l_5,o_ (.slice .str (.cst (.str [32,32,32,32,32,32,32,32,32,32,32,32,32,32,32,32,32,32,32,32,32,32,32,32,32,32,32,32,32,32,32,32,32,32,32,32,32,32,32,32,32,32,32,32,32,32,32,32,32,32,32,32,32,32,32,32,32,32,32,32,32,32,32,32,32,32,32,32,32,32,32,32,32,32,32,32,32,32,32,32,32,32,32,32,32,32,32,32,32,32,32,32,32,32,32,32,32,32,32,32,32,32,32,32,32,32,32,32,32,32,32,32,32,32,32,32,32,32,32,32,32,32,32,32,32,32,32,32])) none (some r_0) none),w_ 2 r_1]
.ret)
(h_ [v_ l_5,o_ (.bin .leq r_0 (i_ 128)),v_ r_1,y_ 2 (.mov l_0),y_ 2 (.call true false 118 [(.cst (.str [45,45,45,45,45,45,45,45,45,45,45,45,45,45,45,45,45,45,45,45,45,45,45,45,45,45,45,45,45,45,45,45,45,45,45,45,45,45,45,45,45,45,45,45,45,45,45,45,45,45,45,45,45,45,45,45,45,45,45,45,45,45,45,45,45,45,45,45,45,45,45,45,45,45,45,45,45,45,45,45,45,45,45,45,45,45,45,45,45,45,45,45,45,45,45,45,45,45,45,45,45,45,45,45,45,45,45,45,45,45,45,45,45,45,45,45,45,45,45,45,45,45,45,45,45,45,45,45])),r_3]),o_ (.pick r_2 r_4 F_),w_ 18 r_5]
(.cond wI
(h_ [v_ l_5,o_ (.slice .str (.cst (.str [45,45,45,45,45,45,45,45,45,45,45,45,45,45,45,45,45,45,45,45,45,45,45,45,45,45,45,45,45,45,45,45,45,45,45,45,45,45,45,45,45,45,45,45,45,45,45,45,45,45,45,45,45,45,45,45,45,45,45,45,45,45,45,45,45,45,45,45,45,45,45,45,45,45,45,45,45,45,45,45,45,45,45,45,45,45,45,45,45,45,45,45,45,45,45,45,45,45,45,45,45,45,45,45,45,45,45,45,45,45,45,45,45,45,45,45,45,45,45,45,45,45,45,45,45,45,45,45])) none (some r_0) none),w_ 2 r_1]
.ret)
(h_ [v_ l_5,o_ (.bin .leq r_0 (i_ 64)),v_ r_1,y_ 2 (.mov l_0),y_ 2 (.call true false 118 [(.cst (.str [48,48,48,48,48,48,48,48,48,48,48,48,48,48,48,48,48,48,48,48,48,48,48,48,48,48,48,48,48,48,48,48,48,48,48,48,48,48,48,48,48,48,48,48,48,48,48,48,48,48,48,48,48,48,48,48,48,48,48,48,48,48,48,48])),r_3]),o_ (.pick r_2 r_4 F_),w_ 19 r_5]
(.cond tG
(h_ [v_ l_5,o_ (.slice .str (.cst (.str [48,48,48,48,48,48,48,48,48,48,48,48,48,48,48,48,48,48,48,48,48,48,48,48,48,48,48,48,48,48,48,48,48,48,48,48,48,48,48,48,48,48,48,48,48,48,48,48,48,48,48,48,48,48,48,48,48,48,48,48,48,48,48,48])) none (some r_0) none),w_ 2 r_1]
.ret)
(h_ [v_ l_5,o_ (.bin .leq r_0 (i_ 128)),v_ r_1,y_ 2 (.mov l_0),y_ 2 (.call true false 118 [(.cst (.str [61,61,61,61,61,61,61,61,61,61,61,61,61,61,61,61,61,61,61,61,61,61,61,61,61,61,61,61,61,61,61,61,61,61,61,61,61,61,61,61,61,61,61,61,61,61,61,61,61,61,61,61,61,61,61,61,61,61,61,61,61,61,61,61,61,61,61,61,61,61,61,61,61,61,61,61,61,61,61,61,61,61,61,61,61,61,61,61,61,61,61,61,61,61,61,61,61,61,61,61,61,61,61,61,61,61,61,61,61,61,61,61,61,61,61,61,61,61,61,61,61,61,61,61,61,61,61,61])),r_3]),o_ (.pick r_2 r_4 F_),w_ 20 r_5]
(.cond aQj
(h_ [v_ l_5,o_ (.slice .str (.cst (.str [61,61,61,61,61,61,61,61,61,61,61,61,61,61,61,61,61,61,61,61,61,61,61,61,61,61,61,61,61,61,61,61,61,61,61,61,61,61,61,61,61,61,61,61,61,61,61,61,61,61,61,61,61,61,61,61,61,61,61,61,61,61,61,61,61,61,61,61,61,61,61,61,61,61,61,61,61,61,61,61,61,61,61,61,61,61,61,61,61,61,61,61,61,61,61,61,61,61,61,61,61,61,61,61,61,61,61,61,61,61,61,61,61,61,61,61,61,61,61,61,61,61,61,61,61,61,61,61])) none (some r_0) none),w_ 2 r_1]
.ret)
(h_ [v_ l_5,o_ (.bin .leq r_0 (i_ 64)),v_ r_1,y_ 2 (.mov l_0),y_ 2 (.call true false 118 [(.cst (.str [9,9,9,9,9,9,9,9,9,9,9,9,9,9,9,9,9,9,9,9,9,9,9,9,9,9,9,9,9,9,9,9,9,9,9,9,9,9,9,9,9,9,9,9,9,9,9,9,9,9,9,9,9,9,9,9,9,9,9,9,9,9,9,9])),r_3]),o_ (.pick r_2 r_4 F_),w_ 21 r_5]
(.cond bBq
(h_ [v_ l_5,o_ (.slice .str (.cst (.str [9,9,9,9,9,9,9,9,9,9,9,9,9,9,9,9,9,9,9,9,9,9,9,9,9,9,9,9,9,9,9,9,9,9,9,9,9,9,9,9,9,9,9,9,9,9,9,9,9,9,9,9,9,9,9,9,9,9,9,9,9,9,9,9])) none (some r_0) none),w_ 2 r_1]
.ret)
.skip)))))))))))
.skip))))
(h_ [v_ l_5,w_ 6 r_0]
(.seq (.seq (g_ [v_ l_5,s_ 22 (.bin .gtr r_0 (i_ 8192))])
(.cond aQk
(h_ [v_ l_0,o_ (.len .str r_0),o_ (.bin .quo (i_ 8192) r_1),v_ l_0,o_ (.len .str r_3),o_ (.bin .mul r_2 r_4),w_ 6 r_5]
(h_ [v_ l_6,s_ 23 (.bin .eql r_0 (i_ 0))]
(.cond bBr
(g_ [v_ l_0,o_ (.len .str r_0),w_ 6 r_1])
.skip)))
.skip))
(h_ [s_ 7 (.allocH 115 [.nilp,(.sl .nil [])])]
(h_ [v_ l_5,o_ (.call false false 119 [l_7,r_0])]
(h_ [v_ l_0,o_ (.call false false 120 [l_7,r_0])]
(.seq (.block 3
(.loop t94L0))
(h_ [o_ (.prim 72 [l_7]),w_ 2 r_0]
.ret)))))))))))))))⟩
def a95:Ann:=⟨[0,2,3,9],[],[],[],[(3,⟨[0,0,0,0,0,0,48,112,0,0,768,1792,4083,8179,16383,32767],[0,1,2,3,4,5,6,7,8,9,10,11,12],[(13,[],[14]),(15,[],[])]⟩)]⟩
def t95L0:aL:=(.seq (.seq (g_ [v_ l_1,v_ l_2,s_ 3 (.bin .lss r_0 r_1)])
(.cond l_3
.skip
(.exit 0)))
(.seq (.block 1
(.draw [0,1,2,3,4,5,6,7,8,9,10,11,12] [(13,[],[14]),(15,[],[])] [v_ l_0,v_ l_1,v_ l_0,v_ l_2,v_ l_0,v_ l_2,o_ (.indexAddrS 1 r_4 r_5),d_ r_6,v_ l_0,v_ l_1,o_ (.indexAddrS 1 r_8 r_9),d_ gR,o_ (.indexAddrS 1 r_0 r_1),o_ (.store 1 nP r_7),o_ (.indexAddrS 1 r_2 r_3),o_ (.store 1 wH jE)]))
(g_ [v_ l_1,o_ (.bin .add r_0 (i_ 1)),v_ l_2,o_ (.bin .sub r_2 (i_ 1)),w_ 1 r_1,w_ 2 r_3])))
def t95:aN:=⟨1,4,[],
(h_ [v_ l_0,o_ (.len .sl r_0),o_ (.bin .sub r_1 (i_ 1)),w_ 1 (i_ 0),w_ 2 r_2]
(.block 0
(.loop t95L0)))⟩
def a96:Ann:=⟨[0,1,4,5,7,8,10,12,13,15,22,29,39,40,41,42,49,63,64,65,66],[],[],[],[]⟩
def t96L0:aL:=(.seq (g_ [s_ 20 (.bin .lss tG wI)])
(.seq (.cond aQj
.skip
(.exit 3))
(.seq (.block 4
(h_ [o_ (.indexAddrS 1 aH1 tG),d_ r_0,w_ 6 r_1]
(h_ [v_ l_1,o_ (.call false false 120 [l_5,r_0])]
(g_ [v_ l_6,o_ (.call false false 120 [l_5,r_0])]))))
(g_ [o_ (.bin .add tG (i_ 1)),w_ 19 r_0]))))
def t96L1:aL:=(.seq (g_ [s_ 15 (.bin .lss uJ jV)])
(.seq (.cond tF
.skip
(.exit 1))
(.seq (.block 2
(h_ [o_ (.indexAddrS 1 mN uJ),d_ r_0,w_ 4 r_1]
(.seq (.seq (g_ [v_ l_4,o_ (.len .str r_0),v_ l_3,o_ (.bin .sub (i_ 9223372036854775807) r_2),s_ 16 (.bin .gtr r_1 r_3)])
(.cond pQ
(g_ [o_ (.bad),o_ (.bad)])
.skip))
(g_ [v_ l_3,v_ l_4,o_ (.len .str r_1),o_ (.bin .add r_0 r_2),w_ 3 r_3]))))
(g_ [o_ (.bin .add uJ (i_ 1)),w_ 14 r_0]))))
def t96:aN:=⟨2,21,[.loc 2],
(h_ [s_ 2 (.mov (.cst (.str [])))]
(.seq (.seq (g_ [v_ l_0,s_ 7 (.len .sl r_0)])
(.block 0
(h_ [o_ (.bin .eql l_7 (i_ 0)),w_ 8 r_0]
(.cond l_8
(h_ [s_ 2 (.mov (.cst (.str [])))]
.ret)
(h_ [o_ (.bin .eql l_7 (i_ 1)),w_ 9 r_0]
(.cond l_9
(h_ [v_ l_0,o_ (.indexAddrS 1 r_0 (i_ 0)),d_ r_1,w_ 2 r_2]
.ret)
.skip))))))
(h_ [w_ 3 (i_ 0)]
(.seq (.seq (g_ [v_ l_1,o_ (.len .str r_0),s_ 10 (.bin .gtr r_1 (i_ 0))])
(.cond eX
(.seq (.seq (g_ [v_ l_1,o_ (.len .str r_0),v_ l_0,o_ (.len .sl r_2),o_ (.bin .sub r_3 (i_ 1)),o_ (.bin .quo (i_ 9223372036854775807) r_4),s_ 11 (.bin .geq r_1 r_5)])
(.cond gJ
(g_ [o_ (.bad),o_ (.bad)])
.skip))
(g_ [v_ l_3,v_ l_1,o_ (.len .str r_1),v_ l_0,o_ (.len .sl r_3),o_ (.bin .sub r_4 (i_ 1)),o_ (.bin .mul r_2 r_5),o_ (.bin .add r_0 r_6),w_ 3 r_7]))
.skip))
(.seq (.seq (g_ [w_ 12 l_0,s_ 13 (.len .sl r_0),w_ 14 (i_ 0)])
(.block 1
(.loop t96L1)))
(h_ [s_ 5 (.allocH 115 [.nilp,(.sl .nil [])])]
(h_ [v_ l_3,o_ (.call false false 119 [l_5,r_0])]
(h_ [v_ l_0,o_ (.indexAddrS 1 r_0 (i_ 0)),d_ r_1,o_ (.call false false 120 [l_5,r_2])]
(.seq (.seq (g_ [v_ l_0,s_ 17 (.slice (.sl 1) r_0 (some (i_ 1)) none none),s_ 18 (.len .sl r_1),w_ 19 (i_ 0)])
(.block 3
(.loop t96L0)))
(h_ [o_ (.prim 72 [l_5]),w_ 2 r_0]
.ret))))))))))⟩
def a97:Ann:=⟨[0,1,2],[],[],[],[]⟩
def t97:aN:=⟨1,3,[.loc 2],
(h_ [s_ 1 (.boxH 23 l_0),s_ 2 (.mov (.cst .nilf))]
(h_ [o_ (.mkFn 122 [] [l_1]),w_ 2 r_0]
.ret))⟩
def a99:Ann:=⟨[0,1,4,7],[],[],[],[]⟩
def t99:aN:=⟨2,4,[.loc 2],
(h_ [w_ 2 N_]
(.seq (.seq (g_ [v_ l_1,o_ (.conv (.toInt .u32) r_0),s_ 3 (.bin .leq r_1 (.cst (.int .u32 127)))])
(.cond l_3
(h_ [v_ l_0,v_ l_1,o_ (.conv (.toInt .u8) r_1),o_ (.lit false [(.int .u8 0)] 1 [(0,r_2)]),o_ (.append false 1 1 5 r_0 r_3),w_ 2 r_4]
.ret)
.skip))
(h_ [v_ l_0,v_ l_1,o_ (.call false false 124 [r_0,r_1]),w_ 2 r_2]
.ret)))⟩
def a100:Ann:=⟨[0,1,2,3,4,5,7,13,15,16,17,23,33],[1],[],[],[]⟩
def t100:aN:=⟨1,13,[.loc 2,.loc 3],
(h_ [o_ (.boxL 1 l_0),w_ 2 (i_ 0),w_ 3 F_]
(h_ [f_ 1 l_1,d_ r_0,c_ 81 [r_1],w_ 4 r_2]
(.seq (.seq (g_ [v_ l_4,o_ (.len .sl r_0),s_ 7 (.bin .gtr r_1 (i_ 4))])
(.cond l_7
(h_ [w_ 2 (i_ 0),w_ 3 F_]
.ret)
.skip))
(h_ [s_ 5 (.allocH 159 [(.int .u64 0)]),o_ (.store 1 r_0 (.cst (.int .u64 0)))]
(.seq (.seq (g_ [v_ l_4,s_ 8 (.call false false 125 [r_0])])
(.block 0
(.rangeFunc l_8 [9,10]
(g_ [w_ 6 eX])
(.block 1
(g_ [d_ l_5,o_ (.bin .shl r_0 (.cst (.int .u64 16))),v_ l_6,o_ (.conv (.toInt .u64) r_2),o_ (.bin .or r_1 r_3),o_ (.store 1 l_5 r_4)])))))
(.seq (.block 2
(h_ [f_ 0 l_1,d_ r_0,v_ r_1,y_ 2 (.load1 l_5),y_ 2 (.bin .leq r_3 (.cst (.int .u64 9223372036854775808))),o_ (.pick r_2 r_4 F_),w_ 11 r_5]
(.cond gJ
(h_ [d_ l_5,o_ (.un .neg r_0),o_ (.conv (.toInt .i64) r_1),w_ 2 r_2,w_ 3 T_]
.ret)
(h_ [f_ 0 l_1,d_ r_0,o_ (.un .not r_1),v_ r_2,y_ 3 (.load1 l_5),y_ 3 (.bin .leq r_4 (.cst (.int .u64 9223372036854775807))),o_ (.pick r_3 r_5 F_),w_ 12 r_6]
(.cond mN
(h_ [d_ l_5,o_ (.conv (.toInt .i64) r_0),w_ 2 r_1,w_ 3 T_]
.ret)
.skip)))))
(h_ [w_ 2 (i_ 0),w_ 3 F_]
.ret)))))))⟩
end Go.Proofs.YtjbpbohpmfpoiaaGreatDoor
