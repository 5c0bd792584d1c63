/- The functions of this seat, compiled for the evaluator TM; each held against the translation by the kernel. By program. Condition: none. -/
import Derived.Test.YtjbpbohpmfpoiaaGreatDoorPrim
set_option maxRecDepth 100000
set_option linter.unusedVariables false
namespace Go.Proofs.YtjbpbohpmfpoiaaGreatDoor
open Go Go.TM
abbrev r_0:aF:=.reg 0
abbrev r_1:aF:=.reg 1
abbrev r_2:aF:=.reg 2
abbrev r_3:aF:=.reg 3
abbrev r_4:aF:=.reg 4
abbrev r_5:aF:=.reg 5
abbrev r_6:aF:=.reg 6
abbrev r_7:aF:=.reg 7
abbrev r_8:aF:=.reg 8
abbrev r_9:aF:=.reg 9
abbrev kR:aF:=.reg 10
abbrev mF:aF:=.reg 11
abbrev oA:aF:=.reg 12
abbrev aAv:aF:=.reg 13
abbrev aLv:aF:=.reg 14
abbrev aLw:aF:=.reg 15
abbrev aLx:aF:=.reg 16
abbrev aLy:aF:=.reg 17
abbrev bGq:aF:=.reg 18
abbrev bHv:aF:=.reg 19
abbrev bIr:aF:=.reg 20
abbrev l_0:aF:=.loc 0
abbrev l_1:aF:=.loc 1
abbrev l_2:aF:=.loc 2
abbrev l_3:aF:=.loc 3
abbrev l_4:aF:=.loc 4
abbrev l_5:aF:=.loc 5
abbrev l_6:aF:=.loc 6
abbrev l_7:aF:=.loc 7
abbrev l_8:aF:=.loc 8
abbrev l_9:aF:=.loc 9
abbrev gW:aF:=.loc 10
abbrev jS:aF:=.loc 11
abbrev uC:aF:=.loc 12
abbrev iK:aF:=.loc 13
abbrev vD:aF:=.loc 14
abbrev aIj:aF:=.loc 15
abbrev aIk:aF:=.loc 16
abbrev aRq:aF:=.loc 17
abbrev aRr:aF:=.loc 18
abbrev aRs:aF:=.loc 19
abbrev bGr:aF:=.loc 20
abbrev bGs:aF:=.loc 21
abbrev aYh:aF:=.loc 22
abbrev bHw:aF:=.loc 23
abbrev bIs:aF:=.loc 24
abbrev bIt:aF:=.loc 25
abbrev bHx:aF:=.loc 26
abbrev bIu:aF:=.loc 27
abbrev bHy:aF:=.loc 28
abbrev bGt:aF:=.loc 29
abbrev bHz:aF:=.loc 30
abbrev bIv:aF:=.loc 31
abbrev bIw:aF:=.loc 32
abbrev T_:aF:=.cst (.bool true)
abbrev F_:aF:=.cst (.bool false)
abbrev N_:aF:=.cst (.sl .nil [])
abbrev y_ (n:Nat) (x:TOp):aH:=⟨x, none, some (n, true)⟩
abbrev x_ (n:Nat) (x:TOp):aH:=⟨x, none, some (n, false)⟩
abbrev c_ (n:Nat) (l:List aF):aH:=⟨.call true false n l, none, none⟩
abbrev g_ (l:List aH):aJ:=.region l
abbrev h_ (l:List aH) (b:aJ):aJ:=.seq (.region l) b
abbrev v_ (x:aF):aH:=⟨.mov x, none, none⟩
abbrev w_ (n:Nat) (x:aF):aH:=⟨.mov x, some n, none⟩
abbrev d_ (x:aF):aH:=⟨.load1 x, none, none⟩
abbrev f_ (n:Nat) (x:aF):aH:=⟨.fieldAddr n x, none, none⟩
abbrev o_ (x:TOp):aH:=⟨x,none,none⟩
abbrev s_ (n:Nat) (x:TOp):aH:=⟨x,some n,none⟩
abbrev i_ (n:Int):aF:=.cst (.int .i64 n)
def opts:dD:=⟨fun f=>([16,20,21,24,25,26,30,31,32,33,34,36,37,40,42,43,44,45,46,47,48,49,55,57,58,60,65,70,71,72,76,84,87,88,90,91,95,97,98,99,102,107,113,119,120,121,122,124,125,127,129,138,139,145,168,169,170,171,172,173,174,175,176]:List Nat).contains f,fun f=>([72,98,147,159]:List Nat).contains f⟩
def a3:Ann:=⟨[0,1,4,5,6,7,8,9,10,11,12,14],[],[],[],[]⟩
def t3:aV:=⟨2,12,[.loc 2],
(h_ [w_ 2 F_]
(.seq (.seq (g_ [v_ l_0,s_ 11 (.call true false 6 [r_0])])
(.cond jS
(h_ [c_ 7 [],w_ 2 r_0]
.ret)
.skip))
(h_ [v_ l_0,v_ l_1,c_ 8 [r_0,r_1],v_ r_2,o_ (.extract 0 r_3),o_ (.extract 1 r_3),o_ (.extract 2 r_3),o_ (.extract 3 r_3),w_ 3 r_4,w_ 4 r_5,w_ 5 r_6,w_ 6 r_7]
(h_ [v_ l_0,v_ l_1,c_ 9 [r_0,r_1],v_ r_2,o_ (.extract 0 r_3),o_ (.extract 1 r_3),o_ (.extract 2 r_3),o_ (.extract 3 r_3),w_ 7 r_4,w_ 8 r_5,w_ 9 r_6,w_ 10 r_7]
(h_ [v_ l_6,v_ gW,o_ (.bin .eql r_0 r_1),v_ r_2,y_ 3 (.mov l_3),y_ 3 (.mov l_7),y_ 3 (.call true false 10 [r_4,r_5]),o_ (.pick r_3 r_6 F_),v_ r_7,y_ 8 (.mov l_4),y_ 8 (.mov l_8),y_ 8 (.call true false 10 [r_9,kR]),o_ (.pick r_8 mF F_),v_ oA,y_ 13 (.mov l_5),y_ 13 (.mov l_9),y_ 13 (.bin .eql aLv aLw),o_ (.pick aAv aLx F_),v_ aLy,y_ 18 (.call true false 7 []),o_ (.pick bGq bHv F_),w_ 2 bIr]
.ret)))))⟩
def a6:Ann:=⟨[0,2,3,11,19],[],[],[],[]⟩
def t6L0:aJ:=(.seq (.seq (g_ [v_ l_2,v_ l_0,o_ (.len .sl r_1),o_ (.bin .lss r_0 r_2),v_ r_3,y_ 4 (.mov l_2),y_ 4 (.bin .lss r_5 (i_ 30)),s_ 3 (.pick r_4 r_6 F_)])
(.cond l_3
.skip
(.exit 0)))
(.seq (.block 1
(h_ [v_ l_0,v_ l_2,o_ (.indexAddrS 5 r_0 r_1),o_ (.loadN 5 r_2),c_ 18 [r_3,(i_ 60)],s_ 4 (.bin .gtr r_4 (i_ 300))]
(.cond l_4
(h_ [w_ 1 T_]
.ret)
.skip)))
(g_ [v_ l_2,o_ (.bin .add r_0 (i_ 1)),w_ 2 r_1])))
def t6:aV:=⟨1,5,[.loc 1],
(h_ [w_ 1 F_]
(.seq (.seq (g_ [w_ 2 (i_ 0)])
(.block 0
(.loop t6L0)))
(h_ [v_ l_0,o_ (.len .sl r_0),o_ (.bin .gtr r_1 (i_ 20)),w_ 1 r_2]
.ret)))⟩
def a7:Ann:=⟨[0],[],[],[],[]⟩
def t7:aV:=⟨0,1,[.loc 0],
(h_ [w_ 0 F_]
(h_ [o_ (.lit false [(.int .u32 0)] 2 [(0,(.cst (.int .u32 51))),(1,(.cst (.int .u32 1554)))]),o_ (.lit false [(.int .u32 0)] 1 [(0,(.cst (.int .u32 401)))]),o_ (.call true false 14 [(.cst (.str [97]))]),o_ (.lit false [(.int .i64 0),(.int .i64 0),(.str []),(.sl .nil []),(.int .i64 0)] 1 [(0,r_2)]),c_ 15 [r_0,r_1,(.cst (.int .u32 38)),r_3],v_ r_4,y_ 5 (.lit false [(.int .u32 0)] 7 [(0,(.cst (.int .u32 51))),(1,(.cst (.int .u32 1842))),(2,(.cst (.int .u32 55))),(3,(.cst (.int .u32 401))),(4,(.cst (.int .u32 67))),(5,(.cst (.int .u32 409))),(6,(.cst (.int .u32 38)))]),y_ 5 (.lit false [(.int .u32 0)] 2 [(0,(.cst (.int .u32 409))),(1,(.cst (.int .u32 409)))]),y_ 5 (.call true false 19 [(.cst (.str [115]))]),y_ 5 (.call true false 19 [(.cst (.str [115]))]),y_ 5 (.lit false [(.int .i64 0),(.int .i64 0),(.str []),(.sl .nil []),(.int .i64 0)] 2 [(0,r_8),(1,r_9)]),y_ 5 (.call true false 15 [r_6,r_7,(.cst (.int .u32 417)),kR]),o_ (.pick r_5 mF F_),w_ 0 oA]
.ret))⟩
def a8:Ann:=⟨[0,1,4,5,6,7,8,10,20,31,32,33,34,50],[],[],[],[]⟩
def t8L0:aJ:=(.seq (g_ [s_ 12 (.bin .lss jS gW)])
(.seq (.cond uC
.skip
(.exit 0))
(.seq (.block 1
(h_ [o_ (.indexAddrS 1 l_9 jS),d_ r_0,w_ 7 r_1]
(g_ [v_ l_6,v_ l_7,v_ l_4,o_ (.lit false [(.int .u32 0)] 2 [(0,r_1),(1,r_2)]),o_ (.call false false 25 [r_0,(i_ 0),r_3]),w_ 4 r_4])))
(g_ [o_ (.bin .add jS (i_ 1)),w_ 11 r_0]))))
def t8:aV:=⟨2,14,[.loc 2,.loc 3,.loc 4,.loc 5],
(h_ [w_ 2 N_,w_ 3 N_,s_ 4 (.mov (.cst (.int .u32 0))),w_ 5 (i_ 0)]
(.seq (.seq (g_ [v_ l_1,o_ (.bin .lss r_0 (i_ 0)),v_ r_1,x_ 2 (.mov l_1),x_ 2 (.bin .gtr r_3 (i_ 67108864)),o_ (.pick r_2 T_ r_4),v_ r_5,x_ 6 (.mov l_0),x_ 6 (.call false false 20 [r_7,(.fn 21)]),s_ 8 (.pick r_6 T_ r_8)])
(.cond l_8
(h_ [w_ 2 N_,w_ 3 N_,s_ 4 (.mov (.cst (.int .u32 0))),w_ 5 (i_ 2)]
.ret)
.skip))
(h_ [v_ l_1,o_ (.mkMap),o_ (.build [(.int .i64 0),(.sl .nil []),.nilm,(.sl .nil [])] [(0,1,r_0),(2,1,r_1)]),o_ (.boxH 53 r_2),w_ 6 r_3]
(h_ [v_ l_6,v_ l_0,o_ (.call false false 24 [r_0,r_1]),w_ 3 r_2]
(h_ [s_ 4 (.mov (.cst (.int .u32 38)))]
(.seq (.seq (g_ [v_ l_6,o_ (.nilCheck r_0),f_ 3 r_1,s_ 9 (.load1 r_2),s_ 10 (.len .sl r_3),w_ 11 (i_ 0)])
(.block 0
(.loop t8L0)))
(.seq (.seq (g_ [v_ l_1,v_ l_6,o_ (.nilCheck r_1),f_ 1 r_2,d_ r_3,o_ (.len .sl r_4),o_ (.bin .add r_0 r_5),s_ 13 (.bin .gtr r_6 (i_ 67108864))])
(.cond iK
(h_ [w_ 2 N_,w_ 3 N_,s_ 4 (.mov (.cst (.int .u32 0))),w_ 5 (i_ 3)]
.ret)
.skip))
(h_ [v_ l_6,o_ (.nilCheck r_0),f_ 1 r_1,d_ r_2,v_ l_3,v_ l_4,w_ 2 r_3,w_ 3 r_4,w_ 4 r_5,w_ 5 (i_ 0)]
.ret))))))))⟩
def a9:Ann:=⟨[0,1,4,5,6,7,8,9,10,11,12,13,14,15,16,17,18,33,41,68,88,108,129,157],[],[],[],[]⟩
def t9L0:aJ:=(.seq (.seq (g_ [v_ aIk,v_ l_6,o_ (.nilCheck r_1),f_ 2 r_2,d_ r_3,o_ (.len .sl r_4),s_ 22 (.bin .lss r_0 r_5)])
(.cond aYh
.skip
(.exit 6)))
(.seq (.block 7
(h_ [v_ jS,v_ l_6,o_ (.nilCheck r_1),f_ 2 r_2,d_ r_3,v_ aIk,o_ (.indexAddrS 2 r_4 r_5),o_ (.loadN 2 r_6),v_ l_8,c_ 29 [r_7,r_8],v_ aIj,o_ (.lit false [(.int .u32 0)] 3 [(0,(.cst (.int .u32 67))),(1,r_9),(2,kR)]),o_ (.append false 1 4 26 r_0 mF),w_ 11 oA]
(g_ [v_ l_1,v_ jS,o_ (.len .sl r_1),o_ (.bin .add r_0 r_2),o_ (.bin .sub r_3 (i_ 3)),o_ (.conv (.toInt .u32) r_4),o_ (.bin .mul (.cst (.int .u32 4)) r_5),o_ (.bin .add r_6 (.cst (.int .u32 1))),w_ 15 r_7])))
(g_ [v_ aIk,o_ (.bin .add r_0 (i_ 1)),w_ 16 r_1])))
def t9L1:aJ:=(.seq (.seq (g_ [v_ vD,v_ l_6,o_ (.nilCheck r_1),f_ 0 r_2,d_ r_3,o_ (.len .sl r_4),s_ 21 (.bin .lss r_0 r_5)])
(.cond bGs
.skip
(.exit 4)))
(.seq (.block 5
(g_ [v_ uC,v_ l_6,o_ (.nilCheck r_1),f_ 0 r_2,d_ r_3,v_ vD,o_ (.indexAddrS 2 r_4 r_5),o_ (.loadN 2 r_6),v_ l_8,c_ 29 [r_7,r_8],o_ (.lit false [(.int .u32 0)] 1 [(0,r_9)]),o_ (.append false 1 4 26 r_0 kR),w_ 12 mF]))
(g_ [v_ vD,o_ (.bin .add r_0 (i_ 1)),w_ 14 r_1])))
def t9L2:aJ:=(.seq (.seq (g_ [v_ iK,v_ l_6,o_ (.nilCheck r_1),f_ 1 r_2,d_ r_3,o_ (.len .sl r_4),s_ 20 (.bin .lss r_0 r_5)])
(.cond bGr
.skip
(.exit 2)))
(.seq (.block 3
(g_ [v_ jS,v_ l_6,o_ (.nilCheck r_1),f_ 1 r_2,d_ r_3,v_ iK,o_ (.indexAddrS 5 r_4 r_5),o_ (.loadN 5 r_6),v_ l_8,c_ 28 [r_7,r_8],o_ (.append false 1 4 26 r_0 r_9),w_ 11 kR]))
(g_ [v_ iK,o_ (.bin .add r_0 (i_ 1)),w_ 13 r_1])))
def t9L3:aJ:=(.seq (.seq (g_ [v_ gW,v_ l_6,o_ (.nilCheck r_1),f_ 1 r_2,d_ r_3,o_ (.len .sl r_4),s_ 18 (.bin .lss r_0 r_5)])
(.cond aRr
.skip
(.exit 0)))
(.seq (.block 1
(h_ [v_ l_8,v_ l_9,o_ (.lit false [(.int .i64 0)] 1 [(0,r_1)]),o_ (.append false 1 8 3 r_0 r_2),w_ 8 r_3]
(h_ [v_ l_9,o_ (.bin .add r_0 (i_ 1)),v_ l_6,o_ (.nilCheck r_2),f_ 1 r_3,d_ r_4,v_ gW,o_ (.indexAddrS 5 r_5 r_6),f_ 2 r_7,d_ r_8,o_ (.len .sl r_9),o_ (.bin .add r_1 kR),w_ 9 mF]
(h_ [v_ l_6,o_ (.nilCheck r_0),f_ 1 r_1,d_ r_2,v_ gW,o_ (.indexAddrS 5 r_3 r_4),f_ 0 r_5,d_ r_6,s_ 19 (.bin .eql r_7 (i_ 7))]
(.cond aRs
(g_ [v_ l_9,o_ (.bin .add r_0 (i_ 1)),v_ l_6,o_ (.nilCheck r_2),f_ 1 r_3,d_ r_4,v_ gW,o_ (.indexAddrS 5 r_5 r_6),f_ 3 r_7,o_ (.loadN 2 r_8),c_ 27 [r_9],o_ (.len .sl kR),o_ (.bin .add r_1 mF),w_ 9 oA])
.skip)))))
(g_ [v_ gW,o_ (.bin .add r_0 (i_ 1)),w_ 10 r_1])))
def t9:aV:=⟨2,24,[.loc 2,.loc 3,.loc 4,.loc 5],
(h_ [w_ 2 N_,w_ 3 N_,s_ 4 (.mov (.cst (.int .u32 0))),w_ 5 (i_ 0)]
(h_ [v_ l_0,o_ (.call false false 26 [r_0,N_]),v_ r_1,o_ (.extract 0 r_2),o_ (.extract 1 r_2),w_ 6 r_3,w_ 7 r_4]
(.seq (.seq (g_ [v_ l_7,o_ (.bin .neq r_0 (i_ 0)),v_ r_1,x_ 2 (.mov l_1),x_ 2 (.bin .lss r_3 (i_ 0)),o_ (.pick r_2 T_ r_4),v_ r_5,x_ 6 (.mov l_1),x_ 6 (.bin .gtr r_7 (i_ 67108864)),s_ 17 (.pick r_6 T_ r_8)])
(.cond aRq
(h_ [w_ 2 N_,w_ 3 N_,s_ 4 (.mov (.cst (.int .u32 0))),w_ 5 (i_ 2)]
.ret)
.skip))
(h_ [w_ 8 N_]
(h_ [v_ l_1,w_ 9 r_0]
(.seq (.seq (g_ [w_ 10 (i_ 0)])
(.block 0
(.loop t9L3)))
(h_ [w_ 11 N_,w_ 12 N_]
(.seq (.seq (g_ [w_ 13 (i_ 0)])
(.block 2
(.loop t9L2)))
(.seq (.seq (g_ [w_ 14 (i_ 0)])
(.block 4
(.loop t9L1)))
(h_ [s_ 15 (.mov (.cst (.int .u32 38)))]
(.seq (.seq (g_ [w_ 16 (i_ 0)])
(.block 6
(.loop t9L0)))
(.seq (.seq (g_ [v_ l_1,v_ jS,o_ (.len .sl r_1),o_ (.bin .add r_0 r_2),s_ 23 (.bin .gtr r_3 (i_ 67108864))])
(.cond bHw
(h_ [w_ 2 N_,w_ 3 N_,s_ 4 (.mov (.cst (.int .u32 0))),w_ 5 (i_ 3)]
.ret)
.skip))
(h_ [v_ jS,v_ uC,v_ aIj,w_ 2 r_0,w_ 3 r_1,w_ 4 r_2,w_ 5 (i_ 0)]
.ret)))))))))))))⟩
def a10:Ann:=⟨[0,1,4,5,10,14,25],[],[],[],[(6,⟨[0,0,3,7,0,0,48,112,255],[0,1,2,3,4,5,6,7,8],[]⟩)]⟩
def t10L0:aJ:=(.seq (.seq (g_ [v_ l_3,v_ l_0,o_ (.len .sl r_1),s_ 5 (.bin .lss r_0 r_2)])
(.cond l_5
.skip
(.exit 0)))
(.seq (.block 1
(.seq (.draw [0,1,2,3,4,5,6,7,8] [] [v_ l_0,v_ l_3,o_ (.indexAddrS 1 r_0 r_1),d_ r_2,v_ l_1,v_ l_3,o_ (.indexAddrS 1 r_4 r_5),d_ r_6,s_ 6 (.bin .neq r_3 r_7)])
(.cond l_6
(h_ [w_ 2 F_]
.ret)
.skip)))
(g_ [v_ l_3,o_ (.bin .add r_0 (i_ 1)),w_ 3 r_1])))
def t10:aV:=⟨2,7,[.loc 2],
(h_ [w_ 2 F_]
(.seq (.seq (g_ [v_ l_0,o_ (.len .sl r_0),v_ l_1,o_ (.len .sl r_2),s_ 4 (.bin .neq r_1 r_3)])
(.cond l_4
(h_ [w_ 2 F_]
.ret)
.skip))
(.seq (.seq (g_ [w_ 3 (i_ 0)])
(.block 0
(.loop t10L0)))
(h_ [w_ 2 T_]
.ret))))⟩
def a12:Ann:=⟨[0,1,2,3,5],[3,1],[],[],[(4,⟨[0,0,1,7],[0,1,2],[(3,[],[])]⟩)]⟩
def t12L0:aJ:=(.seq (.seq (g_ [o_ (.loadN 5 l_1),s_ 4 (.call false false 31 [r_0])])
(.cond l_4
.skip
(.exit 0)))
(.block 1
(h_ [v_ l_2,f_ 3 l_1,d_ r_1,o_ (.indexAddrS 5 r_2 (i_ 0)),o_ (.loadN 5 r_3),o_ (.lit false [(.int .i64 0),(.int .i64 0),(.str []),(.sl .nil []),(.int .i64 0)] 1 [(0,r_4)]),o_ (.append false 5 64 37 r_0 r_5),w_ 2 r_6]
(g_ [f_ 3 l_1,d_ r_0,o_ (.indexAddrS 5 r_1 (i_ 1)),o_ (.loadN 5 r_2),o_ (.store 5 l_1 r_3)]))))
def t12:aV:=⟨1,5,[.loc 2,.cell 3 5 true],
(h_ [o_ (.boxL 1 l_0),w_ 2 N_,o_ (.allocL 3 [(.int .i64 0),(.int .i64 0),(.str []),(.sl .nil []),(.int .i64 0)])]
(.seq (.block 0
(.loop t12L0))
(.seq (.draw [0,1,2] [(3,[],[])] [v_ l_2,o_ (.loadN 5 l_1),w_ 2 r_0,o_ (.store 5 l_3 r_1)])
.ret)))⟩
def a14:Ann:=⟨[0,2],[2],[],[],[]⟩
def t14:aV:=⟨1,2,[.cell 1 5 true],
(h_ [o_ (.allocL 1 [(.int .i64 0),(.int .i64 0),(.str []),(.sl .nil []),(.int .i64 0)])]
(h_ [v_ l_0,o_ (.build [(.int .i64 0),(.int .i64 0),(.str []),(.sl .nil []),(.int .i64 0)] [(0,1,(i_ 4)),(2,1,r_0)]),o_ (.store 5 l_1 r_1)]
.ret))⟩
def a15:Ann:=⟨[0,1,2,3,8,9,10,11,12,13,14,42,46,57,61,72],[],[],[],[(7,⟨[0,0,3,7,0,0,48,112,255],[0,1,2,3,4,5,6,7,8],[]⟩),(12,⟨[0,0,3,7,0,0,48,112,255],[0,1,2,3,4,5,6,7,8],[]⟩)]⟩
def t15L0:aJ:=(.seq (.seq (g_ [v_ gW,v_ l_6,o_ (.len .sl r_1),s_ 14 (.bin .lss r_0 r_2)])
(.cond vD
.skip
(.exit 2)))
(.seq (.block 3
(.seq (.draw [0,1,2,3,4,5,6,7,8] [] [v_ l_6,v_ gW,o_ (.indexAddrS 1 r_0 r_1),d_ r_2,v_ l_1,v_ gW,o_ (.indexAddrS 1 r_4 r_5),d_ r_6,s_ 15 (.bin .neq r_3 r_7)])
(.cond aIj
(h_ [w_ 4 F_]
.ret)
.skip)))
(g_ [v_ gW,o_ (.bin .add r_0 (i_ 1)),w_ 10 r_1])))
def t15L1:aJ:=(.seq (.seq (g_ [v_ l_9,v_ l_5,o_ (.len .sl r_1),s_ 12 (.bin .lss r_0 r_2)])
(.cond uC
.skip
(.exit 0)))
(.seq (.block 1
(.seq (.draw [0,1,2,3,4,5,6,7,8] [] [v_ l_5,v_ l_9,o_ (.indexAddrS 1 r_0 r_1),d_ r_2,v_ l_0,v_ l_9,o_ (.indexAddrS 1 r_4 r_5),d_ r_6,s_ 13 (.bin .neq r_3 r_7)])
(.cond iK
(h_ [w_ 4 F_]
.ret)
.skip)))
(g_ [v_ l_9,o_ (.bin .add r_0 (i_ 1)),w_ 9 r_1])))
def t15:aV:=⟨4,16,[.loc 4],
(h_ [w_ 4 F_]
(h_ [v_ l_3,c_ 8 [r_0,(i_ 100)],v_ r_1,o_ (.extract 0 r_2),o_ (.extract 1 r_2),o_ (.extract 2 r_2),o_ (.extract 3 r_2),w_ 5 r_3,w_ 6 r_4,w_ 7 r_5,w_ 8 r_6]
(.seq (.seq (g_ [v_ l_8,o_ (.bin .neq r_0 (i_ 0)),v_ r_1,x_ 2 (.mov l_7),x_ 2 (.mov l_2),x_ 2 (.bin .neq r_3 r_4),o_ (.pick r_2 T_ r_5),v_ r_6,x_ 7 (.mov l_5),x_ 7 (.len .sl r_8),x_ 7 (.mov l_0),x_ 7 (.len .sl kR),x_ 7 (.bin .neq r_9 mF),o_ (.pick r_7 T_ oA),v_ aAv,x_ 14 (.mov l_6),x_ 14 (.len .sl aLw),x_ 14 (.mov l_1),x_ 14 (.len .sl aLy),x_ 14 (.bin .neq aLx bGq),s_ 11 (.pick aLv T_ bHv)])
(.cond jS
(h_ [w_ 4 F_]
.ret)
.skip))
(.seq (.seq (g_ [w_ 9 (i_ 0)])
(.block 0
(.loop t15L1)))
(.seq (.seq (g_ [w_ 10 (i_ 0)])
(.block 2
(.loop t15L0)))
(h_ [w_ 4 T_]
.ret))))))⟩
def a18:Ann:=⟨[0,1,2,4,5,6,8,21],[2],[],[],[]⟩
def t18L0:aJ:=(.seq (.seq (g_ [v_ l_5,f_ 3 l_2,d_ r_1,o_ (.len .sl r_2),o_ (.bin .lss r_0 r_3),v_ r_4,y_ 5 (.mov l_4),y_ 5 (.bin .lss r_6 (i_ 9000)),s_ 7 (.pick r_5 r_7 F_)])
(.cond l_7
.skip
(.exit 0)))
(.seq (.block 1
(g_ [v_ l_4,f_ 3 l_2,d_ r_1,v_ l_5,o_ (.indexAddrS 5 r_2 r_3),o_ (.loadN 5 r_4),v_ l_1,o_ (.bin .sub r_6 (i_ 1)),c_ 18 [r_5,r_7],o_ (.bin .add r_0 r_8),w_ 4 r_9]))
(g_ [v_ l_5,o_ (.bin .add r_0 (i_ 1)),w_ 5 r_1])))
def t18:aV:=⟨2,8,[.loc 3],
(h_ [o_ (.boxL 2 l_0),w_ 3 (i_ 0)]
(.seq (.seq (g_ [v_ l_1,s_ 6 (.bin .eql r_0 (i_ 0))])
(.cond l_6
(h_ [w_ 3 (i_ 9000)]
.ret)
.skip))
(h_ [f_ 2 l_2,d_ r_0,o_ (.len .str r_1),o_ (.bin .add (i_ 1) r_2),w_ 4 r_3]
(.seq (.seq (g_ [w_ 5 (i_ 0)])
(.block 0
(.loop t18L0)))
(h_ [v_ l_4,w_ 3 r_0]
.ret)))))⟩
def a19:Ann:=⟨[0,2],[2],[],[],[]⟩
def t19:aV:=⟨1,2,[.cell 1 5 true],
(h_ [o_ (.allocL 1 [(.int .i64 0),(.int .i64 0),(.str []),(.sl .nil []),(.int .i64 0)])]
(h_ [v_ l_0,o_ (.build [(.int .i64 0),(.int .i64 0),(.str []),(.sl .nil []),(.int .i64 0)] [(0,1,(i_ 5)),(2,1,r_0)]),o_ (.store 5 l_1 r_1)]
.ret))⟩
def a20:Ann:=⟨[0,1,4],[],[],[],[]⟩
def t20:aV:=⟨2,3,[.loc 2],
(h_ [w_ 2 F_]
(h_ [v_ l_0,v_ l_1,o_ (.call false false 33 [r_0,r_1]),o_ (.bin .geq r_2 (i_ 0)),w_ 2 r_3]
.ret))⟩
def a21:Ann:=⟨[0,1,2],[1],[],[],[]⟩
def t21:aV:=⟨1,3,[.loc 2],
(h_ [o_ (.boxL 1 l_0),w_ 2 F_]
(h_ [o_ (.loadN 5 l_1),c_ 22 [r_0],o_ (.un .not r_1),v_ r_2,x_ 3 (.loadN 5 l_1),x_ 3 (.call true false 23 [r_4]),x_ 3 (.un .not r_5),o_ (.pick r_3 T_ r_6),w_ 2 r_7]
.ret))⟩
def a22:Ann:=⟨[0,1,2,4,10,17],[1],[],[],[]⟩
def t22L0:aJ:=(.seq (.seq (g_ [o_ (.loadN 5 l_1),s_ 3 (.call false false 31 [r_0])])
(.cond l_3
.skip
(.exit 0)))
(.block 1
(.seq (.seq (g_ [f_ 3 l_1,d_ r_0,o_ (.indexAddrS 5 r_1 (i_ 0)),o_ (.loadN 5 r_2),c_ 22 [r_3],s_ 4 (.un .not r_4)])
(.cond l_4
(h_ [w_ 2 F_]
.ret)
.skip))
(g_ [f_ 3 l_1,d_ r_0,o_ (.indexAddrS 5 r_1 (i_ 1)),o_ (.loadN 5 r_2),o_ (.store 5 l_1 r_3)]))))
def t22:aV:=⟨1,6,[.loc 2],
(h_ [o_ (.boxL 1 l_0),w_ 2 F_]
(.seq (.block 0
(.loop t22L0))
(.seq (.seq (g_ [f_ 0 l_1,d_ r_0,s_ 5 (.bin .eql r_1 (i_ 7))])
(.cond l_5
(h_ [f_ 3 l_1,d_ r_0,o_ (.call false false 20 [r_1,(.fn 34)]),o_ (.un .not r_2),w_ 2 r_3]
.ret)
.skip))
(h_ [f_ 3 l_1,d_ r_0,o_ (.len .sl r_1),o_ (.bin .eql r_2 (i_ 0)),v_ r_3,y_ 4 (.loadN 5 l_1),y_ 4 (.call true false 35 [r_5]),o_ (.pick r_4 r_6 F_),w_ 2 r_7]
.ret))))⟩
def a23:Ann:=⟨[0,1,2,5,11],[1],[],[],[]⟩
def t23L0:aJ:=(.seq (.seq (g_ [f_ 0 l_1,d_ r_0,s_ 3 (.bin .eql r_1 (i_ 6))])
(.cond l_3
.skip
(.exit 0)))
(.block 1
(.seq (.seq (g_ [f_ 3 l_1,d_ r_0,o_ (.indexAddrS 5 r_1 (i_ 0)),o_ (.loadN 5 r_2),c_ 23 [r_3],s_ 4 (.un .not r_4)])
(.cond l_4
(h_ [w_ 2 F_]
.ret)
.skip))
(g_ [f_ 3 l_1,d_ r_0,o_ (.indexAddrS 5 r_1 (i_ 1)),o_ (.loadN 5 r_2),o_ (.store 5 l_1 r_3)]))))
def t23:aV:=⟨1,5,[.loc 2],
(h_ [o_ (.boxL 1 l_0),w_ 2 F_]
(.seq (.block 0
(.loop t23L0))
(h_ [f_ 0 l_1,d_ r_0,o_ (.bin .neq r_1 (i_ 5)),v_ r_2,x_ 3 (.fieldAddr 1 l_1),x_ 3 (.load1 r_4),x_ 3 (.bin .eql r_5 (i_ 0)),o_ (.pick r_3 T_ r_6),v_ r_7,y_ 8 (.fieldAddr 3 l_1),y_ 8 (.load1 r_9),y_ 8 (.call false false 20 [kR,(.fn 36)]),y_ 8 (.un .not mF),o_ (.pick r_8 oA F_),w_ 2 aAv]
.ret)))⟩
def a24:Ann:=⟨[0,1,4,6,7,8,9,10],[6],[],[],[]⟩
def t24L0:aJ:=(.seq (g_ [s_ 7 (.bin .lss l_6 l_5)])
(.seq (.cond l_7
.skip
(.exit 0))
(.seq (.block 1
(h_ [o_ (.indexAddrS 5 l_4 l_6),o_ (.loadN 5 r_0),o_ (.allocL 3 [(.int .i64 0),(.int .i64 0),(.str []),(.sl .nil []),(.int .i64 0)]),o_ (.store 5 r_2 r_1)]
(g_ [v_ l_2,v_ l_0,o_ (.loadN 5 l_3),o_ (.call false false 37 [r_1,r_2]),o_ (.lit false [(.int .u32 0)] 1 [(0,r_3)]),o_ (.append false 1 4 26 r_0 r_4),w_ 2 r_5])))
(g_ [o_ (.bin .add l_6 (i_ 1)),w_ 6 r_0]))))
def t24:aV:=⟨2,8,[.loc 2],
(h_ [w_ 2 N_]
(.seq (.seq (g_ [w_ 4 l_1,s_ 5 (.len .sl r_0),w_ 6 (i_ 0)])
(.block 0
(.loop t24L0)))
(h_ [v_ l_2,w_ 2 r_0]
.ret)))⟩
def a25:Ann:=⟨[0,1,2,6,7],[],[],[],[(1,⟨[0,1,3,7,0,16,48,112,240,511,1023],[0,1,2,3,4,5,6,7,8,9,10],[]⟩)]⟩
def t25:aV:=⟨3,5,[.loc 3],
(h_ [s_ 3 (.mov (.cst (.int .u32 0)))]
(.seq (.draw [0,1,2,3,4,5,6,7,8,9,10] [] [v_ l_0,o_ (.nilCheck r_0),f_ 0 r_1,d_ r_2,v_ l_0,o_ (.nilCheck r_4),f_ 1 r_5,d_ r_6,o_ (.len .sl r_7),o_ (.bin .add r_3 r_8),w_ 4 r_9])
(h_ [v_ l_0,v_ l_0,o_ (.nilCheck r_1),f_ 1 r_2,d_ r_3,v_ l_2,o_ (.len .sl r_5),o_ (.conv (.toInt .u32) r_6),o_ (.bin .shl r_7 (.cst (.int .u64 5))),v_ l_1,o_ (.conv (.toInt .u32) r_9),o_ (.bin .shl kR (.cst (.int .u64 2))),o_ (.bin .or r_8 mF),o_ (.bin .or oA (.cst (.int .u32 3))),o_ (.lit false [(.int .u32 0)] 1 [(0,aAv)]),o_ (.append false 1 4 26 r_4 aLv),o_ (.nilCheck r_0),f_ 1 aLx,o_ (.store 1 aLy aLw)]
(h_ [v_ l_0,v_ l_0,o_ (.nilCheck r_1),f_ 1 r_2,d_ r_3,v_ l_2,o_ (.append false 1 4 26 r_4 r_5),o_ (.nilCheck r_0),f_ 1 r_7,o_ (.store 1 r_8 r_6)]
(h_ [v_ l_4,o_ (.conv (.toInt .u32) r_0),o_ (.bin .shl r_1 (.cst (.int .u64 2))),o_ (.bin .or r_2 (.cst (.int .u32 1))),w_ 3 r_3]
.ret)))))⟩
def a26:Ann:=⟨[0,1,4,5,6,7,11,27],[],[],[],[]⟩
def t26L0:aJ:=(.seq (.seq (g_ [v_ l_4,v_ l_0,o_ (.len .sl r_1),s_ 6 (.bin .lss r_0 r_2)])
(.cond l_6
.skip
(.exit 0)))
(.seq (.block 1
(h_ [v_ l_0,v_ l_4,o_ (.indexAddrS 5 r_0 r_1),o_ (.loadN 5 r_2),c_ 38 [r_3],o_ (.un .not r_4),v_ r_5,x_ 6 (.mov l_0),x_ 6 (.mov l_4),x_ 6 (.indexAddrS 5 r_7 r_8),x_ 6 (.loadN 5 r_9),x_ 6 (.call true false 39 [kR]),x_ 6 (.un .not mF),s_ 7 (.pick r_6 T_ oA)]
(.cond l_7
(h_ [s_ 2 (.mov (.cst .nilp)),w_ 3 (i_ 2)]
.ret)
.skip)))
(g_ [v_ l_4,o_ (.bin .add r_0 (i_ 1)),w_ 4 r_1])))
def t26:aV:=⟨2,8,[.loc 2,.loc 3],
(h_ [s_ 2 (.mov (.cst .nilp)),w_ 3 (i_ 0)]
(.seq (.seq (g_ [w_ 4 (i_ 0)])
(.block 0
(.loop t26L0)))
(h_ [o_ (.build [(.sl .nil []),(.sl .nil []),(.sl .nil []),(.sl .nil []),(.sl .nil []),(.int .i64 0),(.bool false)] []),o_ (.boxH 64 r_0),w_ 5 r_1]
(h_ [v_ l_5,v_ l_5,o_ (.nilCheck r_1),f_ 3 r_2,d_ r_3,v_ l_1,o_ (.append false 1 1 5 r_4 r_5),o_ (.nilCheck r_0),f_ 3 r_7,o_ (.store 1 r_8 r_6)]
(h_ [v_ l_5,v_ l_5,v_ l_0,o_ (.call false false 40 [r_1,r_2]),o_ (.nilCheck r_0),f_ 0 r_4,o_ (.store 1 r_5 r_3)]
(h_ [v_ l_5,w_ 2 r_0,w_ 3 (i_ 0)]
.ret))))))⟩
def a27:Ann:=⟨[0,1,2,3,4,5,6,11],[1],[],[],[]⟩
def t27L0:aJ:=(.seq (.seq (g_ [v_ l_4,o_ (.len .sl r_0),s_ 7 (.bin .gtr r_1 (i_ 0))])
(.cond l_7
.skip
(.exit 0)))
(.block 1
(h_ [v_ l_4,c_ 41 [r_0],v_ r_1,o_ (.extract 0 r_2),o_ (.extract 1 r_2),w_ 5 r_3,w_ 6 r_4]
(h_ [v_ l_3,v_ l_6,o_ (.conv (.toInt .u16) r_1),o_ (.lit false [(.int .u16 0)] 1 [(0,r_2)]),o_ (.append false 1 2 84 r_0 r_3),w_ 3 r_4]
(g_ [v_ l_5,w_ 4 r_0])))))
def t27:aV:=⟨1,8,[.loc 2],
(h_ [o_ (.boxL 1 l_0),w_ 2 N_]
(h_ [w_ 3 N_]
(h_ [f_ 1 l_1,d_ r_0,w_ 4 r_1]
(.seq (.block 0
(.loop t27L0))
(h_ [v_ l_3,w_ 2 r_0]
.ret)))))⟩
def a28:Ann:=⟨[0,1,2,4,5,6,7,8,9,10,13,16,27,43],[2],[],[],[]⟩
def t28L0:aJ:=(.seq (.seq (g_ [v_ l_8,f_ 2 l_2,d_ r_1,o_ (.len .sl r_2),s_ 13 (.bin .lss r_0 r_3)])
(.cond iK
.skip
(.exit 2)))
(.seq (.block 3
(g_ [v_ l_4,f_ 2 l_2,d_ r_1,v_ l_8,o_ (.indexAddrS 2 r_2 r_3),o_ (.loadN 2 r_4),v_ l_1,c_ 29 [r_5,r_6],o_ (.lit false [(.int .u32 0)] 1 [(0,r_7)]),o_ (.append false 1 4 26 r_0 r_8),w_ 4 r_9]))
(g_ [v_ l_8,o_ (.bin .add r_0 (i_ 1)),w_ 8 r_1])))
def t28L1:aJ:=(.seq (.seq (g_ [v_ l_7,v_ l_6,o_ (.len .sl r_1),s_ 12 (.bin .lss r_0 r_2)])
(.cond uC
.skip
(.exit 0)))
(.seq (.block 1
(g_ [v_ l_4,v_ l_6,v_ l_7,o_ (.indexAddrS 1 r_1 r_2),d_ r_3,o_ (.conv (.toInt .u32) r_4),o_ (.bin .mul (.cst (.int .u32 4)) r_5),o_ (.lit false [(.int .u32 0)] 1 [(0,r_6)]),o_ (.append false 1 4 26 r_0 r_7),w_ 4 r_8]))
(g_ [v_ l_7,o_ (.bin .add r_0 (i_ 1)),w_ 7 r_1])))
def t28:aV:=⟨2,14,[.loc 3],
(h_ [o_ (.boxL 2 l_0),w_ 3 N_]
(h_ [w_ 4 N_]
(.seq (.seq (g_ [f_ 0 l_2,d_ r_0,s_ 10 (.bin .eql r_1 (i_ 7))])
(.cond gW
(h_ [s_ 5 (.mov (.cst (.int .u32 0)))]
(.seq (.seq (g_ [f_ 3 l_2,f_ 0 r_0,s_ 11 (.load1 r_1)])
(.cond jS
(g_ [s_ 5 (.mov (.cst (.int .u32 4)))])
.skip))
(h_ [v_ l_4,v_ l_5,o_ (.lit false [(.int .u32 0)] 1 [(0,r_1)]),o_ (.append false 1 4 26 r_0 r_2),w_ 4 r_3]
(h_ [f_ 3 l_2,o_ (.loadN 2 r_0),c_ 27 [r_1],w_ 6 r_2]
(h_ [w_ 7 (i_ 0)]
(.block 0
(.loop t28L1)))))))
.skip))
(.seq (.seq (g_ [w_ 8 (i_ 0)])
(.block 2
(.loop t28L0)))
(h_ [v_ l_4,o_ (.len .sl r_0),o_ (.conv (.toInt .u32) r_1),o_ (.bin .mul (.cst (.int .u32 32)) r_2),f_ 0 l_2,d_ r_4,o_ (.conv (.toInt .u32) r_5),o_ (.bin .mul (.cst (.int .u32 4)) r_6),o_ (.bin .add r_3 r_7),o_ (.bin .add r_8 (.cst (.int .u32 3))),o_ (.lit false [(.int .u32 0)] 1 [(0,r_9)]),w_ 9 kR]
(h_ [v_ l_9,v_ l_4,o_ (.append false 1 4 26 r_0 r_1),w_ 3 r_2]
.ret))))))⟩
def a29:Ann:=⟨[0,1,2,4,7,14,27,30,33,36,39],[2],[],[],[]⟩
def t29:aV:=⟨2,11,[.loc 3],
(h_ [o_ (.boxL 2 l_0),s_ 3 (.mov (.cst (.int .u32 0)))]
(.seq (.seq (g_ [f_ 0 l_2,d_ r_0,s_ 4 (.bin .eql r_1 (i_ 1))])
(.cond l_4
(h_ [f_ 1 l_2,d_ r_0,o_ (.conv (.toInt .u32) r_1),o_ (.bin .mul (.cst (.int .u32 4)) r_2),w_ 3 r_3]
.ret)
.skip))
(.seq (.seq (g_ [f_ 0 l_2,d_ r_0,s_ 5 (.bin .eql r_1 (i_ 2))])
(.cond l_5
(h_ [f_ 1 l_2,d_ r_0,o_ (.conv (.toInt .u32) r_1),o_ (.bin .mul (.cst (.int .u32 16)) r_2),o_ (.bin .add r_3 (.cst (.int .u32 2))),w_ 3 r_4]
.ret)
.skip))
(.seq (.seq (g_ [f_ 0 l_2,d_ r_0,o_ (.bin .eql r_1 (i_ 3)),v_ r_2,y_ 3 (.fieldAddr 1 l_2),y_ 3 (.load1 r_4),y_ 3 (.bin .eql r_5 (i_ 1)),s_ 6 (.pick r_3 r_6 F_)])
(.cond l_6
(h_ [s_ 3 (.mov (.cst (.int .u32 22)))]
.ret)
.skip))
(.seq (.seq (g_ [f_ 0 l_2,d_ r_0,s_ 7 (.bin .eql r_1 (i_ 3))])
(.cond l_7
(h_ [s_ 3 (.mov (.cst (.int .u32 6)))]
.ret)
.skip))
(.seq (.seq (g_ [f_ 0 l_2,d_ r_0,s_ 8 (.bin .eql r_1 (i_ 4))])
(.cond l_8
(h_ [s_ 3 (.mov (.cst (.int .u32 38)))]
.ret)
.skip))
(.seq (.seq (g_ [f_ 0 l_2,d_ r_0,s_ 9 (.bin .eql r_1 (i_ 5))])
(.cond l_9
(h_ [s_ 3 (.mov (.cst (.int .u32 54)))]
.ret)
.skip))
(.seq (.seq (g_ [f_ 0 l_2,d_ r_0,s_ 10 (.bin .eql r_1 (i_ 6))])
(.cond gW
(h_ [s_ 3 (.mov (.cst (.int .u32 70)))]
.ret)
.skip))
(h_ [v_ l_1,f_ 1 l_2,d_ r_1,o_ (.indexAddrS 1 r_0 r_2),d_ r_3,o_ (.conv (.toInt .u32) r_4),o_ (.bin .mul (.cst (.int .u32 4)) r_5),o_ (.bin .add r_6 (.cst (.int .u32 1))),w_ 3 r_7]
.ret)))))))))⟩
def a31:Ann:=⟨[0,1,2],[1],[],[],[]⟩
def t31:aV:=⟨1,3,[.loc 2],
(h_ [o_ (.boxL 1 l_0),w_ 2 F_]
(h_ [f_ 0 l_1,d_ r_0,o_ (.bin .eql r_1 (i_ 6)),v_ r_2,y_ 3 (.fieldAddr 3 l_1),y_ 3 (.load1 r_4),y_ 3 (.len .sl r_5),y_ 3 (.bin .eql r_6 (i_ 2)),o_ (.pick r_3 r_7 F_),w_ 2 r_8]
.ret))⟩
def a33:Ann:=⟨[0,1,4,5,7,8,9,16],[],[],[],[]⟩
def t33L0:aJ:=(.seq (g_ [s_ 6 (.bin .lss l_5 l_4)])
(.seq (.cond l_6
.skip
(.exit 0))
(.seq (.block 1
(h_ [v_ l_5,w_ 3 r_0]
(h_ [v_ l_1,v_ l_0,v_ l_3,o_ (.indexAddrS 5 r_1 r_2),o_ (.loadN 5 r_3),s_ 7 (.callv r_0 [r_4])]
(.cond l_7
(h_ [v_ l_3,w_ 2 r_0]
.ret)
.skip))))
(g_ [o_ (.bin .add l_5 (i_ 1)),w_ 5 r_0]))))
def t33:aV:=⟨2,8,[.loc 2],
(h_ [w_ 2 (i_ 0)]
(.seq (.seq (g_ [v_ l_0,s_ 4 (.len .sl r_0),w_ 5 (i_ 0)])
(.block 0
(.loop t33L0)))
(h_ [s_ 2 (.mov (i_ (-1)))]
.ret)))⟩
def a34:Ann:=⟨[0,1,2],[1],[],[],[]⟩
def t34:aV:=⟨1,3,[.loc 2],
(h_ [o_ (.boxL 1 l_0),w_ 2 F_]
(h_ [o_ (.loadN 5 l_1),c_ 22 [r_0],o_ (.un .not r_1),w_ 2 r_2]
.ret))⟩
def a35:Ann:=⟨[0,1,2,4,6,7,12,22,27,32],[1],[],[],[]⟩
def t35:aV:=⟨1,10,[.loc 2],
(h_ [o_ (.boxL 1 l_0),w_ 2 F_]
(.seq (.seq (g_ [f_ 0 l_1,s_ 4 (.load1 r_0)])
(.block 0
(.seq (.seq (g_ [o_ (.bin .eql l_4 (i_ 0)),w_ 5 r_0])
(.cond l_5
.skip
(h_ [o_ (.bin .eql l_4 (i_ 8)),w_ 5 r_0]
(.cond l_5
.skip
(h_ [o_ (.bin .eql l_4 (i_ 9)),w_ 5 r_0]
(.cond l_5
.skip
(g_ [o_ (.bin .eql l_4 (i_ 10)),w_ 5 r_0])))))))
(.cond l_5
(h_ [w_ 2 T_]
.ret)
(h_ [o_ (.bin .eql l_4 (i_ 1)),w_ 6 r_0]
(.cond l_6
(h_ [f_ 1 l_1,d_ r_0,o_ (.bin .eql r_1 (i_ 0)),v_ r_2,x_ 3 (.fieldAddr 1 l_1),x_ 3 (.load1 r_4),x_ 3 (.bin .eql r_5 (i_ 1)),o_ (.pick r_3 T_ r_6),w_ 2 r_7]
.ret)
(h_ [o_ (.bin .eql l_4 (i_ 2)),w_ 7 r_0]
(.cond l_7
(h_ [f_ 2 l_1,d_ r_0,c_ 50 [r_1],w_ 2 r_2]
.ret)
(h_ [o_ (.bin .eql l_4 (i_ 3)),w_ 8 r_0]
(.cond l_8
(h_ [f_ 1 l_1,d_ r_0,c_ 51 [r_1],w_ 2 r_2]
.ret)
(.seq (.seq (g_ [o_ (.bin .eql l_4 (i_ 4)),w_ 9 r_0])
(.cond l_9
.skip
(g_ [o_ (.bin .eql l_4 (i_ 5)),w_ 9 r_0])))
(.cond l_9
(h_ [f_ 2 l_1,d_ r_0,c_ 52 [r_1],v_ r_2,o_ (.extract 0 r_3),o_ (.extract 1 r_3),v_ r_4,w_ 3 r_5]
(h_ [v_ l_3,o_ (.bin .eql r_0 (i_ 0)),v_ r_1,y_ 2 (.fieldAddr 0 l_1),y_ 2 (.load1 r_3),y_ 2 (.bin .eql r_4 (i_ 4)),y_ 2 (.mov r_5),x_ 6 (.fieldAddr 2 l_1),x_ 6 (.load1 r_7),x_ 6 (.bin .neq r_8 (.cst (.str []))),y_ 2 (.pick r_6 T_ r_9),o_ (.pick r_2 kR F_),w_ 2 mF]
.ret))
.skip))))))))))))
(h_ [w_ 2 F_]
.ret)))⟩
def a36:Ann:=⟨[0,1,2],[1],[],[],[]⟩
def t36:aV:=⟨1,3,[.loc 2],
(h_ [o_ (.boxL 1 l_0),w_ 2 F_]
(h_ [o_ (.loadN 5 l_1),c_ 23 [r_0],o_ (.un .not r_1),w_ 2 r_2]
.ret))⟩
def a37:Ann:=⟨[0,1,2,3,4,5,7,9,10,11,12,13,15,17,18,23,34,39,45,51,55,56,57,58,71,79,93,94,95,102,104],[11,5,3],[],[],[(22,⟨[0,0,0,4,14,31,63],[0,1,2,3],[(4,[0],[]),(5,[],[6])]⟩)]⟩
def t37L0:aJ:=(.seq (g_ [s_ 23 (.bin .lss aYh bGs)])
(.seq (.cond bHw
.skip
(.exit 1))
(.seq (.block 2
(h_ [o_ (.indexAddrS 1 bGr aYh),d_ r_0,w_ 7 r_1]
(g_ [v_ l_6,v_ l_7,o_ (.conv (.toInt .i64) r_1),c_ 59 [r_2],o_ (.lit false [(.int .u32 0)] 1 [(0,r_3)]),o_ (.append false 1 4 26 r_0 r_4),w_ 6 r_5])))
(g_ [o_ (.bin .add aYh (i_ 1)),w_ 22 r_0]))))
def t37:aV:=⟨2,31,[.loc 4],
(h_ [s_ 2 (.boxH 50 l_0),o_ (.boxL 3 l_1),s_ 4 (.mov (.cst (.int .u32 0)))]
(.seq (.seq (g_ [f_ 0 l_3,s_ 13 (.load1 r_0)])
(.block 0
(h_ [o_ (.bin .eql iK (i_ 1)),w_ 14 r_0]
(.cond vD
(h_ [f_ 1 l_3,d_ r_0,c_ 53 [r_1],w_ 4 r_2]
.ret)
(h_ [o_ (.bin .eql iK (i_ 2)),w_ 15 r_0]
(.cond aIj
(h_ [f_ 2 l_3,d_ r_0,c_ 54 [r_1],v_ r_2,o_ (.extract 0 r_3),o_ (.extract 1 r_3),o_ (.allocL 5 [(.bool false),(.sl .nil [])]),o_ (.store 2 r_6 r_4),v_ r_5]
(h_ [d_ l_2,o_ (.loadN 2 l_5),o_ (.call false false 55 [r_0,r_1]),w_ 4 r_2]
.ret))
(h_ [o_ (.bin .eql iK (i_ 3)),w_ 16 r_0]
(.cond aIk
(h_ [f_ 1 l_3,d_ r_0,c_ 56 [r_1],w_ 4 r_2]
.ret)
(h_ [o_ (.bin .eql iK (i_ 4)),w_ 17 r_0]
(.cond aRq
(h_ [d_ l_2,f_ 2 l_3,d_ r_1,o_ (.call false false 57 [r_0,r_2]),w_ 4 r_3]
.ret)
(h_ [o_ (.bin .eql iK (i_ 5)),w_ 18 r_0]
(.cond aRr
(h_ [d_ l_2,f_ 2 l_3,d_ r_1,o_ (.call false false 58 [r_0,r_2]),w_ 4 r_3]
.ret)
(h_ [o_ (.bin .eql iK (i_ 8)),w_ 19 r_0]
(.cond aRs
(h_ [w_ 6 N_]
(.seq (.seq (g_ [f_ 2 l_3,d_ r_0,s_ 20 (.conv .strBytes r_1),s_ 21 (.len .sl r_2),w_ 22 (i_ 0)])
(.block 1
(.loop t37L0)))
(h_ [d_ l_2,v_ l_6,o_ (.call false false 25 [r_0,(i_ 6),r_1]),w_ 4 r_2]
.ret)))
(h_ [o_ (.bin .eql iK (i_ 7)),w_ 24 r_0]
(.cond bIs
(.seq (.draw [0,1,2,3] [(4,[0],[]),(5,[],[6])] [d_ l_2,d_ l_2,f_ 3 l_3,d_ r_2,o_ (.call false false 24 [r_1,r_3]),o_ (.call false false 25 [r_0,(i_ 1),r_4]),w_ 4 r_5])
.ret)
(h_ [o_ (.bin .eql iK (i_ 6)),w_ 25 r_0]
(.cond bIt
(h_ [o_ (.loadN 5 l_3),c_ 12 [r_0],v_ r_1,o_ (.extract 0 r_2),o_ (.extract 1 r_2),o_ (.allocL 9 [(.int .i64 0),(.int .i64 0),(.str []),(.sl .nil []),(.int .i64 0)]),w_ 8 r_3,o_ (.store 5 r_5 r_4)]
(h_ [d_ l_2,v_ l_8,o_ (.call false false 24 [r_0,r_1]),w_ 10 r_2]
(h_ [d_ l_2,o_ (.loadN 5 l_9),o_ (.call false false 37 [r_0,r_1]),s_ 11 (.allocH 27 [(.int .u32 0)]),o_ (.store 1 r_3 r_2)]
(.seq (.seq (g_ [v_ gW,s_ 26 (.call false false 60 [r_0])])
(.block 3
(.rangeFunc bHx [27,28]
(g_ [w_ 12 bHy])
(.block 4
(g_ [d_ l_2,v_ uC,d_ jS,o_ (.lit false [(.int .u32 0)] 2 [(0,r_1),(1,r_2)]),o_ (.call false false 25 [r_0,(i_ 0),r_3]),o_ (.store 1 jS r_4)])))))
(h_ [d_ jS,w_ 4 r_0]
.ret)))))
(h_ [o_ (.bin .eql iK (i_ 9)),w_ 29 r_0]
(.cond bGt
(h_ [s_ 4 (.mov (.cst (.int .u32 54)))]
.ret)
(h_ [o_ (.bin .eql iK (i_ 10)),w_ 30 r_0]
(.cond bHz
(h_ [s_ 4 (.mov (.cst (.int .u32 70)))]
.ret)
.skip))))))))))))))))))))))
(h_ [s_ 4 (.mov (.cst (.int .u32 38)))]
.ret)))⟩
def a38:Ann:=⟨[0,1,2,3,4,5,6,8,17,25,34,39,48,56,57,63,73,78,83,87],[4,1],[],[],[]⟩
def t38L0:aJ:=(.seq (.seq (g_ [v_ l_6,f_ 3 l_4,d_ r_1,o_ (.len .sl r_2),s_ 11 (.bin .lss r_0 r_3)])
(.cond jS
.skip
(.exit 2)))
(.seq (.block 3
(h_ [f_ 3 l_4,d_ r_0,v_ l_6,o_ (.indexAddrS 5 r_1 r_2),o_ (.loadN 5 r_3),c_ 38 [r_4],s_ 12 (.un .not r_5)]
(.cond uC
(h_ [w_ 2 F_]
.ret)
.skip)))
(g_ [v_ l_6,o_ (.bin .add r_0 (i_ 1)),w_ 6 r_1])))
def t38L1:aJ:=(.seq (.seq (g_ [v_ l_5,v_ l_3,o_ (.len .sl r_1),s_ 8 (.bin .lss r_0 r_2)])
(.cond l_8
.skip
(.exit 0)))
(.seq (.block 1
(h_ [v_ l_3,v_ l_5,o_ (.indexAddrS 5 r_0 r_1),o_ (.loadN 5 r_2),c_ 38 [r_3],s_ 9 (.un .not r_4)]
(.cond l_9
(h_ [w_ 2 F_]
.ret)
.skip)))
(g_ [v_ l_5,o_ (.bin .add r_0 (i_ 1)),w_ 5 r_1])))
def t38:aV:=⟨1,20,[.loc 2],
(h_ [o_ (.boxL 1 l_0),w_ 2 F_]
(h_ [o_ (.loadN 5 l_1),c_ 61 [r_0],v_ r_1,o_ (.extract 0 r_2),o_ (.extract 1 r_2),o_ (.allocL 4 [(.int .i64 0),(.int .i64 0),(.str []),(.sl .nil []),(.int .i64 0)]),w_ 3 r_3,o_ (.store 5 r_5 r_4)]
(.seq (.seq (g_ [w_ 5 (i_ 0)])
(.block 0
(.loop t38L1)))
(.seq (.seq (g_ [f_ 0 l_4,d_ r_0,o_ (.bin .neq r_1 (i_ 7)),v_ r_2,y_ 3 (.fieldAddr 3 l_4),y_ 3 (.load1 r_4),y_ 3 (.len .sl r_5),y_ 3 (.bin .gtr r_6 (i_ 0)),s_ 10 (.pick r_3 r_7 F_)])
(.cond gW
(h_ [w_ 2 F_]
.ret)
.skip))
(.seq (.seq (g_ [w_ 6 (i_ 0)])
(.block 2
(.loop t38L0)))
(h_ [f_ 2 l_4,d_ r_0,c_ 62 [r_1],v_ r_2,o_ (.extract 0 r_3),o_ (.extract 1 r_3),v_ r_4,w_ 7 r_5]
(.seq (.seq (g_ [f_ 0 l_4,s_ 13 (.load1 r_0)])
(.block 4
(.seq (.seq (g_ [o_ (.bin .eql iK (i_ 0)),w_ 14 r_0])
(.cond vD
.skip
(h_ [o_ (.bin .eql iK (i_ 7)),w_ 14 r_0]
(.cond vD
.skip
(h_ [o_ (.bin .eql iK (i_ 8)),w_ 14 r_0]
(.cond vD
.skip
(h_ [o_ (.bin .eql iK (i_ 9)),w_ 14 r_0]
(.cond vD
.skip
(g_ [o_ (.bin .eql iK (i_ 10)),w_ 14 r_0])))))))))
(.cond vD
(h_ [w_ 2 T_]
.ret)
(h_ [o_ (.bin .eql iK (i_ 1)),w_ 15 r_0]
(.cond aIj
(h_ [f_ 1 l_4,d_ r_0,o_ (.bin .eql r_1 (i_ 0)),v_ r_2,x_ 3 (.fieldAddr 1 l_4),x_ 3 (.load1 r_4),x_ 3 (.bin .eql r_5 (i_ 1)),o_ (.pick r_3 T_ r_6),w_ 2 r_7]
.ret)
(h_ [o_ (.bin .eql iK (i_ 2)),w_ 16 r_0]
(.cond aIk
(h_ [f_ 2 l_4,d_ r_0,c_ 63 [r_1],w_ 2 r_2]
.ret)
(h_ [o_ (.bin .eql iK (i_ 3)),w_ 17 r_0]
(.cond aRq
(h_ [f_ 1 l_4,d_ r_0,c_ 64 [r_1],w_ 2 r_2]
.ret)
(h_ [o_ (.bin .eql iK (i_ 4)),w_ 18 r_0]
(.cond aRr
(h_ [v_ l_7,o_ (.bin .eql r_0 (i_ 0)),w_ 2 r_1]
.ret)
(h_ [o_ (.bin .eql iK (i_ 5)),w_ 19 r_0]
(.cond aRs
(h_ [v_ l_7,o_ (.bin .eql r_0 (i_ 0)),v_ r_1,y_ 2 (.fieldAddr 2 l_4),y_ 2 (.load1 r_3),y_ 2 (.len .str r_4),y_ 2 (.bin .gtr r_5 (i_ 0)),o_ (.pick r_2 r_6 F_),w_ 2 r_7]
.ret)
.skip))))))))))))))
(h_ [w_ 2 F_]
.ret))))))))⟩
def a39:Ann:=⟨[0,1,2,3,11,16,25],[1],[],[],[]⟩
def t39L0:aJ:=(.seq (.seq (g_ [v_ l_3,f_ 3 l_1,d_ r_1,o_ (.len .sl r_2),s_ 5 (.bin .lss r_0 r_3)])
(.cond l_5
.skip
(.exit 0)))
(.seq (.block 1
(h_ [f_ 3 l_1,d_ r_0,v_ l_3,o_ (.indexAddrS 5 r_1 r_2),o_ (.loadN 5 r_3),c_ 39 [r_4],s_ 6 (.un .not r_5)]
(.cond l_6
(h_ [w_ 2 F_]
.ret)
.skip)))
(g_ [v_ l_3,o_ (.bin .add r_0 (i_ 1)),w_ 3 r_1])))
def t39:aV:=⟨1,7,[.loc 2],
(h_ [o_ (.boxL 1 l_0),w_ 2 F_]
(.seq (.seq (g_ [f_ 0 l_1,d_ r_0,o_ (.bin .eql r_1 (i_ 5)),v_ r_2,y_ 3 (.fieldAddr 1 l_1),y_ 3 (.load1 r_4),y_ 3 (.bin .neq r_5 (i_ 0)),s_ 4 (.pick r_3 r_6 F_)])
(.cond l_4
(h_ [w_ 2 F_]
.ret)
.skip))
(.seq (.seq (g_ [w_ 3 (i_ 0)])
(.block 0
(.loop t39L0)))
(h_ [w_ 2 T_]
.ret))))⟩
def a40:Ann:=⟨[0,1,4,5,6,7,11],[7],[],[],[]⟩
def t40L0:aJ:=(.seq (.seq (g_ [v_ l_4,v_ l_1,o_ (.len .sl r_1),s_ 6 (.bin .lss r_0 r_2)])
(.cond l_6
.skip
(.exit 0)))
(.seq (.block 1
(h_ [v_ l_0,v_ l_1,v_ l_4,o_ (.indexAddrS 5 r_1 r_2),o_ (.loadN 5 r_3),o_ (.call false false 65 [r_0,r_4]),o_ (.allocL 5 [(.int .i64 0),(.int .i64 0)]),o_ (.store 2 r_6 r_5)]
(g_ [v_ l_3,o_ (.loadN 2 l_5),o_ (.lit false [(.int .i64 0),(.int .i64 0)] 1 [(0,r_1)]),o_ (.append false 2 16 73 r_0 r_2),w_ 3 r_3])))
(g_ [v_ l_4,o_ (.bin .add r_0 (i_ 1)),w_ 4 r_1])))
def t40:aV:=⟨2,7,[.loc 2],
(h_ [w_ 2 N_]
(h_ [w_ 3 N_]
(.seq (.seq (g_ [w_ 4 (i_ 0)])
(.block 0
(.loop t40L0)))
(h_ [v_ l_3,w_ 2 r_0]
.ret))))⟩
def a41:Ann:=⟨[0,2,3,4,5,6,14],[],[],[],[]⟩
def t41L0:aJ:=(.seq (.seq (g_ [v_ l_5,s_ 6 (.bin .geq r_0 (i_ 0))])
(.cond l_6
.skip
(.exit 0)))
(.seq (.block 1
(h_ [v_ l_4,o_ (.bin .mul (i_ 10) r_0),v_ l_0,v_ l_5,o_ (.indexAddrS 1 r_2 r_3),d_ r_4,o_ (.bin .add r_1 r_5),w_ 4 r_6]
(h_ [v_ l_3,v_ l_5,v_ l_4,o_ (.bin .quo r_2 (i_ 65536)),o_ (.indexAddrS 1 r_0 r_1),o_ (.store 1 r_4 r_3)]
(g_ [v_ l_4,o_ (.bin .rem r_0 (i_ 65536)),w_ 4 r_1]))))
(g_ [v_ l_5,o_ (.bin .sub r_0 (i_ 1)),w_ 5 r_1])))
def t41:aV:=⟨1,7,[.loc 1,.loc 2],
(h_ [w_ 1 N_,w_ 2 (i_ 0)]
(h_ [v_ l_0,o_ (.len .sl r_0),o_ (.mkSlice [(.int .i64 0)] 8 r_1 r_1),w_ 3 r_2]
(h_ [w_ 4 (i_ 0)]
(.seq (.seq (g_ [v_ l_0,o_ (.len .sl r_0),o_ (.bin .sub r_1 (i_ 1)),w_ 5 r_2])
(.block 0
(.loop t41L0)))
(h_ [v_ l_3,c_ 66 [r_0],v_ l_4,w_ 1 r_1,w_ 2 r_2]
.ret)))))⟩
def a50:Ann:=⟨[0,2,3,16],[],[],[],[]⟩
def t50:aV:=⟨1,4,[.loc 1],
(h_ [w_ 1 F_]
(h_ [v_ l_0,o_ (.call true false 75 [r_0,(.cst (.str [45]))]),w_ 2 r_1]
(.seq (.seq (g_ [v_ l_2,o_ (.bin .eql r_0 (.cst (.str []))),v_ r_1,x_ 2 (.mov l_2),x_ 2 (.indexS r_3 (i_ 0)),x_ 2 (.bin .eql r_4 (.cst (.int .u8 48))),x_ 2 (.mov r_5),y_ 6 (.mov l_0),y_ 6 (.bin .neq r_7 (.cst (.str [48]))),x_ 2 (.pick r_6 r_8 F_),s_ 3 (.pick r_2 T_ r_9)])
(.cond l_3
(h_ [w_ 1 F_]
.ret)
.skip))
(h_ [v_ l_2,o_ (.call false false 76 [r_0,(.fn 77)]),o_ (.un .not r_1),w_ 1 r_2]
.ret))))⟩
def a51:Ann:=⟨[0,2],[],[],[],[]⟩
def t51:aV:=⟨1,2,[.loc 1],
(h_ [w_ 1 F_]
(h_ [v_ l_0,o_ (.bin .geq r_0 (i_ 0)),v_ r_1,y_ 2 (.mov l_0),y_ 2 (.bin .leq r_3 (i_ 1114111)),o_ (.pick r_2 r_4 F_),v_ r_5,y_ 6 (.mov l_0),y_ 6 (.conv (.toInt .i32) r_7),y_ 6 (.call true false 78 [r_8]),o_ (.pick r_6 r_9 F_),w_ 1 kR]
.ret))⟩
def a52:Ann:=⟨[0,2,3,4,5,6,8,17,20,21,22,23],[8,5],[],[],[(3,⟨[0,1,0,7],[0,1,2,3],[]⟩)]⟩
def t52L0:aJ:=(.seq (g_ [s_ 11 (.bin .lss gW l_9)])
(.seq (.cond jS
.skip
(.exit 0))
(.seq (.block 1
(h_ [o_ (.indexAddrS 2 l_8 gW),o_ (.loadN 2 r_0),o_ (.allocL 6 [(.int .i64 0),(.int .i64 0)]),o_ (.store 2 r_2 r_1)]
(g_ [v_ l_5,f_ 0 l_6,d_ r_1,o_ (.lit false [(.int .i64 0)] 1 [(0,r_2)]),o_ (.append false 1 8 3 r_0 r_3),w_ 5 r_4])))
(g_ [o_ (.bin .add gW (i_ 1)),w_ 10 r_0]))))
def t52:aV:=⟨1,12,[.loc 1,.loc 2],
(h_ [w_ 1 N_,w_ 2 (i_ 0)]
(h_ [v_ l_0,o_ (.conv .strBytes r_0),c_ 79 [r_1],v_ r_2,o_ (.extract 0 r_3),o_ (.extract 1 r_3),o_ (.allocL 4 [(.int .i64 0),(.int .i64 0)]),w_ 3 r_4,o_ (.store 2 r_6 r_5)]
(.seq (.seq (g_ [f_ 0 l_4,d_ r_0,s_ 7 (.bin .neq r_1 (i_ 0))])
(.cond l_7
(.seq (.draw [0,1,2,3] [] [f_ 0 l_4,d_ r_0,w_ 1 N_,w_ 2 r_1])
.ret)
.skip))
(h_ [w_ 5 N_]
(.seq (.seq (g_ [w_ 8 l_3,s_ 9 (.len .sl r_0),w_ 10 (i_ 0)])
(.block 0
(.loop t52L0)))
(h_ [v_ l_5,w_ 1 r_0,w_ 2 (i_ 0)]
.ret))))))⟩
def a53:Ann:=⟨[0,2,4],[],[],[],[]⟩
def t53:aV:=⟨1,3,[.loc 1],
(h_ [s_ 1 (.mov (.cst (.int .u32 0)))]
(.seq (.seq (g_ [v_ l_0,s_ 2 (.bin .neq r_0 (i_ 0))])
(.cond l_2
(h_ [s_ 1 (.mov (.cst (.int .u32 22)))]
.ret)
.skip))
(h_ [s_ 1 (.mov (.cst (.int .u32 6)))]
.ret)))⟩
def a54:Ann:=⟨[0,2,3,4,5,7,19,22,23,24,25,33],[2],[],[],[]⟩
def t54L0:aJ:=(.seq (g_ [s_ 10 (.bin .lss l_9 l_8)])
(.seq (.cond gW
.skip
(.exit 0))
(.seq (.block 1
(h_ [o_ (.indexAddrS 1 l_7 l_9),d_ r_0,w_ 5 r_1]
(.seq (.seq (g_ [v_ l_5,o_ (.bin .lss r_0 (.cst (.int .u8 48))),v_ r_1,x_ 2 (.mov l_5),x_ 2 (.bin .gtr r_3 (.cst (.int .u8 57))),s_ 11 (.pick r_2 T_ r_4)])
(.cond jS
(h_ [o_ (.build [(.bool false),(.sl .nil [])] []),o_ (.store 2 l_1 r_0),w_ 2 (i_ 4)]
.ret)
.skip))
(g_ [v_ l_4,v_ l_5,o_ (.bin .sub r_1 (.cst (.int .u8 48))),o_ (.conv (.toInt .u32) r_2),c_ 82 [r_0,(.cst (.int .u32 10)),r_3],c_ 81 [r_4],w_ 4 r_5]))))
(g_ [o_ (.bin .add l_9 (i_ 1)),w_ 9 r_0]))))
def t54:aV:=⟨1,12,[.cell 1 2 true,.loc 2],
(h_ [o_ (.allocL 1 [(.bool false),(.sl .nil [])]),w_ 2 (i_ 0)]
(h_ [v_ l_0,o_ (.call true false 80 [r_0,(.cst (.str [43,45]))]),w_ 3 r_1]
(.seq (.seq (g_ [v_ l_0,o_ (.len .str r_0),v_ l_3,o_ (.len .str r_2),o_ (.bin .sub r_1 r_3),o_ (.bin .gtr r_4 (i_ 1)),v_ r_5,x_ 6 (.mov l_3),x_ 6 (.bin .eql r_7 (.cst (.str []))),s_ 6 (.pick r_6 T_ r_8)])
(.cond l_6
(h_ [o_ (.build [(.bool false),(.sl .nil [])] []),o_ (.store 2 l_1 r_0),w_ 2 (i_ 4)]
.ret)
.skip))
(h_ [w_ 4 N_]
(.seq (.seq (g_ [v_ l_3,s_ 7 (.conv .strBytes r_0),s_ 8 (.len .sl r_1),w_ 9 (i_ 0)])
(.block 0
(.loop t54L0)))
(h_ [v_ l_0,o_ (.indexS r_0 (i_ 0)),o_ (.bin .eql r_1 (.cst (.int .u8 45))),v_ l_4,c_ 83 [r_2,r_3],o_ (.store 2 l_1 r_4),w_ 2 (i_ 0)]
.ret))))))⟩
def a55:Ann:=⟨[0,1,3,4,5,6,7,9,15,21,26,27,28,29],[3],[(4,1)],[],[]⟩
def t55L0:aJ:=(.seq (g_ [s_ 13 (.bin .lss uC jS)])
(.seq (.cond iK
.skip
(.exit 0))
(.seq (.block 1
(h_ [o_ (.indexAddrS 1 gW uC),d_ r_0,w_ 7 r_1]
(g_ [v_ l_6,v_ l_7,o_ (.conv (.toInt .i64) r_1),c_ 59 [r_2],o_ (.lit false [(.int .u32 0)] 1 [(0,r_3)]),o_ (.append false 1 4 26 r_0 r_4),w_ 6 r_5])))
(g_ [o_ (.bin .add uC (i_ 1)),w_ 12 r_0]))))
def t55:aV:=⟨2,14,[.loc 3],
(h_ [o_ (.boxL 2 l_1),s_ 3 (.mov (.cst (.int .u32 0)))]
(.seq (.seq (g_ [o_ (.loadN 2 l_2),c_ 74 [r_0],v_ r_1,o_ (.extract 0 r_2),o_ (.extract 1 r_2),w_ 4 r_3,w_ 5 r_4])
(h_ [w_ 8 l_5]
(.cond l_8
(h_ [v_ l_4,c_ 59 [r_0],w_ 3 r_1]
.ret)
.skip)))
(h_ [c_ 59 [(i_ 0)],o_ (.lit true [(.int .u32 0)] 1 [(0,r_0)]),w_ 6 r_1]
(.seq (.seq (g_ [f_ 0 l_2,s_ 9 (.load1 r_0)])
(.cond l_9
(g_ [v_ l_6,c_ 59 [(i_ 1)],o_ (.indexAddrS 1 r_0 (i_ 0)),o_ (.store 1 r_2 r_1)])
.skip))
(.seq (.seq (g_ [f_ 1 l_2,s_ 10 (.load1 r_0),s_ 11 (.len .sl r_1),w_ 12 (i_ 0)])
(.block 0
(.loop t55L0)))
(h_ [v_ l_0,v_ l_6,o_ (.call false false 25 [r_0,(i_ 7),r_1]),w_ 3 r_2]
.ret))))))⟩
def a56:Ann:=⟨[0,2],[],[],[],[]⟩
def t56:aV:=⟨1,2,[.loc 1],
(h_ [s_ 1 (.mov (.cst (.int .u32 0)))]
(h_ [v_ l_0,o_ (.conv (.toInt .u32) r_0),o_ (.bin .shl r_1 (.cst (.int .u64 4))),o_ (.bin .or r_2 (.cst (.int .u32 2))),w_ 1 r_3]
.ret))⟩
def a57:Ann:=⟨[0,1,4,5,7,9,15,16,17,18],[],[],[],[]⟩
def t57L0:aJ:=(.seq (g_ [s_ 9 (.bin .lss l_8 l_7)])
(.seq (.cond l_9
.skip
(.exit 0))
(.seq (.block 1
(h_ [o_ (.indexAddrS 1 l_6 l_8),d_ r_0,w_ 5 r_1]
(g_ [v_ l_4,v_ l_5,c_ 56 [r_1],o_ (.lit false [(.int .u32 0)] 1 [(0,r_2)]),o_ (.append false 1 4 26 r_0 r_3),w_ 4 r_4])))
(g_ [o_ (.bin .add l_8 (i_ 1)),w_ 8 r_0]))))
def t57:aV:=⟨2,10,[.loc 2],
(h_ [s_ 2 (.mov (.cst (.int .u32 0)))]
(h_ [v_ l_1,c_ 52 [r_0],v_ r_1,o_ (.extract 0 r_2),o_ (.extract 1 r_2),w_ 3 r_3,v_ r_4]
(h_ [w_ 4 N_]
(.seq (.seq (g_ [w_ 6 l_3,s_ 7 (.len .sl r_0),w_ 8 (i_ 0)])
(.block 0
(.loop t57L0)))
(h_ [v_ l_0,v_ l_4,o_ (.call false false 25 [r_0,(i_ 4),r_1]),w_ 2 r_2]
.ret)))))⟩
def a58:Ann:=⟨[0,1,4,5,6,7,17],[5],[],[],[]⟩
def t58:aV:=⟨2,7,[.loc 2],
(h_ [s_ 2 (.mov (.cst (.int .u32 0)))]
(.seq (.seq (g_ [v_ l_0,o_ (.nilCheck r_0),f_ 2 r_1,d_ r_2,v_ l_1,o_ (.lookup (.leaf .str) (.agg [(.int .u32 0)]) true r_3 r_4),v_ r_5,o_ (.extract 0 r_6),o_ (.extract 1 r_6),o_ (.allocL 3 [(.int .u32 0)]),o_ (.store 1 r_9 r_7),w_ 4 r_8])
(h_ [w_ 6 l_4]
(.cond l_6
(h_ [f_ 0 l_3,d_ r_0,w_ 2 r_1]
.ret)
.skip)))
(h_ [v_ l_0,v_ l_0,v_ l_1,o_ (.call false false 57 [r_1,r_2]),o_ (.lit false [(.int .u32 0)] 1 [(0,r_3)]),o_ (.call false false 25 [r_0,(i_ 5),r_4]),w_ 5 r_5]
(h_ [v_ l_0,o_ (.nilCheck r_0),f_ 2 r_1,d_ r_2,v_ l_1,v_ l_5,o_ (.build [(.int .u32 0)] [(0,1,r_5)]),o_ (.update (.leaf .str) r_3 r_4 r_6)]
(h_ [v_ l_0,v_ l_0,o_ (.nilCheck r_1),f_ 3 r_2,d_ r_3,v_ l_5,o_ (.lit false [(.int .u32 0)] 1 [(0,r_5)]),o_ (.append false 1 4 26 r_4 r_6),o_ (.nilCheck r_0),f_ 3 r_8,o_ (.store 1 r_9 r_7)]
(h_ [v_ l_5,w_ 2 r_0]
.ret))))))⟩
def a59:Ann:=⟨[0,2],[],[],[],[]⟩
def t59:aV:=⟨1,2,[.loc 1],
(h_ [s_ 1 (.mov (.cst (.int .u32 0)))]
(h_ [v_ l_0,o_ (.conv (.toInt .u32) r_0),o_ (.bin .shl r_1 (.cst (.int .u64 2))),w_ 1 r_2]
.ret))⟩
def a60:Ann:=⟨[0,1,2],[],[],[],[]⟩
def t60:aV:=⟨1,3,[.loc 2],
(h_ [s_ 1 (.boxH 26 l_0),s_ 2 (.mov (.cst .nilf))]
(h_ [o_ (.mkFn 84 [] [l_1]),w_ 2 r_0]
.ret))⟩
def a61:Ann:=⟨[0,1,2,3,4,13],[3,1],[],[],[(5,⟨[0,0,1,7],[0,1,2],[(3,[],[])]⟩)]⟩
def t61L0:aJ:=(.seq (.seq (g_ [f_ 0 l_1,d_ r_0,o_ (.bin .eql r_1 (i_ 6)),v_ r_2,y_ 3 (.fieldAddr 3 l_1),y_ 3 (.load1 r_4),y_ 3 (.len .sl r_5),y_ 3 (.bin .eql r_6 (i_ 2)),s_ 5 (.pick r_3 r_7 F_)])
(.cond l_5
.skip
(.exit 0)))
(.block 1
(h_ [v_ l_4,f_ 3 l_1,d_ r_1,o_ (.indexAddrS 5 r_2 (i_ 0)),o_ (.loadN 5 r_3),o_ (.lit false [(.int .i64 0),(.int .i64 0),(.str []),(.sl .nil []),(.int .i64 0)] 1 [(0,r_4)]),o_ (.append false 5 64 37 r_0 r_5),w_ 4 r_6]
(g_ [f_ 3 l_1,d_ r_0,o_ (.indexAddrS 5 r_1 (i_ 1)),o_ (.loadN 5 r_2),o_ (.store 5 l_1 r_3)]))))
def t61:aV:=⟨1,6,[.loc 2,.cell 3 5 true],
(h_ [o_ (.boxL 1 l_0),w_ 2 N_,o_ (.allocL 3 [(.int .i64 0),(.int .i64 0),(.str []),(.sl .nil []),(.int .i64 0)])]
(h_ [w_ 4 N_]
(.seq (.block 0
(.loop t61L0))
(.seq (.draw [0,1,2] [(3,[],[])] [v_ l_4,o_ (.loadN 5 l_1),w_ 2 r_0,o_ (.store 5 l_3 r_1)])
.ret))))⟩
def a62:Ann:=⟨[0,2,3,4,5,7,8,17,22],[],[],[],[]⟩
def t62L0:aJ:=(.seq (.seq (g_ [v_ l_6,v_ l_3,o_ (.len .sl r_1),s_ 8 (.bin .lss r_0 r_2)])
(.cond l_8
.skip
(.exit 0)))
(.seq (.block 1
(g_ [v_ l_5,v_ l_3,v_ l_6,o_ (.indexAddrS 2 r_1 r_2),f_ 0 r_3,d_ r_4,o_ (.lit false [(.int .i64 0)] 1 [(0,r_5)]),o_ (.append false 1 8 3 r_0 r_6),w_ 5 r_7]))
(g_ [v_ l_6,o_ (.bin .add r_0 (i_ 1)),w_ 6 r_1])))
def t62:aV:=⟨1,9,[.loc 1,.loc 2],
(h_ [w_ 1 N_,w_ 2 (i_ 0)]
(h_ [v_ l_0,o_ (.conv .strBytes r_0),c_ 85 [r_1],v_ r_2,o_ (.extract 0 r_3),o_ (.extract 1 r_3),o_ (.extract 2 r_3),w_ 3 r_4,w_ 4 r_5,v_ r_6]
(.seq (.seq (g_ [v_ l_4,s_ 7 (.bin .neq r_0 (i_ 0))])
(.cond l_7
(h_ [v_ l_4,w_ 1 N_,w_ 2 r_0]
.ret)
.skip))
(h_ [w_ 5 N_]
(.seq (.seq (g_ [w_ 6 (i_ 0)])
(.block 0
(.loop t62L0)))
(h_ [v_ l_5,w_ 1 r_0,w_ 2 (i_ 0)]
.ret))))))⟩
def a63:Ann:=⟨[0,2,3,5,13,23,27,39],[],[],[],[]⟩
def t63L0:aJ:=(.seq (.seq (g_ [v_ l_2,v_ l_0,o_ (.len .str r_1),s_ 6 (.bin .lss r_0 r_2)])
(.cond l_6
.skip
(.exit 0)))
(.seq (.block 1
(h_ [v_ l_0,v_ l_2,o_ (.indexS r_0 r_1),o_ (.bin .lss r_2 (.cst (.int .u8 48))),v_ r_3,x_ 4 (.mov l_0),x_ 4 (.mov l_2),x_ 4 (.indexS r_5 r_6),x_ 4 (.bin .gtr r_7 (.cst (.int .u8 57))),s_ 7 (.pick r_4 T_ r_8)]
(.cond l_7
(h_ [w_ 1 F_]
.ret)
.skip)))
(g_ [v_ l_2,o_ (.bin .add r_0 (i_ 1)),w_ 2 r_1])))
def t63:aV:=⟨1,8,[.loc 1],
(h_ [w_ 1 F_]
(.seq (.seq (g_ [v_ l_0,s_ 3 (.bin .eql r_0 (.cst (.str [48])))])
(.cond l_3
(h_ [w_ 1 T_]
.ret)
.skip))
(.seq (.seq (g_ [v_ l_0,o_ (.len .str r_0),o_ (.bin .gtr r_1 (i_ 0)),v_ r_2,y_ 3 (.mov l_0),y_ 3 (.indexS r_4 (i_ 0)),y_ 3 (.bin .eql r_5 (.cst (.int .u8 45))),s_ 4 (.pick r_3 r_6 F_)])
(.cond l_4
(g_ [v_ l_0,o_ (.slice .str r_0 (some (i_ 1)) none none),w_ 0 r_1])
.skip))
(.seq (.seq (g_ [v_ l_0,o_ (.len .str r_0),o_ (.bin .eql r_1 (i_ 0)),v_ r_2,x_ 3 (.mov l_0),x_ 3 (.indexS r_4 (i_ 0)),x_ 3 (.bin .eql r_5 (.cst (.int .u8 48))),s_ 5 (.pick r_3 T_ r_6)])
(.cond l_5
(h_ [w_ 1 F_]
.ret)
.skip))
(.seq (.seq (g_ [w_ 2 (i_ 0)])
(.block 0
(.loop t63L0)))
(h_ [w_ 1 T_]
.ret))))))⟩
def a64:Ann:=⟨[0,2],[],[],[],[]⟩
def t64:aV:=⟨1,2,[.loc 1],
(h_ [w_ 1 F_]
(h_ [v_ l_0,o_ (.bin .geq r_0 (i_ 0)),v_ r_1,y_ 2 (.mov l_0),y_ 2 (.bin .leq r_3 (i_ 1114111)),o_ (.pick r_2 r_4 F_),v_ r_5,y_ 6 (.mov l_0),y_ 6 (.bin .lss r_7 (i_ 55296)),y_ 6 (.mov r_8),x_ 9 (.mov l_0),x_ 9 (.bin .gtr kR (i_ 57343)),y_ 6 (.pick r_9 T_ mF),o_ (.pick r_6 oA F_),w_ 1 aAv]
.ret))⟩
def a65:Ann:=⟨[0,1,3,4,5,7,8,9,10,11,12,13,16,22,28,40,49,57,62,80,91,109,113],[13,11,5,4,3],[],[],[]⟩
def t65L0:aJ:=(.seq (.seq (g_ [v_ l_6,f_ 2 l_2,d_ r_1,o_ (.len .str r_2),s_ 18 (.bin .lss r_0 r_3)])
(.cond aRr
.skip
(.exit 0)))
(.seq (.block 1
(g_ [v_ l_5,f_ 2 l_2,d_ r_1,v_ l_6,o_ (.indexS r_2 r_3),o_ (.conv (.toInt .i64) r_4),o_ (.build [(.int .i64 0),(.int .i64 0)] [(0,1,(i_ 1)),(1,1,r_5)]),o_ (.lit false [(.int .i64 0),(.int .i64 0)] 1 [(0,r_6)]),o_ (.append false 2 16 73 r_0 r_7),w_ 5 r_8]))
(g_ [v_ l_6,o_ (.bin .add r_0 (i_ 1)),w_ 6 r_1])))
def t65:aV:=⟨2,23,[.cell 3 2 true],
(h_ [o_ (.boxL 2 l_1),o_ (.allocL 3 [(.int .i64 0),(.int .i64 0)])]
(.seq (.seq (g_ [f_ 0 l_2,d_ r_0,s_ 12 (.bin .eql r_1 (i_ 1))])
(.cond uC
(h_ [f_ 1 l_2,d_ r_0,o_ (.build [(.int .i64 0),(.int .i64 0)] [(0,1,(i_ 3)),(1,1,r_1)]),o_ (.store 2 l_3 r_2)]
.ret)
.skip))
(.seq (.seq (g_ [f_ 0 l_2,d_ r_0,s_ 13 (.bin .eql r_1 (i_ 3))])
(.cond iK
(h_ [f_ 1 l_2,d_ r_0,o_ (.build [(.int .i64 0),(.int .i64 0)] [(0,1,(i_ 2)),(1,1,r_1)]),o_ (.store 2 l_3 r_2)]
.ret)
.skip))
(.seq (.seq (g_ [f_ 0 l_2,d_ r_0,s_ 14 (.bin .eql r_1 (i_ 2))])
(.cond vD
(h_ [f_ 2 l_2,d_ r_0,c_ 86 [r_1],v_ r_2,o_ (.extract 0 r_3),o_ (.extract 1 r_3),o_ (.allocL 4 [(.bool false),(.sl .nil [])]),o_ (.store 2 r_6 r_4),v_ r_5]
(h_ [v_ l_0,o_ (.loadN 2 l_4),o_ (.call false false 87 [r_0,r_1]),o_ (.store 2 l_3 r_2)]
.ret))
.skip))
(.seq (.seq (g_ [f_ 0 l_2,d_ r_0,s_ 15 (.bin .eql r_1 (i_ 4))])
(.cond aIj
(h_ [v_ l_0,f_ 2 l_2,d_ r_1,c_ 89 [r_2],o_ (.build [(.int .i64 0),(.int .i64 0),(.sl .nil []),(.bool false),(.sl .nil [])] [(0,1,(i_ 4)),(2,1,r_3)]),o_ (.call false false 88 [r_0,r_4]),o_ (.store 2 l_3 r_5)]
.ret)
.skip))
(.seq (.seq (g_ [f_ 0 l_2,d_ r_0,s_ 16 (.bin .eql r_1 (i_ 5))])
(.cond aIk
(h_ [v_ l_0,f_ 2 l_2,d_ r_1,c_ 89 [r_2],o_ (.call false false 90 [r_0,r_3]),o_ (.store 2 l_3 r_4)]
.ret)
.skip))
(.seq (.seq (g_ [f_ 0 l_2,d_ r_0,s_ 17 (.bin .eql r_1 (i_ 8))])
(.cond aRq
(h_ [w_ 5 N_]
(.seq (.seq (g_ [w_ 6 (i_ 0)])
(.block 0
(.loop t65L0)))
(h_ [v_ l_0,v_ l_5,o_ (.build [(.int .i64 0),(.int .i64 0),(.sl .nil []),(.bool false),(.sl .nil [])] [(0,1,(i_ 6)),(2,1,r_1)]),o_ (.call false false 88 [r_0,r_2]),o_ (.store 2 l_3 r_3)]
.ret)))
.skip))
(.seq (.seq (g_ [f_ 0 l_2,d_ r_0,s_ 19 (.bin .eql r_1 (i_ 7))])
(.cond aRs
(h_ [v_ l_0,f_ 3 l_2,d_ r_1,o_ (.call false false 40 [r_0,r_2]),w_ 7 r_3]
(h_ [v_ l_0,v_ l_7,o_ (.build [(.int .i64 0),(.int .i64 0),(.sl .nil []),(.bool false),(.sl .nil [])] [(0,1,(i_ 1)),(2,1,r_1)]),o_ (.call false false 88 [r_0,r_2]),o_ (.store 2 l_3 r_3)]
.ret))
.skip))
(.seq (.seq (g_ [f_ 0 l_2,d_ r_0,s_ 20 (.bin .eql r_1 (i_ 6))])
(.cond bGr
(h_ [o_ (.loadN 5 l_2),c_ 61 [r_0],v_ r_1,o_ (.extract 0 r_2),o_ (.extract 1 r_2),o_ (.allocL 9 [(.int .i64 0),(.int .i64 0),(.str []),(.sl .nil []),(.int .i64 0)]),w_ 8 r_3,o_ (.store 5 r_5 r_4)]
(h_ [v_ l_0,v_ l_8,o_ (.call false false 40 [r_0,r_1]),w_ 10 r_2]
(h_ [v_ l_0,o_ (.loadN 5 l_9),o_ (.call false false 65 [r_0,r_1]),o_ (.allocL 11 [(.int .i64 0),(.int .i64 0)]),o_ (.store 2 r_3 r_2)]
(h_ [v_ l_0,v_ gW,o_ (.loadN 2 jS),o_ (.call false false 91 [r_0,r_1,r_2]),o_ (.store 2 l_3 r_3)]
.ret))))
.skip))
(.seq (.seq (g_ [f_ 0 l_2,d_ r_0,s_ 21 (.bin .eql r_1 (i_ 9))])
(.cond bGs
(h_ [o_ (.build [(.int .i64 0),(.int .i64 0)] [(0,1,(i_ 5)),(1,1,(i_ 0))]),o_ (.store 2 l_3 r_0)]
.ret)
.skip))
(.seq (.seq (g_ [f_ 0 l_2,d_ r_0,s_ 22 (.bin .eql r_1 (i_ 10))])
(.cond aYh
(h_ [o_ (.build [(.int .i64 0),(.int .i64 0)] [(0,1,(i_ 6)),(1,1,(i_ 0))]),o_ (.store 2 l_3 r_0)]
.ret)
.skip))
(h_ [o_ (.build [(.int .i64 0),(.int .i64 0)] [(0,1,(i_ 4)),(1,1,(i_ 0))]),o_ (.store 2 l_3 r_0)]
.ret))))))))))))⟩
def a66:Ann:=⟨[0,2,3,15],[],[],[],[]⟩
def t66L0:aJ:=(.seq (.seq (g_ [v_ l_2,o_ (.bin .gtr r_0 (i_ 0)),v_ r_1,y_ 2 (.mov l_0),y_ 2 (.mov l_2),y_ 2 (.bin .sub r_4 (i_ 1)),y_ 2 (.indexAddrS 1 r_3 r_5),y_ 2 (.load1 r_6),y_ 2 (.bin .eql r_7 (i_ 0)),s_ 3 (.pick r_2 r_8 F_)])
(.cond l_3
.skip
(.exit 0)))
(.block 1
(g_ [v_ l_2,o_ (.bin .sub r_0 (i_ 1)),w_ 2 r_1])))
def t66:aV:=⟨1,4,[.loc 1],
(h_ [w_ 1 N_]
(h_ [v_ l_0,o_ (.len .sl r_0),w_ 2 r_1]
(.seq (.block 0
(.loop t66L0))
(h_ [v_ l_0,v_ l_2,o_ (.slice (.sl 1) r_0 none (some r_1) none),w_ 1 r_2]
.ret))))⟩
def a74:Ann:=⟨[0,1,2,3,4,5,20],[1],[],[],[]⟩
def t74:aV:=⟨1,7,[.loc 2,.loc 3],
(h_ [o_ (.boxL 1 l_0),w_ 2 (i_ 0),w_ 3 F_]
(h_ [o_ (.loadN 2 l_1),c_ 100 [r_0],v_ r_1,o_ (.extract 0 r_2),o_ (.extract 1 r_2),w_ 4 r_3,w_ 5 r_4]
(.seq (.seq (g_ [v_ l_5,o_ (.un .not r_0),v_ r_1,x_ 2 (.mov l_4),x_ 2 (.bin .lss r_3 (i_ (-536870912))),o_ (.pick r_2 T_ r_4),v_ r_5,x_ 6 (.mov l_4),x_ 6 (.bin .gtr r_7 (i_ 536870911)),s_ 6 (.pick r_6 T_ r_8)])
(.cond l_6
(h_ [w_ 2 (i_ 0),w_ 3 F_]
.ret)
.skip))
(h_ [v_ l_4,w_ 2 r_0,w_ 3 T_]
.ret))))⟩
def a75:Ann:=⟨[0,1,4],[],[],[],[]⟩
def t75:aV:=⟨2,3,[.loc 2],
(h_ [s_ 2 (.mov (.cst (.str [])))]
(h_ [v_ l_0,v_ l_1,c_ 101 [r_0,r_1],w_ 2 r_2]
.ret))⟩
def a76:Ann:=⟨[0,1,4],[],[],[],[]⟩
def t76:aV:=⟨2,3,[.loc 2],
(h_ [w_ 2 F_]
(h_ [v_ l_0,v_ l_1,o_ (.call false false 102 [r_0,r_1]),o_ (.bin .geq r_2 (i_ 0)),w_ 2 r_3]
.ret))⟩
def a77:Ann:=⟨[0,2],[],[],[],[]⟩
def t77:aV:=⟨1,2,[.loc 1],
(h_ [w_ 1 F_]
(h_ [v_ l_0,o_ (.bin .lss r_0 (.cst (.int .i32 48))),v_ r_1,x_ 2 (.mov l_0),x_ 2 (.bin .gtr r_3 (.cst (.int .i32 57))),o_ (.pick r_2 T_ r_4),w_ 1 r_5]
.ret))⟩
def a78:Ann:=⟨[0,2,3,10],[],[],[],[]⟩
def t78:aV:=⟨1,4,[.loc 1],
(h_ [w_ 1 F_]
(.seq (.block 0
(h_ [v_ l_0,o_ (.bin .leq (.cst (.int .i32 0)) r_0),v_ r_1,y_ 2 (.mov l_0),y_ 2 (.bin .lss r_3 (.cst (.int .i32 55296))),o_ (.pick r_2 r_4 F_),w_ 2 r_5]
(.cond l_2
(h_ [w_ 1 T_]
.ret)
(h_ [v_ l_0,o_ (.bin .lss (.cst (.int .i32 57343)) r_0),v_ r_1,y_ 2 (.mov l_0),y_ 2 (.bin .leq r_3 (.cst (.int .i32 1114111))),o_ (.pick r_2 r_4 F_),w_ 3 r_5]
(.cond l_3
(h_ [w_ 1 T_]
.ret)
.skip)))))
(h_ [w_ 1 F_]
.ret)))⟩
def a79:Ann:=⟨[0,2,3,4,5,6,8,11,12,13,17,27],[3],[],[],[]⟩
def t79L0:aJ:=(.seq (g_ [s_ 8 (.nextS l_7),s_ 9 (.extract 0 r_0)])
(.seq (.cond l_9
.skip
(.exit 0))
(.block 1
(h_ [o_ (.extract 1 l_8),o_ (.extract 2 l_8),w_ 4 r_0,w_ 5 r_1]
(.seq (.seq (g_ [v_ l_5,s_ 10 (.bin .eql r_0 (.cst (.int .i32 65533)))])
(.cond gW
(h_ [v_ l_0,v_ l_4,o_ (.slice (.sl 1) r_0 (some r_1) none none),c_ 103 [r_2],v_ r_3,o_ (.extract 0 r_4),o_ (.extract 1 r_4),v_ r_5,w_ 6 r_6]
(h_ [v_ l_5,v_ l_6,s_ 11 (.call true false 104 [r_0,r_1])]
(.cond jS
(h_ [v_ l_4,o_ (.build [(.int .i64 0),(.int .i64 0)] [(0,1,(i_ 4)),(1,1,r_0)]),w_ 1 N_,o_ (.store 2 l_2 r_1)]
.ret)
.skip)))
.skip))
(g_ [v_ l_3,v_ l_5,o_ (.conv (.toInt .i64) r_1),v_ l_4,o_ (.build [(.int .i64 0),(.int .i64 0)] [(0,1,r_2),(1,1,r_3)]),o_ (.lit false [(.int .i64 0),(.int .i64 0)] 1 [(0,r_4)]),o_ (.append false 2 16 132 r_0 r_5),w_ 3 r_6]))))))
def t79:aV:=⟨1,12,[.loc 1,.cell 2 2 true],
(h_ [w_ 1 N_,o_ (.allocL 2 [(.int .i64 0),(.int .i64 0)])]
(h_ [w_ 3 N_]
(.seq (.seq (g_ [v_ l_0,o_ (.conv .bytesStr r_0),s_ 7 (.range true r_1)])
(.block 0
(.loop t79L0)))
(h_ [v_ l_3,o_ (.build [(.int .i64 0),(.int .i64 0)] []),w_ 1 r_0,o_ (.store 2 l_2 r_1)]
.ret))))⟩
def a80:Ann:=⟨[0,1,4,5,6,12,21,31],[],[],[],[]⟩
def t80:aV:=⟨2,8,[.loc 2],
(h_ [s_ 2 (.mov (.cst (.str [])))]
(.seq (.seq (g_ [v_ l_0,o_ (.bin .eql r_0 (.cst (.str []))),v_ r_1,x_ 2 (.mov l_1),x_ 2 (.bin .eql r_3 (.cst (.str []))),s_ 5 (.pick r_2 T_ r_4)])
(.cond l_5
(h_ [v_ l_0,w_ 2 r_0]
.ret)
.skip))
(.seq (.seq (g_ [v_ l_1,o_ (.len .str r_0),o_ (.bin .eql r_1 (i_ 1)),v_ r_2,y_ 3 (.mov l_1),y_ 3 (.indexS r_4 (i_ 0)),y_ 3 (.bin .lss r_5 (.cst (.int .u8 128))),s_ 6 (.pick r_3 r_6 F_)])
(.cond l_6
(h_ [v_ l_0,v_ l_1,o_ (.indexS r_1 (i_ 0)),c_ 105 [r_0,r_2],w_ 2 r_3]
.ret)
.skip))
(.seq (.seq (g_ [v_ l_1,c_ 106 [r_0],v_ r_1,o_ (.extract 0 r_2),o_ (.extract 1 r_2),s_ 3 (.allocH 173 [(.bool false),(.bool false),(.bool false),(.bool false),(.bool false),(.bool false),(.bool false),(.bool false),(.bool false),(.bool false),(.bool false),(.bool false),(.bool false),(.bool false),(.bool false),(.bool false),(.bool false),(.bool false),(.bool false),(.bool false),(.bool false),(.bool false),(.bool false),(.bool false),(.bool false),(.bool false),(.bool false),(.bool false),(.bool false),(.bool false),(.bool false),(.bool false),(.bool false),(.bool false),(.bool false),(.bool false),(.bool false),(.bool false),(.bool false),(.bool false),(.bool false),(.bool false),(.bool false),(.bool false),(.bool false),(.bool false),(.bool false),(.bool false),(.bool false),(.bool false),(.bool false),(.bool false),(.bool false),(.bool false),(.bool false),(.bool false),(.bool false),(.bool false),(.bool false),(.bool false),(.bool false),(.bool false),(.bool false),(.bool false),(.bool false),(.bool false),(.bool false),(.bool false),(.bool false),(.bool false),(.bool false),(.bool false),(.bool false),(.bool false),(.bool false),(.bool false),(.bool false),(.bool false),(.bool false),(.bool false),(.bool false),(.bool false),(.bool false),(.bool false),(.bool false),(.bool false),(.bool false),(.bool false),(.bool false),(.bool false),(.bool false),(.bool false),(.bool false),(.bool false),(.bool false),(.bool false),(.bool false),(.bool false),(.bool false),(.bool false),(.bool false),(.bool false),(.bool false),(.bool false),(.bool false),(.bool false),(.bool false),(.bool false),(.bool false),(.bool false),(.bool false),(.bool false),(.bool false),(.bool false),(.bool false),(.bool false),(.bool false),(.bool false),(.bool false),(.bool false),(.bool false),(.bool false),(.bool false),(.bool false),(.bool false),(.bool false),(.bool false),(.bool false),(.bool false),(.bool false),(.bool false),(.bool false),(.bool false),(.bool false),(.bool false),(.bool false),(.bool false),(.bool false),(.bool false),(.bool false),(.bool false),(.bool false),(.bool false),(.bool false),(.bool false),(.bool false),(.bool false),(.bool false),(.bool false),(.bool false),(.bool false),(.bool false),(.bool false),(.bool false),(.bool false),(.bool false),(.bool false),(.bool false),(.bool false),(.bool false),(.bool false),(.bool false),(.bool false),(.bool false),(.bool false),(.bool false),(.bool false),(.bool false),(.bool false),(.bool false),(.bool false),(.bool false),(.bool false),(.bool false),(.bool false),(.bool false),(.bool false),(.bool false),(.bool false),(.bool false),(.bool false),(.bool false),(.bool false),(.bool false),(.bool false),(.bool false),(.bool false),(.bool false),(.bool false),(.bool false),(.bool false),(.bool false),(.bool false),(.bool false),(.bool false),(.bool false),(.bool false),(.bool false),(.bool false),(.bool false),(.bool false),(.bool false),(.bool false),(.bool false),(.bool false),(.bool false),(.bool false),(.bool false),(.bool false),(.bool false),(.bool false),(.bool false),(.bool false),(.bool false),(.bool false),(.bool false),(.bool false),(.bool false),(.bool false),(.bool false),(.bool false),(.bool false),(.bool false),(.bool false),(.bool false),(.bool false),(.bool false),(.bool false),(.bool false),(.bool false),(.bool false),(.bool false),(.bool false),(.bool false),(.bool false),(.bool false),(.bool false),(.bool false),(.bool false),(.bool false),(.bool false),(.bool false),(.bool false),(.bool false),(.bool false),(.bool false),(.bool false),(.bool false),(.bool false),(.bool false),(.bool false),(.bool false),(.bool false),(.bool false),(.bool false),(.bool false)]),o_ (.store 256 r_5 r_3),w_ 4 r_4])
(h_ [w_ 7 l_4]
(.cond l_7
(h_ [v_ l_0,o_ (.call false false 107 [r_0,l_3]),w_ 2 r_1]
.ret)
.skip)))
(h_ [v_ l_0,v_ l_1,c_ 108 [r_0,r_1],w_ 2 r_2]
.ret)))))⟩
def a81:Ann:=⟨[0,2,14],[],[],[],[]⟩
def t81L0:aJ:=(.seq (.seq (g_ [v_ l_0,o_ (.len .sl r_0),o_ (.bin .gtr r_1 (i_ 0)),v_ r_2,y_ 3 (.mov l_0),y_ 3 (.mov l_0),y_ 3 (.len .sl r_5),y_ 3 (.bin .sub r_6 (i_ 1)),y_ 3 (.indexAddrS 1 r_4 r_7),y_ 3 (.load1 r_8),y_ 3 (.bin .eql r_9 (.cst (.int .u16 0))),s_ 2 (.pick r_3 kR F_)])
(.cond l_2
.skip
(.exit 0)))
(.block 1
(g_ [v_ l_0,v_ l_0,o_ (.len .sl r_1),o_ (.bin .sub r_2 (i_ 1)),o_ (.slice (.sl 1) r_0 none (some r_3) none),w_ 0 r_4])))
def t81:aV:=⟨1,3,[.loc 1],
(h_ [w_ 1 N_]
(.seq (.block 0
(.loop t81L0))
(h_ [v_ l_0,w_ 1 r_0]
.ret)))⟩
def a82:Ann:=⟨[0,1,2,6,7,9,10,11,12,13],[],[],[],[]⟩
def t82L0:aJ:=(.seq (g_ [s_ 9 (.bin .lss l_8 l_7)])
(.seq (.cond l_9
.skip
(.exit 0))
(.seq (.block 1
(h_ [o_ (.indexAddrS 1 l_6 l_8),d_ r_0,w_ 5 r_1]
(h_ [v_ l_2,v_ l_5,o_ (.conv (.toInt .u32) r_1),v_ l_1,o_ (.bin .mul r_2 r_3),o_ (.bin .add r_0 r_4),w_ 2 r_5]
(h_ [v_ l_4,v_ l_2,o_ (.conv (.toInt .u16) r_1),o_ (.lit false [(.int .u16 0)] 1 [(0,r_2)]),o_ (.append false 1 2 84 r_0 r_3),w_ 4 r_4]
(g_ [v_ l_2,o_ (.bin .shr r_0 (.cst (.int .u64 16))),w_ 2 r_1])))))
(g_ [o_ (.bin .add l_8 (i_ 1)),w_ 8 r_0]))))
def t82:aV:=⟨3,10,[.loc 3],
(h_ [w_ 3 N_]
(h_ [w_ 4 N_]
(.seq (.seq (g_ [w_ 6 l_0,s_ 7 (.len .sl r_0),w_ 8 (i_ 0)])
(.block 0
(.loop t82L0)))
(h_ [v_ l_4,v_ l_2,o_ (.conv (.toInt .u16) r_1),o_ (.lit false [(.int .u16 0)] 1 [(0,r_2)]),o_ (.append false 1 2 84 r_0 r_3),w_ 3 r_4]
.ret))))⟩
def a83:Ann:=⟨[0,1,4],[4],[],[],[]⟩
def t83:aV:=⟨2,3,[.cell 2 2 true],
(h_ [o_ (.allocL 2 [(.bool false),(.sl .nil [])])]
(h_ [v_ l_1,c_ 81 [r_0],w_ 1 r_1]
(h_ [v_ l_0,v_ r_0,y_ 1 (.mov l_1),y_ 1 (.len .sl r_2),y_ 1 (.bin .gtr r_3 (i_ 0)),o_ (.pick r_1 r_4 F_),v_ l_1,o_ (.build [(.bool false),(.sl .nil [])] [(0,1,r_5),(1,1,r_6)]),o_ (.store 2 l_2 r_7)]
.ret)))⟩
def a84:Ann:=⟨[0,1,3,8,18],[],[],[],[]⟩
def t84L0:aJ:=(.seq (.seq (g_ [v_ l_2,s_ 3 (.bin .geq r_0 (i_ 0))])
(.cond l_3
.skip
(.exit 0)))
(.seq (.block 1
(h_ [v_ l_0,v_ l_2,d_ l_1,v_ l_2,o_ (.indexAddrS 1 r_2 r_3),d_ r_4,o_ (.callv r_0 [r_1,r_5]),s_ 4 (.un .not r_6)]
(.cond l_4
.ret
.skip)))
(g_ [v_ l_2,o_ (.bin .sub r_0 (i_ 1)),w_ 2 r_1])))
def t84:aV:=⟨2,5,[],
(h_ [d_ l_1,o_ (.len .sl r_0),o_ (.bin .sub r_1 (i_ 1)),w_ 2 r_2]
(.block 0
(.loop t84L0)))⟩
def a85:Ann:=⟨[0,2,3,4,5,6,7,8,9,13,22],[],[],[],[]⟩
def t85L0:aJ:=(.seq (.seq (g_ [v_ l_5,v_ l_0,o_ (.len .sl r_1),s_ 9 (.bin .lss r_0 r_2)])
(.cond l_9
.skip
(.exit 0)))
(.block 1
(h_ [v_ l_0,v_ l_5,c_ 109 [r_0,r_1],v_ r_2,o_ (.extract 0 r_3),o_ (.extract 1 r_3),o_ (.extract 2 r_3),w_ 6 r_4,w_ 7 r_5,w_ 8 r_6]
(.seq (.seq (g_ [v_ l_8,s_ 10 (.bin .neq r_0 (i_ 0))])
(.cond gW
(h_ [v_ l_5,w_ 1 N_,w_ 2 (i_ 4),w_ 3 r_0]
.ret)
.skip))
(h_ [v_ l_4,v_ l_6,v_ l_5,o_ (.build [(.int .i64 0),(.int .i64 0)] [(0,1,r_1),(1,1,r_2)]),o_ (.lit false [(.int .i64 0),(.int .i64 0)] 1 [(0,r_3)]),o_ (.append false 2 16 143 r_0 r_4),w_ 4 r_5]
(g_ [v_ l_5,v_ l_7,o_ (.bin .add r_0 r_1),w_ 5 r_2]))))))
def t85:aV:=⟨1,11,[.loc 1,.loc 2,.loc 3],
(h_ [w_ 1 N_,w_ 2 (i_ 0),w_ 3 (i_ 0)]
(h_ [w_ 4 N_]
(h_ [w_ 5 (i_ 0)]
(.seq (.block 0
(.loop t85L0))
(h_ [v_ l_4,w_ 1 r_0,w_ 2 (i_ 0),w_ 3 (i_ 0)]
.ret)))))⟩
def a86:Ann:=⟨[0,2,3,4,5,6,7,26,30,37,49],[2],[],[],[]⟩
def t86L0:aJ:=(.seq (.seq (g_ [v_ l_6,v_ l_4,s_ 9 (.bin .geq r_0 r_1)])
(.cond l_9
.skip
(.exit 0)))
(.seq (.block 1
(.seq (.seq (g_ [v_ l_0,v_ l_6,o_ (.indexS r_0 r_1),o_ (.bin .lss r_2 (.cst (.int .u8 48))),v_ r_3,x_ 4 (.mov l_0),x_ 4 (.mov l_6),x_ 4 (.indexS r_5 r_6),x_ 4 (.bin .gtr r_7 (.cst (.int .u8 57))),s_ 10 (.pick r_4 T_ r_8)])
(.cond gW
(h_ [o_ (.build [(.bool false),(.sl .nil [])] []),o_ (.store 2 l_1 r_0),w_ 2 (i_ 4)]
.ret)
.skip))
(g_ [v_ l_5,v_ l_0,v_ l_6,o_ (.indexS r_1 r_2),o_ (.bin .sub r_3 (.cst (.int .u8 48))),o_ (.conv (.toInt .i64) r_4),o_ (.lit false [(.int .i64 0)] 1 [(0,r_5)]),o_ (.append false 1 8 3 r_0 r_6),w_ 5 r_7])))
(g_ [v_ l_6,o_ (.bin .sub r_0 (i_ 1)),w_ 6 r_1])))
def t86:aV:=⟨1,11,[.cell 1 2 true,.loc 2],
(h_ [o_ (.allocL 1 [(.bool false),(.sl .nil [])]),w_ 2 (i_ 0)]
(h_ [v_ l_0,o_ (.len .str r_0),o_ (.bin .gtr r_1 (i_ 0)),v_ r_2,y_ 3 (.mov l_0),y_ 3 (.indexS r_4 (i_ 0)),y_ 3 (.bin .eql r_5 (.cst (.int .u8 45))),o_ (.pick r_3 r_6 F_),w_ 3 r_7]
(h_ [w_ 4 (i_ 0)]
(.seq (.seq (g_ [v_ l_3,v_ r_0,x_ 1 (.mov l_0),x_ 1 (.len .str r_2),x_ 1 (.bin .gtr r_3 (i_ 0)),x_ 1 (.mov r_4),y_ 5 (.mov l_0),y_ 5 (.indexS r_6 (i_ 0)),y_ 5 (.bin .eql r_7 (.cst (.int .u8 43))),x_ 1 (.pick r_5 r_8 F_),s_ 7 (.pick r_1 T_ r_9)])
(.cond l_7
(g_ [w_ 4 (i_ 1)])
.skip))
(.seq (.seq (g_ [v_ l_0,o_ (.len .str r_0),v_ l_4,s_ 8 (.bin .eql r_1 r_2)])
(.cond l_8
(h_ [o_ (.build [(.bool false),(.sl .nil [])] []),o_ (.store 2 l_1 r_0),w_ 2 (i_ 4)]
.ret)
.skip))
(h_ [w_ 5 N_]
(.seq (.seq (g_ [v_ l_0,o_ (.len .str r_0),o_ (.bin .sub r_1 (i_ 1)),w_ 6 r_2])
(.block 0
(.loop t86L0)))
(h_ [v_ l_3,v_ l_5,c_ 110 [r_0,r_1],o_ (.store 2 l_1 r_2),w_ 2 (i_ 0)]
.ret))))))))⟩
def a87:Ann:=⟨[0,1,3,4,6],[4,3],[],[],[]⟩
def t87:aV:=⟨2,5,[.cell 3 2 true],
(h_ [o_ (.boxL 2 l_1),o_ (.allocL 3 [(.int .i64 0),(.int .i64 0)])]
(.seq (.seq (g_ [o_ (.loadN 2 l_2),s_ 4 (.call true false 111 [r_0,(.cst (.str [45,53,51,54,56,55,48,57,49,50])),(.cst (.str [53,51,54,56,55,48,57,49,49]))])])
(.cond l_4
(h_ [o_ (.loadN 2 l_2),c_ 112 [r_0],o_ (.build [(.int .i64 0),(.int .i64 0)] [(0,1,(i_ 1)),(1,1,r_1)]),o_ (.store 2 l_3 r_2)]
.ret)
.skip))
(h_ [v_ l_0,o_ (.loadN 2 l_2),o_ (.build [(.int .i64 0),(.int .i64 0),(.sl .nil []),(.bool false),(.sl .nil [])] [(0,1,(i_ 7)),(3,2,r_1)]),o_ (.call false false 88 [r_0,r_2]),o_ (.store 2 l_3 r_3)]
.ret)))⟩
def a88:Ann:=⟨[0,1,3,4],[4,3],[],[],[(2,⟨[0,0,2,6,14,0,32,126,255,511,1023],[0,1,2,3,4,5,6],[(7,[],[8,9]),(10,[],[])]⟩)]⟩
def t88:aV:=⟨2,4,[.cell 3 2 true],
(h_ [o_ (.boxL 2 l_1),o_ (.allocL 3 [(.int .i64 0),(.int .i64 0)])]
(h_ [v_ l_0,f_ 2 l_2,d_ r_1,o_ (.len .sl r_2),f_ 3 l_2,f_ 1 r_4,d_ r_5,o_ (.len .sl r_6),o_ (.bin .add r_3 r_7),o_ (.call false false 113 [r_0,r_8,(i_ 64)])]
(.seq (.draw [0,1,2,3,4,5,6] [(7,[],[8,9]),(10,[],[])] [v_ l_0,v_ l_0,o_ (.nilCheck r_1),f_ 1 r_2,d_ r_3,o_ (.loadN 5 l_2),o_ (.lit false [(.int .i64 0),(.int .i64 0),(.sl .nil []),(.bool false),(.sl .nil [])] 1 [(0,r_5)]),o_ (.append false 5 72 67 r_4 r_6),o_ (.nilCheck r_0),f_ 1 r_8,o_ (.store 1 r_9 r_7)])
(h_ [v_ l_0,o_ (.nilCheck r_0),f_ 1 r_1,d_ r_2,o_ (.len .sl r_3),o_ (.bin .sub r_4 (i_ 1)),o_ (.build [(.int .i64 0),(.int .i64 0)] [(0,1,(i_ 7)),(1,1,r_5)]),o_ (.store 2 l_3 r_6)]
.ret))))⟩
def a89:Ann:=⟨[0,2,3,4,6,15],[],[],[],[]⟩
def t89L0:aJ:=(.seq (.seq (g_ [v_ l_4,v_ l_3,o_ (.len .sl r_1),s_ 5 (.bin .lss r_0 r_2)])
(.cond l_5
.skip
(.exit 0)))
(.seq (.block 1
(g_ [v_ l_2,v_ l_3,v_ l_4,o_ (.indexAddrS 1 r_1 r_2),d_ r_3,o_ (.build [(.int .i64 0),(.int .i64 0)] [(0,1,(i_ 2)),(1,1,r_4)]),o_ (.lit false [(.int .i64 0),(.int .i64 0)] 1 [(0,r_5)]),o_ (.append false 2 16 73 r_0 r_6),w_ 2 r_7]))
(g_ [v_ l_4,o_ (.bin .add r_0 (i_ 1)),w_ 4 r_1])))
def t89:aV:=⟨1,6,[.loc 1],
(h_ [w_ 1 N_]
(h_ [w_ 2 N_]
(h_ [v_ l_0,c_ 62 [r_0],v_ r_1,o_ (.extract 0 r_2),o_ (.extract 1 r_2),w_ 3 r_3,v_ r_4]
(.seq (.seq (g_ [w_ 4 (i_ 0)])
(.block 0
(.loop t89L0)))
(h_ [v_ l_2,w_ 1 r_0]
.ret)))))⟩
def a90:Ann:=⟨[0,1,4,5,6,7,8,15,45],[8,7,6,4],[],[],[(4,⟨[0,1,3,7,0,16,48,112,0,496,1008,2032,4095,8191,16383,32767,65535,0,262143],[0,1,2,3,4,5,6,7,8,9,10,11,12,13,14,15,16,17],[(18,[],[])]⟩),(5,⟨[0,1,3,7,0,16,63,127,255,0,1023],[0,1,2,3,4,5,6,7,8,9],[(10,[],[])]⟩),(9,⟨[0,0,2,6,14,0,32,126,255,511,1023],[0,1,2,3,4,5,6],[(7,[],[8,9]),(10,[],[])]⟩)]⟩
def t90L0:aJ:=(.seq (.seq (g_ [v_ l_3,v_ l_0,o_ (.nilCheck r_1),f_ 2 r_2,d_ r_3,o_ (.len .sl r_4),s_ 7 (.bin .lss r_0 r_5)])
(.cond l_7
.skip
(.exit 0)))
(.seq (.block 1
(.seq (.draw [0,1,2,3,4,5,6,7,8,9,10,11,12,13,14,15,16,17] [(18,[],[])] [v_ l_0,o_ (.nilCheck r_0),f_ 1 r_1,d_ r_2,v_ l_0,o_ (.nilCheck r_4),f_ 2 r_5,d_ r_6,v_ l_3,o_ (.indexAddrS 2 r_7 r_8),f_ 1 r_9,d_ kR,o_ (.indexAddrS 5 r_3 mF),f_ 2 oA,d_ aAv,o_ (.indexAddrS 2 aLv (i_ 0)),o_ (.loadN 2 aLw),s_ 4 (.allocH 74 [(.int .i64 0),(.int .i64 0)]),o_ (.store 2 aLy aLx)])
(.seq (.draw [0,1,2,3,4,5,6,7,8,9] [(10,[],[])] [v_ l_0,o_ (.nilCheck r_0),f_ 1 r_1,d_ r_2,f_ 1 l_4,d_ r_4,o_ (.indexAddrS 5 r_3 r_5),f_ 2 r_6,d_ r_7,v_ l_1,s_ 8 (.call true false 114 [r_8,r_9])])
(.cond l_8
(h_ [v_ l_0,o_ (.nilCheck r_0),f_ 2 r_1,d_ r_2,v_ l_3,o_ (.indexAddrS 2 r_3 r_4),o_ (.loadN 2 r_5),o_ (.store 2 l_2 r_6)]
.ret)
.skip))))
(g_ [v_ l_3,o_ (.bin .add r_0 (i_ 1)),w_ 3 r_1])))
def t90:aV:=⟨2,9,[.cell 2 2 true],
(h_ [o_ (.allocL 2 [(.int .i64 0),(.int .i64 0)])]
(.seq (.seq (g_ [w_ 3 (i_ 0)])
(.block 0
(.loop t90L0)))
(h_ [v_ l_0,v_ l_1,c_ 115 [r_1],o_ (.build [(.int .i64 0),(.int .i64 0),(.sl .nil []),(.bool false),(.sl .nil [])] [(0,1,(i_ 4)),(2,1,r_2)]),o_ (.call false false 88 [r_0,r_3]),o_ (.allocL 5 [(.int .i64 0),(.int .i64 0)]),o_ (.store 2 r_5 r_4)]
(h_ [v_ l_0,o_ (.loadN 2 l_5),o_ (.lit false [(.int .i64 0),(.int .i64 0)] 1 [(0,r_1)]),o_ (.build [(.int .i64 0),(.int .i64 0),(.sl .nil []),(.bool false),(.sl .nil [])] [(0,1,(i_ 5)),(2,1,r_2)]),o_ (.call false false 88 [r_0,r_3]),o_ (.allocL 6 [(.int .i64 0),(.int .i64 0)]),o_ (.store 2 r_5 r_4)]
(.seq (.draw [0,1,2,3,4,5,6] [(7,[],[8,9]),(10,[],[])] [v_ l_0,v_ l_0,o_ (.nilCheck r_1),f_ 2 r_2,d_ r_3,o_ (.loadN 2 l_6),o_ (.lit false [(.int .i64 0),(.int .i64 0)] 1 [(0,r_5)]),o_ (.append false 2 16 73 r_4 r_6),o_ (.nilCheck r_0),f_ 2 r_8,o_ (.store 1 r_9 r_7)])
(h_ [o_ (.loadN 2 l_6),o_ (.store 2 l_2 r_0)]
.ret))))))⟩
def a91:Ann:=⟨[0,1,2,5,6,7,12],[6,5],[],[],[(4,⟨[0,0,0,6,14,0,62,126,255,511],[0,1,2,3,4,5,6,7],[(8,[],[]),(9,[],[])]⟩)]⟩
def t91L0:aJ:=(.seq (.seq (g_ [v_ l_5,s_ 6 (.bin .geq r_0 (i_ 0))])
(.cond l_6
.skip
(.exit 0)))
(.seq (.block 1
(.draw [0,1,2,3,4,5,6,7] [(8,[],[]),(9,[],[])] [v_ l_0,v_ l_1,v_ l_5,o_ (.indexAddrS 2 r_1 r_2),o_ (.loadN 2 r_3),o_ (.loadN 2 l_3),o_ (.lit false [(.int .i64 0),(.int .i64 0)] 2 [(0,r_4),(1,r_5)]),o_ (.build [(.int .i64 0),(.int .i64 0),(.sl .nil []),(.bool false),(.sl .nil [])] [(0,1,(i_ 0)),(2,1,r_6)]),o_ (.call false false 88 [r_0,r_7]),o_ (.store 2 l_3 r_8)]))
(g_ [v_ l_5,o_ (.bin .sub r_0 (i_ 1)),w_ 5 r_1])))
def t91:aV:=⟨3,7,[.cell 4 2 true],
(h_ [o_ (.boxL 3 l_2),o_ (.allocL 4 [(.int .i64 0),(.int .i64 0)])]
(.seq (.seq (g_ [v_ l_1,o_ (.len .sl r_0),o_ (.bin .sub r_1 (i_ 1)),w_ 5 r_2])
(.block 0
(.loop t91L0)))
(h_ [o_ (.loadN 2 l_3),o_ (.store 2 l_4 r_0)]
.ret)))⟩
def a100:Ann:=⟨[0,1,2,3,4,5,7,13,15,16,17,23,33],[1],[],[],[]⟩
def t100:aV:=⟨1,13,[.loc 2,.loc 3],
(h_ [o_ (.boxL 1 l_0),w_ 2 (i_ 0),w_ 3 F_]
(h_ [f_ 1 l_1,d_ r_0,c_ 81 [r_1],w_ 4 r_2]
(.seq (.seq (g_ [v_ l_4,o_ (.len .sl r_0),s_ 7 (.bin .gtr r_1 (i_ 4))])
(.cond l_7
(h_ [w_ 2 (i_ 0),w_ 3 F_]
.ret)
.skip))
(h_ [s_ 5 (.allocH 159 [(.int .u64 0)]),o_ (.store 1 r_0 (.cst (.int .u64 0)))]
(.seq (.seq (g_ [v_ l_4,s_ 8 (.call false false 125 [r_0])])
(.block 0
(.rangeFunc l_8 [9,10]
(g_ [w_ 6 gW])
(.block 1
(g_ [d_ l_5,o_ (.bin .shl r_0 (.cst (.int .u64 16))),v_ l_6,o_ (.conv (.toInt .u64) r_2),o_ (.bin .or r_1 r_3),o_ (.store 1 l_5 r_4)])))))
(.seq (.block 2
(h_ [f_ 0 l_1,d_ r_0,v_ r_1,y_ 2 (.load1 l_5),y_ 2 (.bin .leq r_3 (.cst (.int .u64 9223372036854775808))),o_ (.pick r_2 r_4 F_),w_ 11 r_5]
(.cond jS
(h_ [d_ l_5,o_ (.un .neg r_0),o_ (.conv (.toInt .i64) r_1),w_ 2 r_2,w_ 3 T_]
.ret)
(h_ [f_ 0 l_1,d_ r_0,o_ (.un .not r_1),v_ r_2,y_ 3 (.load1 l_5),y_ 3 (.bin .leq r_4 (.cst (.int .u64 9223372036854775807))),o_ (.pick r_3 r_5 F_),w_ 12 r_6]
(.cond uC
(h_ [d_ l_5,o_ (.conv (.toInt .i64) r_0),w_ 2 r_1,w_ 3 T_]
.ret)
.skip)))))
(h_ [w_ 2 (i_ 0),w_ 3 F_]
.ret)))))))⟩
end Go.Proofs.YtjbpbohpmfpoiaaGreatDoor
