/- The functions of this seat, compiled for the evaluator TM; each held against the translation by the kernel. By program. Condition: none. -/
import Derived.Test.YtehlgnfhkidgoaaGreatDoorPrim
set_option maxRecDepth 100000
set_option linter.unusedVariables false
namespace Go.Proofs.YtehlgnfhkidgoaaGreatDoor
open Go Go.TM
abbrev Z8_:List IV:=[(.int .i64 0),(.int .i64 0),(.int .i64 0),(.int .i64 0),(.int .i64 0),(.int .i64 0),(.sl .nil []),(.sl .nil [])]
abbrev Z7_:List IV:=[(.int .i64 0),(.int .i64 0),(.int .i64 0),(.int .i64 0),(.int .i64 0),(.bool false),(.sl .nil [])]
abbrev Z1_:List IV:=[(.int .i64 0)]
abbrev r_0:aH:=.reg 0
abbrev r_1:aH:=.reg 1
abbrev r_2:aH:=.reg 2
abbrev r_3:aH:=.reg 3
abbrev r_4:aH:=.reg 4
abbrev r_5:aH:=.reg 5
abbrev r_6:aH:=.reg 6
abbrev r_7:aH:=.reg 7
abbrev r_8:aH:=.reg 8
abbrev r_9:aH:=.reg 9
abbrev gF:aH:=.reg 10
abbrev iD:aH:=.reg 11
abbrev kX:aH:=.reg 12
abbrev nO:aH:=.reg 13
abbrev oM:aH:=.reg 14
abbrev rR:aH:=.reg 15
abbrev rS:aH:=.reg 16
abbrev aAn:aH:=.reg 17
abbrev aGs:aH:=.reg 18
abbrev aPo:aH:=.reg 19
abbrev aPp:aH:=.reg 20
abbrev aPq:aH:=.reg 21
abbrev aTo:aH:=.reg 22
abbrev bBv:aH:=.reg 23
abbrev bJk:aH:=.reg 24
abbrev bPi:aH:=.reg 25
abbrev bTq:aH:=.reg 26
abbrev bPj:aH:=.reg 27
abbrev bPk:aH:=.reg 28
abbrev bVp:aH:=.reg 29
abbrev bTr:aH:=.reg 30
abbrev bTs:aH:=.reg 31
abbrev bVq:aH:=.reg 32
abbrev bVr:aH:=.reg 33
abbrev l_0:aH:=.loc 0
abbrev l_1:aH:=.loc 1
abbrev l_2:aH:=.loc 2
abbrev l_3:aH:=.loc 3
abbrev l_4:aH:=.loc 4
abbrev l_5:aH:=.loc 5
abbrev l_6:aH:=.loc 6
abbrev l_7:aH:=.loc 7
abbrev l_8:aH:=.loc 8
abbrev l_9:aH:=.loc 9
abbrev kF:aH:=.loc 10
abbrev iQ:aH:=.loc 11
abbrev oN:aH:=.loc 12
abbrev pJ:aH:=.loc 13
abbrev pK:aH:=.loc 14
abbrev wZ:aH:=.loc 15
abbrev sE:aH:=.loc 16
abbrev aLs:aH:=.loc 17
abbrev aCb:aH:=.loc 18
abbrev bJl:aH:=.loc 19
abbrev bJm:aH:=.loc 20
abbrev aTp:aH:=.loc 21
abbrev bVs:aH:=.loc 22
abbrev bWw:aH:=.loc 23
abbrev bWx:aH:=.loc 24
abbrev bTt:aH:=.loc 25
abbrev bWy:aH:=.loc 26
abbrev bWz:aH:=.loc 27
abbrev T_:aH:=.cst (.bool true)
abbrev F_:aH:=.cst (.bool false)
abbrev N_:aH:=.cst (.sl .nil [])
abbrev y_ (n:Nat) (x:TOp):aK:=⟨x, none, some (n, true)⟩
abbrev x_ (n:Nat) (x:TOp):aK:=⟨x, none, some (n, false)⟩
abbrev c_ (n:Nat) (l:List aH):aK:=⟨.call true false n l, none, none⟩
abbrev g_ (l:List aK):aL:=.region l
abbrev h_ (l:List aK) (b:aL):aL:=.seq (.region l) b
abbrev v_ (x:aH):aK:=⟨.mov x, none, none⟩
abbrev w_ (n:Nat) (x:aH):aK:=⟨.mov x, some n, none⟩
abbrev d_ (x:aH):aK:=⟨.load1 x, none, none⟩
abbrev f_ (n:Nat) (x:aH):aK:=⟨.fieldAddr n x, none, none⟩
abbrev o_ (x:TOp):aK:=⟨x,none,none⟩
abbrev s_ (n:Nat) (x:TOp):aK:=⟨x,some n,none⟩
abbrev i_ (n:Int):aH:=.cst (.int .i64 n)
def opts:dH:=⟨fun f=>([5,11,14,15,17,18,22,24,25,27,31,32,33,35,37,39,40,44,46,47,50,51,52,54,55,56,59,60,63,64,66,67,68,69,70,71,73,75,77,79,80,82,83,86,88,89,90,91,92,94,97,98,99,100,101,102,103,104,105,106,108,109,113,114,115,116,118,119,121,123,124,125,129,130,131,134,135,136,137,138,139,140,141,142,143,144,145,154,155,156,157,158,159,160]:List Nat).contains f,fun f=>([46,115]:List Nat).contains f⟩
def a4:Ann:=⟨[0,1,2,3,5,6,7,8,9,11,20,34,43,47,58,87],[3,1],[],[],[(18,⟨[0,1,3,7,7,7,39,7,135,391,903,2047,4095],[0,1,2,3,4,5,6,7,8,9,10],[(11,[],[12])]⟩)]⟩
def t4L0:aL:=(.seq (.seq (g_ [v_ l_8, f_ 6 l_3, d_ r_1, v_ l_5, o_ (.indexAddrS 8 r_2 r_3), f_ 7 r_4, d_ r_5, o_ (.len .sl r_6), s_ 14 (.bin .lss r_0 r_7)])
(.cond pK
.skip
(.exit 4)))
(.seq (.block 5
(g_ [v_ l_7,v_ r_0,x_ 1 (.fieldAddr 6 l_3),x_ 1 (.load1 r_2),x_ 1 (.mov l_5),x_ 1 (.indexAddrS 8 r_3 r_4),x_ 1 (.fieldAddr 7 r_5),x_ 1 (.load1 r_6),x_ 1 (.mov l_8),x_ 1 (.indexAddrS 1 r_7 r_8),x_ 1 (.load1 r_9),x_ 1 (.mov l_6),x_ 1 (.bin .eql gF iD),o_ (.pick r_1 T_ kX),w_ 7 nO]))
(g_ [v_ l_8,o_ (.bin .add r_0 (i_ 1)),w_ 8 r_1])))
def t4L1:aL:=(.seq (.seq (g_ [v_ l_6, f_ 2 l_3, d_ r_1, s_ 13 (.bin .lss r_0 r_2)])
(.cond pJ
.skip
(.exit 2)))
(.seq (.block 3
(h_ [w_ 7 F_]
(.seq (.seq (g_ [w_ 8 (i_ 0)])
(.block 4
(.loop t4L0)))
(.seq (.draw [0,1,2,3,4,5,6,7,8,9,10] [(11,[],[12])] [v_ l_7,o_ (.un .not r_0),v_ r_1,y_ 2 (.loadN 7 l_3),y_ 2 (.mov l_6),y_ 2 (.mov l_5),y_ 2 (.bin .add r_5 (i_ 1)),y_ 2 (.fieldAddr 6 l_3),y_ 2 (.load1 r_7),y_ 2 (.len .sl r_8),y_ 2 (.mkSlice [(.bool false)] 1 r_9 r_9),y_ 2 (.call false false 11 [r_3,r_4,r_6,gF]),s_ 15 (.pick r_2 iD F_)])
(.cond wZ
(h_ [w_ 2 F_]
.ret)
.skip)))))
(g_ [v_ l_6,o_ (.bin .add r_0 (i_ 1)),w_ 6 r_1])))
def t4L2:aL:=(.seq (.seq (g_ [v_ l_5,f_ 6 l_3,d_ r_1,o_ (.len .sl r_2),s_ 11 (.bin .lss r_0 r_3)])
(.cond iQ
.skip
(.exit 0)))
(.seq (.block 1
(.seq (.seq (g_ [f_ 6 l_3,d_ r_0,v_ l_5,o_ (.indexAddrS 8 r_1 r_2),f_ 0 r_3,d_ r_4,s_ 12 (.bin .neq r_5 (i_ 67))])
(.cond oN
(.exit 1)
.skip))
(h_ [w_ 6 (i_ 0)]
(.block 2
(.loop t4L1)))))
(g_ [v_ l_5,o_ (.bin .add r_0 (i_ 1)),w_ 5 r_1])))
def t4:aU:=⟨1,16,[.loc 2],
(h_ [o_ (.boxL 1 l_0),w_ 2 F_]
(.seq (.seq (g_ [o_ (.loadN 7 l_1),s_ 9 (.call true false 10 [r_0])])
(.cond l_9
(h_ [c_ 7 [],w_ 2 r_0]
.ret)
.skip))
(h_ [o_ (.loadN 7 l_1),c_ 6 [r_0],v_ r_1,o_ (.extract 0 r_2),o_ (.extract 1 r_2),o_ (.extract 2 r_2),o_ (.allocL 3 Z7_),o_ (.store 7 r_6 r_3),v_ r_4,w_ 4 r_5]
(.seq (.seq (g_ [v_ l_4,s_ 10 (.bin .neq r_0 (i_ 0))])
(.cond kF
(h_ [v_ l_4,o_ (.bin .eql r_0 (i_ 2)),v_ r_1,x_ 2 (.mov l_4),x_ 2 (.bin .eql r_3 (i_ 10)),o_ (.pick r_2 T_ r_4),v_ r_5,y_ 6 (.call true false 7 []),o_ (.pick r_6 r_7 F_),w_ 2 r_8]
.ret)
.skip))
(.seq (.seq (g_ [w_ 5 (i_ 0)])
(.block 0
(.loop t4L2)))
(h_ [c_ 7 [],w_ 2 r_0]
.ret))))))⟩
def a5:Ann:=⟨[0,2,3,7],[3,2],[(1,1),(3,4),(4,8)],[],[]⟩
def t5:aU:=⟨1,4,[.cell 1 7 true],
(h_ [o_ (.allocL 1 Z7_)]
(h_ [o_ (.build Z8_ [(0,1,(i_ 64)),(1,1,(i_ 32)),(2,1,(i_ 4))]),o_ (.lit true Z8_ 1 [(0,r_0)]),o_ (.build Z7_ [(1,1,(i_ 34)),(6,1,r_1)]),o_ (.allocL 2 Z7_),o_ (.store 7 r_3 r_2)]
(.seq (.seq (g_ [w_ 3 l_0])
(.cond l_3
(g_ [f_ 6 l_2,d_ r_0,o_ (.build Z8_ [(0,1,(i_ 67)),(4,1,(i_ 8)),(1,1,(i_ 4))]),o_ (.lit false Z8_ 1 [(0,r_2)]),o_ (.append true 8 96 28 r_1 r_3),f_ 6 l_2,o_ (.store 1 r_5 r_4)])
.skip))
(h_ [f_ 6 l_2,d_ r_0,o_ (.build Z8_ [(0,1,(i_ 64)),(1,1,(i_ 33)),(2,1,(i_ 4))]),o_ (.build Z8_ [(0,1,(i_ 64)),(1,1,(i_ 4)),(2,1,(i_ 32))]),o_ (.build Z8_ [(0,1,(i_ 64)),(1,1,(i_ 5)),(2,1,(i_ 33))]),o_ (.lit false Z1_ 2 [(0,(i_ 4)),(1,(i_ 5))]),o_ (.build Z8_ [(0,1,(i_ 68)),(4,1,(i_ (-1))),(6,1,r_5)]),o_ (.lit false Z8_ 4 [(0,r_2),(1,r_3),(2,r_4),(3,r_6)]),o_ (.append true 8 96 28 r_1 r_7),f_ 6 l_2,o_ (.store 1 r_9 r_8)]
(h_ [o_ (.loadN 7 l_2),o_ (.store 7 l_1 r_0)]
.ret)))))⟩
def a6:Ann:=⟨[0,1,2,3,4,5,7,8,9,10,11,12,15,36,55,56,57,58,68],[12,10,2,1],[],[(15,3),(17,8)],[(20,⟨[0,0,2,6,14,30,63,127,255],[0,1,2,3,4,5],[(6,[],[7,8])]⟩)]⟩
def t6L0:aL:=(.seq (g_ [s_ 17 (.bin .lss sE wZ)])
(.seq (.cond aLs
.skip
(.exit 0))
(.seq (.block 1
(h_ [v_ sE,o_ (.indexAddrS 8 pK sE),o_ (.loadN 8 r_1),o_ (.allocL 11 Z8_),w_ 10 r_0,o_ (.store 8 r_3 r_2)]
(h_ [o_ (.loadN 8 iQ),v_ l_8,v_ l_8,o_ (.call false true 17 [r_0,r_1,r_2]),o_ (.store 8 iQ r_3)]
(.seq (.seq (g_ [f_ 0 iQ,d_ r_0,s_ 18 (.bin .eql r_1 (i_ 67))])
(.cond aCb
(g_ [v_ l_6,v_ l_6,o_ (.nilCheck r_1),f_ 14 r_2,d_ r_3,v_ kF,o_ (.indexAddrS 1 r_4 r_5),d_ r_6,o_ (.call false true 18 [r_0,r_7]),f_ 7 iQ,o_ (.store 1 r_9 r_8)])
.skip))
(g_ [f_ 6 l_9,d_ r_0,o_ (.loadN 8 iQ),o_ (.lit false Z8_ 1 [(0,r_2)]),o_ (.append false 8 96 28 r_1 r_3),f_ 6 l_9,o_ (.store 1 r_5 r_4)])))))
(g_ [o_ (.bin .add sE (i_ 1)),w_ 16 r_0]))))
def t6:aU:=⟨1,19,[.cell 2 7 true,.loc 3,.loc 4],
(h_ [o_ (.boxL 1 l_0),o_ (.allocL 2 Z7_),w_ 3 (i_ 0),w_ 4 (i_ 0)]
(.seq (.seq (g_ [o_ (.loadN 7 l_1),c_ 12 [r_0],s_ 12 (.un .not r_1)])
(.cond oN
(h_ [o_ (.build Z7_ []),o_ (.store 7 l_2 r_0),w_ 3 (i_ 0),w_ 4 (i_ 2)]
.ret)
.skip))
(h_ [o_ (.loadN 7 l_1),c_ 13 [r_0],v_ r_1,o_ (.extract 0 r_2),o_ (.extract 1 r_2),w_ 5 r_3,v_ r_4]
(h_ [o_ (.loadN 7 l_1),o_ (.mkMap),v_ l_5,o_ (.build [(.int .i64 0),(.int .i64 0),(.int .i64 0),(.int .i64 0),(.int .i64 0),(.bool false),(.sl .nil []),(.int .i64 0),(.int .i64 0),(.int .i64 0),(.int .i64 0),(.int .i64 0),(.bool false),(.sl .nil []),(.sl .nil []),.nilm,(.sl .nil [])] [(0,7,r_0),(15,1,r_1),(16,1,r_2)]),o_ (.boxH 43 r_3),w_ 6 r_4]
(h_ [v_ l_6,o_ (.call false false 14 [r_0])]
(h_ [v_ l_6,o_ (.call false false 15 [r_0]),s_ 7 (.allocH 27 [(.sl .nil [])]),o_ (.store 1 r_2 r_1)]
(.seq (.seq (g_ [v_ l_6,o_ (.nilCheck r_0),f_ 15 r_1,d_ r_2,o_ (.len .mp r_3),s_ 13 (.bin .gtr r_4 (i_ 16777216))])
(.cond pJ
(h_ [o_ (.build Z7_ []),o_ (.store 7 l_2 r_0),w_ 3 (i_ 0),w_ 4 (i_ 10)]
.ret)
.skip))
(h_ [o_ (.mkFn 16 [] [l_7]),w_ 8 r_0]
(h_ [v_ l_6,o_ (.nilCheck r_0),f_ 7 r_1,o_ (.loadN 7 r_2),o_ (.allocL 9 Z7_),o_ (.store 7 r_4 r_3)]
(h_ [v_ l_6,o_ (.nilCheck r_0),f_ 15 r_1,d_ r_2,o_ (.len .mp r_3),f_ 1 l_9,o_ (.store 1 r_5 (i_ 32)),f_ 2 l_9,o_ (.store 1 r_7 r_4),f_ 6 l_9,o_ (.store 1 r_9 N_)]
(.seq (.seq (g_ [v_ l_6,o_ (.nilCheck r_0),f_ 7 r_1,f_ 6 r_2,s_ 14 (.load1 r_3),s_ 15 (.len .sl r_4),w_ 16 (i_ 0)])
(.block 0
(.loop t6L0)))
(.seq (.draw [0,1,2,3,4,5] [(6,[],[7,8])] [o_ (.loadN 7 l_9),v_ l_6,o_ (.nilCheck r_1),f_ 15 r_2,d_ r_3,o_ (.len .mp r_4),o_ (.store 7 l_2 r_0),w_ 3 r_5,w_ 4 (i_ 0)])
.ret))))))))))))⟩
def a7:Ann:=⟨[0,1,2,3,4,5,6,7,8],[6,1],[],[],[]⟩
def t7:aU:=⟨0,9,[.loc 0],
(h_ [w_ 0 F_]
(h_ [o_ (.call false false 5 [T_]),c_ 6 [r_0],v_ r_1,o_ (.extract 0 r_2),o_ (.extract 1 r_2),o_ (.extract 2 r_2),o_ (.allocL 1 Z7_),o_ (.store 7 r_6 r_3),w_ 2 r_4,w_ 3 r_5]
(h_ [o_ (.loadN 7 l_1),c_ 19 [r_0],v_ r_1,o_ (.extract 0 r_2),o_ (.extract 1 r_2),w_ 4 r_3,w_ 5 r_4]
(h_ [o_ (.call false false 5 [F_]),c_ 6 [r_0],v_ r_1,o_ (.extract 0 r_2),o_ (.extract 1 r_2),o_ (.extract 2 r_2),o_ (.allocL 6 Z7_),o_ (.store 7 r_6 r_3),w_ 7 r_4,w_ 8 r_5]
(h_ [v_ l_3,o_ (.bin .eql r_0 (i_ 0)),v_ r_1,y_ 2 (.mov l_2),y_ 2 (.bin .eql r_3 (i_ 1)),o_ (.pick r_2 r_4 F_),v_ r_5,y_ 6 (.mov l_5),y_ 6 (.bin .eql r_7 (i_ 1)),o_ (.pick r_6 r_8 F_),v_ r_9,y_ 10 (.mov l_4),y_ 10 (.len .sl iD),y_ 10 (.bin .eql kX (i_ 1)),o_ (.pick gF nO F_),v_ oM,y_ 15 (.mov l_4),y_ 15 (.indexAddrS 1 rS (i_ 0)),y_ 15 (.load1 aAn),y_ 15 (.bin .eql aGs (i_ 0)),o_ (.pick rR aPo F_),v_ aPp,y_ 21 (.mov l_8),y_ 21 (.bin .eql aTo (i_ 0)),o_ (.pick aPq bBv F_),v_ bJk,y_ 25 (.mov l_7),y_ 25 (.bin .eql bTq (i_ 0)),o_ (.pick bPi bPj F_),v_ bPk,y_ 29 (.fieldAddr 1 l_6),y_ 29 (.load1 bTr),y_ 29 (.bin .eql bTs (i_ 32)),o_ (.pick bVp bVq F_),w_ 0 bVr]
.ret)))))⟩
def a10:Ann:=⟨[0,1,2,3,12,22],[1],[],[],[]⟩
def t10L0:aL:=(.seq (.seq (g_ [v_ l_3,f_ 6 l_1,d_ r_1,o_ (.len .sl r_2),o_ (.bin .lss r_0 r_3),v_ r_4,y_ 5 (.mov l_3),y_ 5 (.bin .lss r_6 (i_ 100)),s_ 4 (.pick r_5 r_7 F_)])
(.cond l_4
.skip
(.exit 0)))
(.seq (.block 1
(h_ [f_ 6 l_1,d_ r_0,v_ l_3,o_ (.indexAddrS 8 r_1 r_2),f_ 6 r_3,d_ r_4,o_ (.len .sl r_5),s_ 5 (.bin .gtr r_6 (i_ 12))]
(.cond l_5
(h_ [w_ 2 T_]
.ret)
.skip)))
(g_ [v_ l_3,o_ (.bin .add r_0 (i_ 1)),w_ 3 r_1])))
def t10:aU:=⟨1,6,[.loc 2],
(h_ [o_ (.boxL 1 l_0),w_ 2 F_]
(.seq (.seq (g_ [w_ 3 (i_ 0)])
(.block 0
(.loop t10L0)))
(h_ [f_ 6 l_1,d_ r_0,o_ (.len .sl r_1),o_ (.bin .gtr r_2 (i_ 90)),v_ r_3,x_ 4 (.fieldAddr 1 l_1),x_ 4 (.load1 r_5),x_ 4 (.bin .gtr r_6 (i_ 100)),o_ (.pick r_4 T_ r_7),w_ 2 r_8]
.ret)))⟩
def a11:Ann:=⟨[0,1,2,3,4,8,9,10,22,39,58,71,76,103,106],[9,4],[],[],[(12,⟨[0,1,0,7,15,31,63,127,255,511,255,2047,4095,8191,255,16639,65535,131071,262143,524287,524287,524287,524287,8388607,16777215],[0,1,2,3,4,5,6,7,8,9,10,11,12,13,14,15,16,17,18,19,20,21,22],[(23,[],[24])]⟩)]⟩
def t11L0:aL:=(.seq (.seq (g_ [v_ l_7, f_ 6 l_4, d_ r_1, o_ (.len .sl r_2), s_ 12 (.bin .lss r_0 r_3)])
(.cond oN
.skip
(.exit 2)))
(.seq (.block 3
(.seq (.draw [0,1,2,3,4,5,6,7,8,9,10,11,12,13,14,15,16,17,18,19,20,21,22] [(23,[],[24])] [f_ 6 l_4,d_ r_0,v_ l_7,o_ (.indexAddrS 8 r_1 r_2),f_ 0 r_3,d_ r_4,o_ (.bin .eql r_5 (i_ 65)),v_ r_6,y_ 7 (.fieldAddr 6 l_4),y_ 7 (.load1 r_8),y_ 7 (.mov l_7),y_ 7 (.indexAddrS 8 r_9 gF),y_ 7 (.fieldAddr 5 iD),y_ 7 (.load1 kX),y_ 7 (.fieldAddr 5 l_6),y_ 7 (.load1 oM),y_ 7 (.bin .eql nO rR),o_ (.pick r_7 rS F_),v_ aAn,y_ 18 (.loadN 7 l_4),y_ 18 (.mov l_1),y_ 18 (.mov l_7),y_ 18 (.mov l_3),y_ 18 (.call false false 11 [aPo,aPp,aPq,aTo]),s_ 13 (.pick aGs bBv F_)])
(.cond pJ
(h_ [w_ 5 T_]
.ret)
.skip)))
(g_ [v_ l_7,o_ (.bin .add r_0 (i_ 1)),w_ 7 r_1])))
def t11L1:aL:=(.seq (.seq (g_ [v_ l_2,f_ 6 l_4,d_ r_1,o_ (.len .sl r_2),o_ (.bin .lss r_0 r_3),v_ r_4,y_ 5 (.mov l_3),y_ 5 (.mov l_2),y_ 5 (.indexAddrS 1 r_6 r_7),y_ 5 (.load1 r_8),y_ 5 (.un .not r_9),s_ 8 (.pick r_5 gF F_)])
(.cond l_8
.skip
(.exit 0)))
(.block 1
(h_ [v_ l_3,v_ l_2,o_ (.indexAddrS 1 r_0 r_1),o_ (.store 1 r_2 T_)]
(h_ [f_ 6 l_4,d_ r_0,v_ l_2,o_ (.indexAddrS 8 r_1 r_2),o_ (.loadN 8 r_3),o_ (.allocL 6 Z8_),o_ (.store 8 r_5 r_4)]
(.seq (.seq (g_ [f_ 0 l_6,d_ r_0,o_ (.bin .eql r_1 (i_ 73)),v_ r_2,y_ 3 (.fieldAddr 4 l_6),y_ 3 (.load1 r_4),y_ 3 (.mov l_1),y_ 3 (.bin .eql r_5 r_6),s_ 9 (.pick r_3 r_7 F_)])
(.cond l_9
(h_ [w_ 5 T_]
.ret)
.skip))
(.seq (.seq (g_ [f_ 0 l_6,d_ r_0,o_ (.bin .eql r_1 (i_ 74)),v_ r_2,y_ 3 (.fieldAddr 4 l_6),y_ 3 (.load1 r_4),y_ 3 (.mov l_1),y_ 3 (.bin .eql r_5 r_6),o_ (.pick r_3 r_7 F_),v_ r_8,x_ 9 (.fieldAddr 0 l_6),x_ 9 (.load1 gF),x_ 9 (.bin .eql iD (i_ 68)),o_ (.pick r_9 T_ kX),v_ nO,x_ 14 (.fieldAddr 0 l_6),x_ 14 (.load1 rR),x_ 14 (.bin .eql rS (i_ 72)),s_ 10 (.pick oM T_ aAn)])
(.cond kF
(h_ [w_ 5 F_]
.ret)
.skip))
(.seq (.seq (g_ [f_ 0 l_6,d_ r_0,o_ (.bin .eql r_1 (i_ 66)),v_ r_2,x_ 3 (.fieldAddr 0 l_6),x_ 3 (.load1 r_4),x_ 3 (.bin .geq r_5 (i_ 26)),x_ 3 (.mov r_6),y_ 7 (.fieldAddr 0 l_6),y_ 7 (.load1 r_8),y_ 7 (.bin .leq r_9 (i_ 31)),x_ 3 (.pick r_7 gF F_),s_ 11 (.pick r_3 T_ iD)])
(.cond iQ
(.seq (.seq (g_ [w_ 7 (i_ 0)])
(.block 2
(.loop t11L0)))
(h_ [f_ 0 l_6,d_ r_0,s_ 14 (.bin .eql r_1 (i_ 66))]
(.cond pK
(h_ [w_ 5 F_]
.ret)
.skip)))
.skip))
(g_ [v_ l_2,o_ (.bin .add r_0 (i_ 1)),w_ 2 r_1]))))))))
def t11:aU:=⟨4,15,[.loc 5],
(h_ [o_ (.boxL 4 l_0),w_ 5 F_]
(.seq (.block 0
(.loop t11L1))
(h_ [w_ 5 F_]
.ret)))⟩
def a12:Ann:=⟨[0,1,2,3,5,14,40],[1],[],[],[]⟩
def t12:aU:=⟨1,7,[.loc 2],
(h_ [o_ (.boxL 1 l_0),w_ 2 F_]
(.seq (.seq (g_ [o_ (.loadN 7 l_1),c_ 20 [r_0],o_ (.bin .neq r_1 (i_ 0)),v_ r_2,x_ 3 (.fieldAddr 2 l_1),x_ 3 (.load1 r_4),x_ 3 (.bin .neq r_5 (i_ 0)),s_ 5 (.pick r_3 T_ r_6)])
(.cond l_5
(h_ [w_ 2 F_]
.ret)
.skip))
(h_ [o_ (.loadN 7 l_1),c_ 21 [r_0],v_ r_1,o_ (.extract 0 r_2),o_ (.extract 1 r_2),w_ 3 r_3,v_ r_4]
(h_ [o_ (.loadN 7 l_1),c_ 13 [r_0],v_ r_1,o_ (.extract 0 r_2),o_ (.extract 1 r_2),w_ 4 r_3,v_ r_4]
(.seq (.seq (g_ [v_ l_3,o_ (.len .sl r_0),o_ (.bin .gtr r_1 (i_ 0)),v_ r_2,y_ 3 (.mov l_3),y_ 3 (.indexAddrS 1 r_4 (i_ 0)),y_ 3 (.load1 r_5),y_ 3 (.call false false 22 [r_6,(.fn 23)]),o_ (.pick r_3 r_7 F_),v_ r_8,x_ 9 (.mov l_3),x_ 9 (.mov l_4),x_ 9 (.lit false [(.sl .nil [])] 2 [(0,gF),(1,iD)]),x_ 9 (.call false false 25 [kX]),x_ 9 (.call false false 24 [nO,(.fn 26)]),s_ 6 (.pick r_9 T_ oM)])
(.cond l_6
(h_ [w_ 2 F_]
.ret)
.skip))
(h_ [f_ 6 l_1,d_ r_0,o_ (.call false false 27 [r_1,(.fn 28)]),o_ (.un .not r_2),w_ 2 r_3]
.ret))))))⟩
def a13:Ann:=⟨[0,1,2,3,4,5,12],[1],[],[],[]⟩
def t13:aU:=⟨1,7,[.loc 2,.loc 3],
(h_ [o_ (.boxL 1 l_0),w_ 2 N_,w_ 3 (i_ 0)]
(h_ [o_ (.loadN 7 l_1),o_ (.call false false 31 [r_0]),v_ r_1,o_ (.extract 0 r_2),o_ (.extract 1 r_2),w_ 4 r_3,w_ 5 r_4]
(.seq (.seq (g_ [v_ l_5,s_ 6 (.bin .neq r_0 (i_ 0))])
(.cond l_6
(h_ [v_ l_5,w_ 2 N_,w_ 3 r_0]
.ret)
.skip))
(h_ [v_ l_4,o_ (.nilCheck r_0),f_ 9 r_1,d_ r_2,o_ (.call false false 32 [r_3]),w_ 2 r_4,w_ 3 (i_ 0)]
.ret))))⟩
def a14:Ann:=⟨[0,2,3,22,23,24,25],[3],[],[],[]⟩
def t14L0:aL:=(.seq (g_ [s_ 6 (.bin .lss l_5 l_4)])
(.seq (.cond l_6
.skip
(.exit 0))
(.seq (.block 1
(h_ [v_ l_5,o_ (.indexAddrS 8 l_3 l_5),o_ (.loadN 8 r_1),o_ (.allocL 2 Z8_),w_ 1 r_0,o_ (.store 8 r_3 r_2)]
(g_ [v_ l_0,o_ (.loadN 8 l_2),v_ l_1,o_ (.call false false 33 [r_0,r_1,r_2])])))
(g_ [o_ (.bin .add l_5 (i_ 1)),w_ 5 r_0]))))
def t14:aU:=⟨1,7,[],
(h_ [v_ l_0,v_ l_0,o_ (.nilCheck r_1),f_ 0 r_2,o_ (.loadN 7 r_3),o_ (.nilCheck r_0),f_ 7 r_5,o_ (.store 7 r_6 r_4)]
(h_ [v_ l_0,v_ l_0,o_ (.nilCheck r_0),f_ 7 r_2,f_ 6 r_3,o_ (.store 1 r_4 N_),o_ (.nilCheck r_1),f_ 14 r_6,o_ (.store 1 r_7 N_)]
(h_ [v_ l_0,o_ (.nilCheck r_0),f_ 0 r_1,f_ 6 r_2,s_ 3 (.load1 r_3),s_ 4 (.len .sl r_4),w_ 5 (i_ 0)]
(.block 0
(.loop t14L0)))))⟩
def a15:Ann:=⟨[0,1,2,3,5,6,7,20,24,31],[3],[(10,3)],[],[(11,⟨[0,0,0,6,15],[0,1,2],[(3,[0],[]),(4,[],[])]⟩)]⟩
def t15L0:aL:=(.seq (.seq (g_ [v_ l_6, d_ l_1, o_ (.nilCheck r_1), f_ 0 r_2, f_ 1 r_3, d_ r_4, s_ 9 (.bin .lss r_0 r_5)])
(.cond l_9
.skip
(.exit 2)))
(.seq (.block 3
(g_ [v_ l_5,v_ l_6,o_ (.lit false Z1_ 1 [(0,r_1)]),o_ (.append true 1 8 3 r_0 r_2),w_ 5 r_3]))
(g_ [v_ l_6,o_ (.bin .add r_0 (i_ 1)),w_ 6 r_1])))
def t15L1:aL:=(.block 1
(h_ [d_ l_1,o_ (.call false false 35 [r_0]),c_ 34 [r_1],v_ r_2,o_ (.extract 0 r_3),o_ (.extract 1 r_3),o_ (.allocL 3 [(.int .i64 0),(.sl .nil []),(.sl .nil [])]),o_ (.store 3 r_6 r_4),v_ r_5]
(h_ [o_ (.loadN 3 l_3),c_ 36 [r_0],w_ 4 r_1]
(h_ [v_ l_4,o_ (.call false false 37 [r_0]),w_ 5 r_1]
(.seq (.seq (g_ [v_ l_5,o_ (.len .sl r_0),s_ 7 (.bin .eql r_1 (i_ 0))])
(.cond l_7
(h_ [v_ l_4,w_ 2 r_0]
.ret)
.skip))
(.seq (.seq (g_ [v_ l_5,o_ (.mkFn 38 [] [l_1]),s_ 8 (.call false false 22 [r_0,r_1])])
(.cond l_8
(h_ [w_ 6 (i_ 32)]
(.block 2
(.loop t15L0)))
.skip))
(.seq (.draw [0,1,2] [(3,[0],[]),(4,[],[])] [d_ l_1,v_ l_5,o_ (.mkFn 41 [] [l_1]),o_ (.call false false 40 [r_1,r_2]),o_ (.call false false 39 [r_0,r_3])])
(g_ [d_ l_1,o_ (.call false false 14 [r_0])]))))))))
def t15:aU:=⟨1,10,[.loc 2],
(h_ [s_ 1 (.boxH 40 l_0),w_ 2 N_]
(.block 0
(.loop t15L1)))⟩
def a16:Ann:=⟨[0,1,3],[],[],[],[]⟩
def t16:aU:=⟨2,3,[.loc 2],
(h_ [w_ 2 (i_ 0)]
(h_ [d_ l_1,v_ l_0,o_ (.indexAddrS 1 r_0 r_1),d_ r_2,w_ 2 r_3]
.ret))⟩
def a17:Ann:=⟨[0,1,2,3,6,7,8,9,10,20,21,22,23,35,45,50,60,65,75],[6,3],[],[],[(1,⟨[0,1,0,7,15,31],[0,2],[(1,[2],[]),(3,[],[4,5])]⟩),(6,⟨[0,1,0,0,0,24,63,127],[0,1,2,3,4],[(5,[1],[6]),(7,[],[])]⟩)]⟩
def t17L0:aL:=(.seq (g_ [s_ 12 (.bin .lss iQ kF)])
(.seq (.cond oN
.skip
(.exit 0))
(.seq (.block 1
(h_ [v_ iQ,o_ (.indexAddrS 1 l_9 iQ),d_ r_1,w_ 7 r_0,w_ 8 r_2]
(.draw [0,1,2,3,4] [(5,[1],[6]),(7,[],[])] [f_ 6 l_3,d_ r_0,v_ l_7,v_ l_1,v_ l_8,o_ (.callv r_3 [r_4]),o_ (.indexAddrS 1 r_1 r_2),o_ (.store 1 r_6 r_5)])))
(g_ [o_ (.bin .add iQ (i_ 1)),w_ 11 r_0]))))
def t17:aU:=⟨3,19,[.cell 4 8 true],
(h_ [o_ (.boxL 3 l_0),o_ (.allocL 4 Z8_)]
(.seq (.draw [0,2] [(1,[2],[]),(3,[],[4,5])] [o_ (.loadN 8 l_3),c_ 42 [r_0],o_ (.loadN 8 l_3),c_ 43 [r_2],w_ 5 r_1,w_ 6 r_3])
(h_ [f_ 6 l_3,d_ r_0,o_ (.call false false 44 [r_1]),f_ 6 l_3,o_ (.store 1 r_3 r_2)]
(.seq (.seq (g_ [f_ 6 l_3,s_ 9 (.load1 r_0),s_ 10 (.len .sl r_1),w_ 11 (i_ 0)])
(.block 0
(.loop t17L0)))
(.seq (.block 2
(h_ [v_ l_5,f_ 2 l_3,d_ r_1,c_ 45 [r_0,r_2],w_ 13 r_3]
(.cond pJ
(g_ [v_ l_1,f_ 2 l_3,d_ r_1,o_ (.callv r_0 [r_2]),f_ 2 l_3,o_ (.store 1 r_4 r_3)])
(h_ [f_ 2 l_3,d_ r_0,c_ 23 [r_1],w_ 14 r_2]
(.cond pK
(g_ [f_ 2 l_3,o_ (.store 1 r_0 (i_ 0))])
.skip)))))
(.seq (.block 3
(h_ [v_ l_5,f_ 3 l_3,d_ r_1,c_ 45 [r_0,r_2],w_ 15 r_3]
(.cond wZ
(g_ [v_ l_1,f_ 3 l_3,d_ r_1,o_ (.callv r_0 [r_2]),f_ 3 l_3,o_ (.store 1 r_4 r_3)])
(h_ [f_ 3 l_3,d_ r_0,c_ 23 [r_1],w_ 16 r_2]
(.cond sE
(g_ [f_ 3 l_3,o_ (.store 1 r_0 (i_ 0))])
.skip)))))
(.seq (.block 4
(h_ [v_ l_6,f_ 1 l_3,d_ r_1,c_ 45 [r_0,r_2],w_ 17 r_3]
(.cond aLs
(g_ [v_ l_2,f_ 1 l_3,d_ r_1,o_ (.callv r_0 [r_2]),f_ 1 l_3,o_ (.store 1 r_4 r_3)])
(h_ [f_ 1 l_3,d_ r_0,c_ 23 [r_1],w_ 18 r_2]
(.cond aCb
(g_ [f_ 1 l_3,o_ (.store 1 r_0 (i_ 0))])
.skip)))))
(h_ [o_ (.loadN 8 l_3),o_ (.store 8 l_4 r_0)]
.ret))))))))⟩
def a18:Ann:=⟨[0,1,4,6,7,8,15,16,17,18,30],[7],[(6,4)],[],[]⟩
def t18L0:aL:=(.seq (g_ [s_ 9 (.bin .lss l_8 l_7)])
(.seq (.cond l_9
.skip
(.exit 0))
(.seq (.block 1
(h_ [o_ (.indexAddrS 1 l_6 l_8),d_ r_0,w_ 3 r_1]
(h_ [v_ l_0,o_ (.nilCheck r_0),f_ 15 r_1,d_ r_2,v_ l_3,o_ (.lookup (.leaf .int) (.agg Z1_) true r_3 r_4),v_ r_5,o_ (.extract 0 r_6),o_ (.extract 1 r_6),o_ (.allocL 4 Z1_),o_ (.store 1 r_9 r_7),w_ 5 r_8]
(h_ [w_ 10 l_5]
(.cond kF
(g_ [v_ l_2,f_ 0 l_4,d_ r_1,o_ (.lit false Z1_ 1 [(0,r_2)]),o_ (.append true 1 8 3 r_0 r_3),w_ 2 r_4])
.skip)))))
(g_ [o_ (.bin .add l_8 (i_ 1)),w_ 8 r_0]))))
def t18:aU:=⟨2,11,[.loc 2],
(h_ [w_ 2 N_]
(.seq (.seq (g_ [v_ l_0,o_ (.nilCheck r_0),f_ 16 r_1,d_ r_2,v_ l_1,o_ (.indexAddrS 1 r_3 r_4),s_ 6 (.load1 r_5),s_ 7 (.len .sl r_6),w_ 8 (i_ 0)])
(.block 0
(.loop t18L0)))
(h_ [v_ l_2,o_ (.prim 46 [r_0])]
(h_ [v_ l_2,w_ 2 r_0]
.ret))))⟩
def a19:Ann:=⟨[0,1,2,3,4,9,18],[1],[],[],[]⟩
def t19L0:aL:=(.seq (.seq (g_ [v_ l_4,f_ 6 l_1,d_ r_1,o_ (.len .sl r_2),s_ 5 (.bin .lss r_0 r_3)])
(.cond l_5
.skip
(.exit 0)))
(.seq (.block 1
(h_ [f_ 6 l_1,d_ r_0,v_ l_4,o_ (.indexAddrS 8 r_1 r_2),f_ 0 r_3,d_ r_4,s_ 6 (.bin .eql r_5 (i_ 67))]
(.cond l_6
(h_ [v_ l_2,f_ 6 l_1,d_ r_1,v_ l_4,o_ (.indexAddrS 8 r_2 r_3),f_ 7 r_4,d_ r_5,o_ (.append false 1 8 3 r_0 r_6),w_ 2 r_7]
(g_ [v_ l_3,o_ (.bin .add r_0 (i_ 1)),w_ 3 r_1]))
.skip)))
(g_ [v_ l_4,o_ (.bin .add r_0 (i_ 1)),w_ 4 r_1])))
def t19:aU:=⟨1,7,[.loc 2,.loc 3],
(h_ [o_ (.boxL 1 l_0),w_ 2 N_,w_ 3 (i_ 0)]
(.seq (.seq (g_ [w_ 4 (i_ 0)])
(.block 0
(.loop t19L0)))
(h_ [v_ l_2,v_ l_3,w_ 2 r_0,w_ 3 r_1]
.ret)))⟩
def a20:Ann:=⟨[0,1,2,3,5,7,8,9,33,36,37,38,39,44,52,53,54,55,74,115,125,126],[7,5],[],[],[]⟩
def t20L0:aL:=(.seq (g_ [s_ 17 (.bin .lss sE wZ)])
(.seq (.cond aLs
.skip
(.exit 2))
(.seq (.block 3
(h_ [o_ (.indexAddrS 8 pK sE),o_ (.loadN 8 r_0),o_ (.allocL 5 Z8_),o_ (.store 8 r_2 r_1)]
(h_ [f_ 2 l_5,d_ r_0,f_ 3 l_5,d_ r_2,o_ (.lit false Z1_ 2 [(0,r_1),(1,r_3)]),f_ 6 l_5,d_ r_5,o_ (.lit false [(.sl .nil [])] 2 [(0,r_4),(1,r_6)]),o_ (.call false false 47 [r_7]),w_ 6 r_8]
(.seq (.seq (g_ [f_ 0 l_5,d_ r_0,o_ (.bin .neq r_1 (i_ 67)),v_ r_2,x_ 3 (.fieldAddr 1 l_5),x_ 3 (.load1 r_4),x_ 3 (.bin .geq r_5 (i_ 0)),s_ 18 (.pick r_3 T_ r_6)])
(.cond aCb
(g_ [v_ l_6,f_ 1 l_5,d_ r_1,o_ (.lit false Z1_ 1 [(0,r_2)]),o_ (.append false 1 8 3 r_0 r_3),w_ 6 r_4])
.skip))
(h_ [f_ 0 l_5,d_ r_0,o_ (.bin .geq r_1 (i_ 26)),v_ r_2,y_ 3 (.fieldAddr 0 l_5),y_ 3 (.load1 r_4),y_ 3 (.bin .leq r_5 (i_ 31)),o_ (.pick r_3 r_6 F_),v_ r_7,x_ 8 (.fieldAddr 0 l_5),x_ 8 (.load1 r_9),x_ 8 (.bin .eql gF (i_ 66)),o_ (.pick r_8 T_ iD),v_ kX,x_ 13 (.fieldAddr 0 l_5),x_ 13 (.load1 oM),x_ 13 (.bin .eql rR (i_ 65)),o_ (.pick nO T_ rS),w_ 7 aAn]
(h_ [o_ (.loadN 8 l_5),c_ 48 [r_0],o_ (.un .not r_1),v_ r_2,x_ 3 (.mov l_6),x_ 3 (.mkFn 49 [] [l_1]),x_ 3 (.call false false 22 [r_4,r_5]),o_ (.pick r_3 T_ r_6),v_ r_7,x_ 8 (.mov l_7),x_ 8 (.mov r_9),y_ 10 (.mov l_3),y_ 10 (.fieldAddr 5 l_5),y_ 10 (.load1 kX),y_ 10 (.lookup (.leaf .int) (.int .i64 0) false iD nO),y_ 10 (.bin .neq oM (i_ 1)),x_ 8 (.pick gF rR F_),s_ 19 (.pick r_8 T_ rS)]
(.cond bJl
(h_ [w_ 2 (i_ 2)]
.ret)
.skip)))))))
(g_ [o_ (.bin .add sE (i_ 1)),w_ 16 r_0]))))
def t20L1:aL:=(.seq (g_ [s_ 12 (.bin .lss iQ kF)])
(.seq (.cond oN
.skip
(.exit 0))
(.seq (.block 1
(h_ [o_ (.indexAddrS 8 l_9 iQ),o_ (.loadN 8 r_0),o_ (.allocL 4 Z8_),o_ (.store 8 r_2 r_1)]
(h_ [f_ 0 l_4,d_ r_0,s_ 13 (.bin .eql r_1 (i_ 65))]
(.cond pJ
(g_ [v_ l_3,f_ 5 l_4,d_ r_1,o_ (.lookup (.leaf .int) (.int .i64 0) false r_0 r_2),o_ (.bin .add r_3 (i_ 1)),o_ (.update (.leaf .int) r_0 r_2 r_4)])
.skip))))
(g_ [o_ (.bin .add iQ (i_ 1)),w_ 11 r_0]))))
def t20:aU:=⟨1,22,[.loc 2],
(h_ [s_ 1 (.boxH 25 l_0),w_ 2 (i_ 0)]
(.seq (.seq (g_ [f_ 1 l_1,d_ r_0,o_ (.bin .lss r_1 (i_ 32)),v_ r_2,x_ 3 (.fieldAddr 3 l_1),x_ 3 (.load1 r_4),x_ 3 (.bin .lss r_5 (i_ 0)),o_ (.pick r_3 T_ r_6),v_ r_7,x_ 8 (.fieldAddr 2 l_1),x_ 8 (.load1 r_9),x_ 8 (.bin .lss gF (i_ 0)),o_ (.pick r_8 T_ iD),v_ kX,x_ 13 (.fieldAddr 4 l_1),x_ 13 (.load1 oM),x_ 13 (.bin .lss rR (i_ 0)),o_ (.pick nO T_ rS),v_ aAn,x_ 18 (.fieldAddr 6 l_1),x_ 18 (.load1 aPo),x_ 18 (.len .sl aPp),x_ 18 (.bin .eql aPq (i_ 0)),s_ 8 (.pick aGs T_ aTo)])
(.cond l_8
(h_ [w_ 2 (i_ 2)]
.ret)
.skip))
(h_ [o_ (.mkMap),w_ 3 r_0]
(.seq (.seq (g_ [f_ 6 l_1,s_ 9 (.load1 r_0),s_ 10 (.len .sl r_1),w_ 11 (i_ 0)])
(.block 0
(.loop t20L1)))
(.seq (.seq (g_ [f_ 6 l_1,s_ 14 (.load1 r_0),s_ 15 (.len .sl r_1),w_ 16 (i_ 0)])
(.block 2
(.loop t20L0)))
(.seq (.seq (g_ [f_ 6 l_1,d_ r_0,f_ 6 l_1,d_ r_2,o_ (.len .sl r_3),o_ (.bin .sub r_4 (i_ 1)),o_ (.indexAddrS 8 r_1 r_5),f_ 0 r_6,s_ 20 (.load1 r_7)])
(.block 4
(.seq (.seq (g_ [o_ (.bin .eql bJm (i_ 66)),w_ 21 r_0])
(.cond aTp
.skip
(h_ [o_ (.bin .eql bJm (i_ 68)),w_ 21 r_0]
(.cond aTp
.skip
(g_ [o_ (.bin .eql bJm (i_ 72)),w_ 21 r_0])))))
(.cond aTp
(h_ [w_ 2 (i_ 0)]
.ret)
.skip))))
(h_ [w_ 2 (i_ 2)]
.ret)))))))⟩
def a21:Ann:=⟨[0,1,2,3,4,5,12],[1],[],[],[]⟩
def t21:aU:=⟨1,7,[.loc 2,.loc 3],
(h_ [o_ (.boxL 1 l_0),w_ 2 N_,w_ 3 (i_ 0)]
(h_ [o_ (.loadN 7 l_1),o_ (.call false false 31 [r_0]),v_ r_1,o_ (.extract 0 r_2),o_ (.extract 1 r_2),w_ 4 r_3,w_ 5 r_4]
(.seq (.seq (g_ [v_ l_5,s_ 6 (.bin .neq r_0 (i_ 0))])
(.cond l_6
(h_ [v_ l_5,w_ 2 N_,w_ 3 r_0]
.ret)
.skip))
(h_ [v_ l_4,o_ (.nilCheck r_0),f_ 8 r_1,d_ r_2,o_ (.call false false 32 [r_3]),w_ 2 r_4,w_ 3 (i_ 0)]
.ret))))⟩
def a22:Ann:=⟨[0,1,4],[],[],[],[]⟩
def t22:aU:=⟨2,3,[.loc 2],
(h_ [w_ 2 F_]
(h_ [v_ l_0,v_ l_1,o_ (.call false false 50 [r_0,r_1]),o_ (.bin .geq r_2 (i_ 0)),w_ 2 r_3]
.ret))⟩
def a23:Ann:=⟨[0,2],[],[],[],[]⟩
def t23:aU:=⟨1,2,[.loc 1],
(h_ [w_ 1 F_]
(h_ [v_ l_0,o_ (.bin .geq r_0 (i_ 32)),w_ 1 r_1]
.ret))⟩
def a24:Ann:=⟨[0,1,4],[],[],[],[]⟩
def t24:aU:=⟨2,3,[.loc 2],
(h_ [w_ 2 F_]
(h_ [v_ l_0,v_ l_1,o_ (.call false false 51 [r_0,r_1]),o_ (.bin .geq r_2 (i_ 0)),w_ 2 r_3]
.ret))⟩
def a25:Ann:=⟨[0,2,3,5,6,8,9,10,11,12,20,25,26,27,28],[],[],[],[]⟩
def t25L0:aL:=(.seq (g_ [s_ 14 (.bin .lss pJ oN)])
(.seq (.cond pK
.skip
(.exit 2))
(.seq (.block 3
(h_ [o_ (.indexAddrS 1 iQ pJ),d_ r_0,w_ 5 r_1]
(g_ [v_ l_4,v_ l_5,o_ (.append false 1 24 26 r_0 r_1),w_ 4 r_2])))
(g_ [o_ (.bin .add pJ (i_ 1)),w_ 13 r_0]))))
def t25L1:aL:=(.seq (g_ [s_ 9 (.bin .lss l_8 l_7)])
(.seq (.cond l_9
.skip
(.exit 0))
(.seq (.block 1
(h_ [o_ (.indexAddrS 1 l_6 l_8),d_ r_0,w_ 3 r_1]
(h_ [v_ l_2,v_ l_3,o_ (.len .sl r_1),o_ (.bin .add r_0 r_2),w_ 2 r_3]
(h_ [v_ l_2,s_ 10 (.bin .lss r_0 (i_ 0))]
(.cond kF
(g_ [o_ (.bad),o_ (.bad)])
.skip)))))
(g_ [o_ (.bin .add l_8 (i_ 1)),w_ 8 r_0]))))
def t25:aU:=⟨1,15,[.loc 1],
(h_ [w_ 1 N_]
(h_ [w_ 2 (i_ 0)]
(.seq (.seq (g_ [w_ 6 l_0,s_ 7 (.len .sl r_0),w_ 8 (i_ 0)])
(.block 0
(.loop t25L1)))
(h_ [v_ l_2,o_ (.call false false 52 [N_,r_0]),w_ 4 r_1]
(.seq (.seq (g_ [w_ 11 l_0,s_ 12 (.len .sl r_0),w_ 13 (i_ 0)])
(.block 2
(.loop t25L0)))
(h_ [v_ l_4,w_ 1 r_0]
.ret))))))⟩
def a26:Ann:=⟨[0,2],[],[],[],[]⟩
def t26:aU:=⟨1,2,[.loc 1],
(h_ [w_ 1 F_]
(h_ [v_ l_0,o_ (.call false false 44 [r_0]),o_ (.call false false 40 [r_1,(.fn 53)]),o_ (.len .sl r_2),o_ (.bin .gtr r_3 (i_ 16)),w_ 1 r_4]
.ret))⟩
def a27:Ann:=⟨[0,1,4],[],[],[],[]⟩
def t27:aU:=⟨2,3,[.loc 2],
(h_ [w_ 2 F_]
(h_ [v_ l_0,v_ l_1,o_ (.call false false 54 [r_0,r_1]),o_ (.bin .geq r_2 (i_ 0)),w_ 2 r_3]
.ret))⟩
def a28:Ann:=⟨[0,1,2,3,16],[1],[],[],[]⟩
def t28:aU:=⟨1,5,[.loc 2],
(h_ [o_ (.boxL 1 l_0),w_ 2 F_]
(.seq (.seq (g_ [f_ 6 l_1,d_ r_0,o_ (.call false false 22 [r_1,(.fn 23)]),v_ r_2,x_ 3 (.fieldAddr 0 l_1),x_ 3 (.load1 r_4),x_ 3 (.bin .eql r_5 (i_ 67)),x_ 3 (.mov r_6),y_ 7 (.fieldAddr 1 l_1),y_ 7 (.load1 r_8),y_ 7 (.call true false 23 [r_9]),x_ 3 (.pick r_7 gF F_),s_ 4 (.pick r_3 T_ iD)])
(.cond l_4
(h_ [w_ 2 T_]
.ret)
.skip))
(h_ [f_ 1 l_1,d_ r_0,f_ 2 l_1,d_ r_2,f_ 3 l_1,d_ r_4,o_ (.lit false Z1_ 3 [(0,r_1),(1,r_3),(2,r_5)]),f_ 6 l_1,d_ r_7,o_ (.append false 1 8 3 r_6 r_8),w_ 3 r_9]
(h_ [f_ 0 l_1,d_ r_0,o_ (.bin .eql r_1 (i_ 73)),v_ r_2,x_ 3 (.fieldAddr 0 l_1),x_ 3 (.load1 r_4),x_ 3 (.bin .eql r_5 (i_ 74)),o_ (.pick r_3 T_ r_6),v_ r_7,x_ 8 (.fieldAddr 7 l_1),x_ 8 (.load1 r_9),x_ 8 (.len .sl gF),x_ 8 (.bin .gtr iD (i_ 0)),o_ (.pick r_8 T_ kX),v_ nO,x_ 14 (.mov l_3),x_ 14 (.call false false 22 [rR,(.fn 29)]),o_ (.pick oM T_ rS),w_ 2 aAn]
.ret))))⟩
def a29:Ann:=⟨[0,2],[],[],[],[]⟩
def t29:aU:=⟨1,2,[.loc 1],
(h_ [w_ 1 F_]
(h_ [v_ l_0,c_ 30 [r_0],o_ (.un .not r_1),w_ 1 r_2]
.ret))⟩
def a30:Ann:=⟨[0,2],[],[],[],[]⟩
def t30:aU:=⟨1,2,[.loc 1],
(h_ [w_ 1 F_]
(h_ [v_ l_0,o_ (.bin .lss r_0 (i_ 25)),v_ r_1,x_ 2 (.mov l_0),x_ 2 (.bin .eql r_3 (i_ 26)),o_ (.pick r_2 T_ r_4),v_ r_5,x_ 6 (.mov l_0),x_ 6 (.bin .eql r_7 (i_ 31)),o_ (.pick r_6 T_ r_8),v_ r_9,x_ 10 (.mov l_0),x_ 10 (.bin .geq iD (i_ 32)),o_ (.pick gF T_ kX),w_ 1 nO]
.ret))⟩
def a31:Ann:=⟨[0,1,2,3,4,5,6,7,8,9,10,11,12,13,14,18,36,37,38,39,59,103,107],[11,10,1],[],[],[(5,⟨[0,0,0,4,0,16,63,127,255],[0,1,2,3,4,5,6,7,8],[]⟩),(6,⟨[0,1,0,4,3,31],[0,1,2,3,4,5],[]⟩),(10,⟨[0,1,3,7,0,16,63,127,255,255,0,1535,4095],[0,1,2,3,4,5,6,7,8,9,10],[(11,[],[12])]⟩),(12,⟨[0,1,3,7,0,16,0,64,255],[0,1,2,3,4,5,6,7],[(8,[],[])]⟩),(13,⟨[0,0,0,0,0,16,0,64,240,0,512,0,2544,8176,16371,32755,65535,131071],[0,1,2,3,4,5,6,9,10,11],[(7,[5,10,11],[]),(8,[10,11],[]),(12,[10],[]),(13,[],[14]),(15,[],[16]),(17,[],[])]⟩),(14,⟨[0,1,3,7,0,0,32,96,224,0,0,1024,3072,0,8192,31744,65023,130559,262143,524287],[0,1,2,3,4,5,6,7,8,9,10,11,13,14],[(12,[3,8,14],[]),(15,[3,8],[16]),(17,[],[18]),(19,[],[])]⟩),(22,⟨[0,0,0,0,12,28,0,0,192,448,1023,2047,4095,8191,16383],[0,1,2,3,4,5,6,7,8,9],[(10,[],[11,12,13,14])]⟩)]⟩
def t31L0:aL:=(.seq (.seq (g_ [v_ pK, s_ 22 (.bin .geq r_0 (i_ 0))])
(.cond bVs
.skip
(.exit 4)))
(.seq (.block 5
(.draw [0,1,2,3,4,5,6,7,8,9] [(10,[],[11,12,13,14])] [v_ l_6,v_ pK,v_ l_7,v_ pK,o_ (.indexAddrS 1 r_2 r_3),d_ r_4,v_ l_8,v_ pK,o_ (.indexAddrS 1 r_6 r_7),d_ r_8,o_ (.call false false 56 [r_0,r_1,r_5,r_9]),v_ gF,x_ 11 (.mov pJ),o_ (.pick iD T_ kX),w_ 13 nO]))
(g_ [v_ pK,o_ (.bin .sub r_0 (i_ 1)),w_ 14 r_1])))
def t31L1:aL:=(.seq (.seq (g_ [w_ 21 pJ])
(.cond aTp
.skip
(.exit 2)))
(.block 3
(h_ [w_ 13 F_]
(h_ [v_ l_5,o_ (.bin .sub r_0 (i_ 1)),w_ 14 r_1]
(.block 4
(.loop t31L0))))))
def t31L2:aL:=(.seq (g_ [s_ 19 (.bin .lss aCb aLs)])
(.seq (.cond bJl
.skip
(.exit 0))
(.seq (.block 1
(h_ [v_ aCb,o_ (.indexAddrS 8 sE aCb),o_ (.loadN 8 r_1),o_ (.allocL 10 Z8_),w_ 9 r_0,o_ (.store 8 r_3 r_2)]
(.seq (.seq (.draw [0,1,2,3,4,5,6,7,8,9,10] [(11,[],[12])] [v_ l_6,o_ (.nilCheck r_0),f_ 7 r_1,d_ r_2,f_ 5 kF,d_ r_4,o_ (.lookup (.leaf .int) (.agg Z1_) true r_3 r_5),v_ r_6,o_ (.extract 0 r_7),o_ (.extract 1 r_7),s_ 11 (.allocH 90 Z1_),o_ (.store 1 gF r_8),w_ 12 r_9])
(h_ [f_ 0 kF,d_ r_0,o_ (.bin .eql r_1 (i_ 65)),v_ r_2,y_ 3 (.mov oN),y_ 3 (.un .not r_4),s_ 20 (.pick r_3 r_5 F_)]
(.cond bJm
(.draw [0,1,2,3,4,5,6,7] [(8,[],[])] [v_ l_6,o_ (.nilCheck r_0),f_ 7 r_1,d_ r_2,f_ 5 kF,d_ r_4,v_ l_9,o_ (.build Z1_ [(0,1,r_6)]),o_ (.update (.leaf .int) r_3 r_5 r_7)])
.skip)))
(.seq (.draw [0,1,2,3,4,5,6,9,10,11] [(7,[5,10,11],[]),(8,[10,11],[]),(12,[10],[]),(13,[],[14]),(15,[],[16]),(17,[],[])] [v_ l_7,v_ l_9,v_ l_8,v_ l_9,f_ 1 l_1,d_ r_4,o_ (.loadN 8 kF),c_ 42 [r_6],o_ (.call false false 55 [r_5,r_7]),f_ 1 l_1,d_ r_9,o_ (.loadN 8 kF),c_ 43 [iD],o_ (.call false false 55 [gF,kX]),o_ (.indexAddrS 1 r_0 r_1),o_ (.store 1 oM r_8),o_ (.indexAddrS 1 r_2 r_3),o_ (.store 1 rS nO)])
(.draw [0,1,2,3,4,5,6,7,8,9,10,11,13,14] [(12,[3,8,14],[]),(15,[3,8],[16]),(17,[],[18]),(19,[],[])] [v_ l_6,o_ (.nilCheck r_0),f_ 8 r_1,d_ r_2,v_ l_9,v_ l_6,o_ (.nilCheck r_5),f_ 9 r_6,d_ r_7,v_ l_9,f_ 1 l_1,d_ gF,o_ (.call false false 55 [iD,N_]),f_ 1 l_1,d_ nO,o_ (.call false false 55 [oM,N_]),o_ (.indexAddrS 1 r_3 r_4),o_ (.store 1 rS kX),o_ (.indexAddrS 1 r_8 r_9),o_ (.store 1 aGs rR)])))))
(g_ [o_ (.bin .add aCb (i_ 1)),w_ 18 r_0]))))
def t31:aU:=⟨1,23,[.loc 2,.loc 3],
(h_ [o_ (.boxL 1 l_0),s_ 2 (.mov (.cst .nilp)),w_ 3 (i_ 0)]
(.seq (.seq (g_ [o_ (.loadN 7 l_1),c_ 20 [r_0],w_ 4 r_1])
(h_ [v_ l_4,s_ 15 (.bin .neq r_0 (i_ 0))]
(.cond wZ
(h_ [v_ l_4,s_ 2 (.mov (.cst .nilp)),w_ 3 r_0]
.ret)
.skip)))
(h_ [f_ 6 l_1,d_ r_0,o_ (.len .sl r_1),w_ 5 r_2]
(.seq (.draw [0,1,2,3,4,5,6,7,8] [] [o_ (.loadN 7 l_1),o_ (.mkMap),v_ l_5,o_ (.mkSlice [(.sl .nil [])] 24 r_2 r_2),v_ l_5,o_ (.mkSlice [(.sl .nil [])] 24 r_4 r_4),o_ (.build [(.int .i64 0),(.int .i64 0),(.int .i64 0),(.int .i64 0),(.int .i64 0),(.bool false),(.sl .nil []),.nilm,(.sl .nil []),(.sl .nil [])] [(0,7,r_0),(7,1,r_1),(8,1,r_3),(9,1,r_5)]),o_ (.boxH 65 r_6),w_ 6 r_7])
(.seq (.draw [0,1,2,3,4,5] [] [v_ l_5,o_ (.mkSlice [(.sl .nil [])] 24 r_0 r_0),v_ l_5,o_ (.mkSlice [(.sl .nil [])] 24 r_2 r_2),w_ 7 r_1,w_ 8 r_3])
(.seq (.seq (g_ [f_ 6 l_1,s_ 16 (.load1 r_0),s_ 17 (.len .sl r_1),w_ 18 (i_ 0)])
(.block 0
(.loop t31L2)))
(.seq (.seq (g_ [w_ 13 T_])
(.block 2
(.loop t31L1)))
(h_ [v_ l_6,w_ 2 r_0,w_ 3 (i_ 0)]
.ret))))))))⟩
def a32:Ann:=⟨[0,2,4,5,6,7,8],[],[],[],[]⟩
def t32L0:aL:=(.seq (g_ [s_ 6 (.bin .lss l_5 l_4)])
(.seq (.cond l_6
.skip
(.exit 0))
(.seq (.block 1
(h_ [o_ (.indexAddrS 1 l_3 l_5),d_ r_0,w_ 2 r_1]
(g_ [v_ l_1,v_ l_2,c_ 57 [r_1],o_ (.lit false [(.sl .nil [])] 1 [(0,r_2)]),o_ (.append false 1 24 26 r_0 r_3),w_ 1 r_4])))
(g_ [o_ (.bin .add l_5 (i_ 1)),w_ 5 r_0]))))
def t32:aU:=⟨1,7,[.loc 1],
(h_ [w_ 1 N_]
(.seq (.seq (g_ [w_ 3 l_0,s_ 4 (.len .sl r_0),w_ 5 (i_ 0)])
(.block 0
(.loop t32L0)))
(h_ [v_ l_1,w_ 1 r_0]
.ret)))⟩
def a33:Ann:=⟨[0,1,2,3,4,5,6,7,8,9,10,23],[4],[],[(6,4)],[(6,⟨[0,0,0,0,14,0,63],[0,1,2,3,5],[(4,[0,5],[]),(6,[],[])]⟩)]⟩
def t33:aU:=⟨3,12,[],
(h_ [s_ 3 (.boxH 40 l_0),o_ (.boxL 4 l_1),s_ 5 (.boxH 4 l_2)]
(h_ [o_ (.mkMap),s_ 6 (.allocH 41 [.nilm]),o_ (.store 1 r_1 r_0)]
(h_ [o_ (.mkFn 58 [] [l_3,l_6,l_5]),w_ 7 r_0]
(h_ [s_ 8 (.allocH 4 Z1_),o_ (.store 1 r_0 (i_ (-1)))]
(h_ [o_ (.build Z1_ []),s_ 9 (.allocH 80 Z1_),o_ (.store 1 r_1 r_0)]
(h_ [o_ (.mkFn 61 [] [l_3,l_8,l_9]),w_ 10 r_0]
(.seq (.draw [0,1,2,3,5] [(4,[0,5],[]),(6,[],[])] [d_ l_3,o_ (.loadN 8 l_4),v_ l_7,v_ kF,o_ (.call false true 17 [r_1,r_2,r_3]),d_ l_5,o_ (.call false false 60 [r_0,r_4,r_5])])
(h_ [d_ l_8,s_ 11 (.bin .geq r_0 (i_ 0))]
(.cond iQ
(g_ [d_ l_3,d_ l_8,f_ 0 l_9,d_ r_2,o_ (.build Z8_ [(0,1,(i_ 74)),(2,1,r_1),(4,1,r_3)]),d_ l_5,o_ (.call false false 60 [r_0,r_4,r_5])])
.skip)))))))))⟩
def a34:Ann:=⟨[0,1,2,3,4,5,6,7,8,9,10,12,14,21,27,28,29,30,53,66,67,68,69,78,79,80,81,102],[9,2,1],[],[],[(9,⟨[0,0,2,0,8,30,63,127,63,319,1023],[0,1,2,3,4],[(5,[],[6,7]),(8,[6],[9]),(10,[],[])]⟩),(17,⟨[0,0,3,7,15,31,63,127,255,255,1023,255,2303,255,8447,32767,65535,131071,262143],[0,1,2,3,4,5,6,7,8,9,11,12,13,14],[(10,[12,14],[]),(15,[],[16,17,18])]⟩),(18,⟨[0,0,0,6,15,31,15,79,255],[0,1,2],[(3,[],[4,5]),(6,[4],[7]),(8,[],[])]⟩),(22,⟨[0,1,0,4,0,28,63,127,255],[0,1,2,4],[(3,[1],[]),(5,[1],[6]),(7,[],[8])]⟩)]⟩
def t34L0:aL:=(.seq (g_ [s_ 26 (.bin .lss bTt bWx)])
(.seq (.cond bWy
.skip
(.exit 4))
(.seq (.block 5
(h_ [o_ (.indexAddrS 1 bWw bTt),d_ r_0,w_ 12 r_1]
(.seq (.seq (.draw [0,1,2,3,4,5,6,7,8,9,11,12,13,14] [(10,[12,14],[]),(15,[],[16,17,18])] [v_ oN,v_ iQ,o_ (.bin .eql r_0 r_1),v_ r_2,x_ 3 (.fieldAddr 0 l_9),x_ 3 (.load1 r_4),x_ 3 (.bin .eql r_5 (i_ 64)),x_ 3 (.mov r_6),y_ 7 (.mov iQ),y_ 7 (.mov oN),y_ 7 (.call true false 62 [r_8,r_9]),y_ 7 (.fieldAddr 2 l_9),y_ 7 (.load1 iD),y_ 7 (.fieldAddr 1 l_9),y_ 7 (.load1 nO),y_ 7 (.call true false 62 [kX,oM]),y_ 7 (.eqAgg false [(0,.int),(1,.int)] gF rR),x_ 3 (.pick r_7 rS F_),s_ 27 (.pick r_3 T_ aAn)])
(.cond bWz
(.exit 5)
.skip))
(.draw [0,1,2] [(3,[],[4,5]),(6,[4],[7]),(8,[],[])] [v_ l_6,v_ iQ,v_ oN,c_ 62 [r_1,r_2],o_ (.lookup (.agg [(0,.int),(1,.int)]) (.int .i64 0) false r_0 r_3),o_ (.bin .add r_4 (i_ 1)),o_ (.entry (.agg [(0,.int),(1,.int)]) (.int .i64 0) r_0 r_3),o_ (.extract 1 r_6),o_ (.entryStore r_0 r_7 r_5)]))))
(g_ [o_ (.bin .add bTt (i_ 1)),w_ 25 r_0]))))
def t34L1:aL:=(.seq (g_ [s_ 22 (.bin .lss aTp bJm)])
(.seq (.cond bVs
.skip
(.exit 2))
(.seq (.block 3
(h_ [o_ (.indexAddrS 1 bJl aTp),d_ r_0,w_ 11 r_1]
(h_ [v_ l_4,v_ l_8,o_ (.indexAddrS 1 r_0 r_1),d_ r_2,v_ kF,o_ (.lit false [(.sl .nil [])] 2 [(0,r_3),(1,r_4)]),s_ 23 (.call false false 47 [r_5]),s_ 24 (.len .sl r_6),w_ 25 (i_ 0)]
(.block 4
(.loop t34L0)))))
(g_ [o_ (.bin .add aTp (i_ 1)),w_ 21 r_0]))))
def t34L2:aL:=(.seq (g_ [s_ 17 (.bin .lss sE wZ)])
(.seq (.cond aLs
.skip
(.exit 0))
(.seq (.block 1
(h_ [v_ sE,o_ (.indexAddrS 8 pK sE),o_ (.loadN 8 r_1),o_ (.allocL 9 Z8_),w_ 8 r_0,o_ (.store 8 r_3 r_2)]
(.seq (.seq (g_ [f_ 0 l_9,d_ r_0,o_ (.bin .eql r_1 (i_ 64)),v_ r_2,y_ 3 (.fieldAddr 2 l_9),y_ 3 (.load1 r_4),y_ 3 (.fieldAddr 1 l_9),y_ 3 (.load1 r_6),y_ 3 (.bin .neq r_5 r_7),o_ (.pick r_3 r_8 F_),v_ r_9,y_ 10 (.fieldAddr 2 l_9),y_ 10 (.load1 iD),y_ 10 (.bin .neq kX (i_ 0)),o_ (.pick gF nO F_),v_ oM,y_ 15 (.fieldAddr 1 l_9),y_ 15 (.load1 rS),y_ 15 (.bin .neq aAn (i_ 0)),s_ 18 (.pick rR aGs F_)])
(.cond aCb
(.draw [0,1,2,3,4] [(5,[],[6,7]),(8,[6],[9]),(10,[],[])] [v_ l_7,f_ 2 l_9,d_ r_1,f_ 1 l_9,d_ r_3,c_ 62 [r_2,r_4],o_ (.lookup (.agg [(0,.int),(1,.int)]) (.int .i64 0) false r_0 r_5),o_ (.bin .add r_6 (i_ 1)),o_ (.entry (.agg [(0,.int),(1,.int)]) (.int .i64 0) r_0 r_5),o_ (.extract 1 r_8),o_ (.entryStore r_0 r_9 r_7)])
.skip))
(h_ [o_ (.loadN 8 l_9),c_ 43 [r_0],w_ 10 r_1]
(h_ [w_ 19 kF,s_ 20 (.len .sl r_0),w_ 21 (i_ 0)]
(.block 2
(.loop t34L1)))))))
(g_ [o_ (.bin .add sE (i_ 1)),w_ 16 r_0]))))
def t34:aU:=⟨1,28,[.cell 2 3 true,.loc 3],
(h_ [o_ (.boxL 1 l_0),o_ (.allocL 2 [(.int .i64 0),(.sl .nil []),(.sl .nil [])]),w_ 3 (i_ 0)]
(h_ [o_ (.loadN 7 l_1),c_ 13 [r_0],v_ r_1,o_ (.extract 0 r_2),o_ (.extract 1 r_2),w_ 4 r_3,w_ 5 r_4]
(.seq (.seq (g_ [v_ l_5,s_ 13 (.bin .neq r_0 (i_ 0))])
(.cond pJ
(h_ [o_ (.build [(.int .i64 0),(.sl .nil []),(.sl .nil [])] []),v_ l_5,o_ (.store 3 l_2 r_0),w_ 3 r_1]
.ret)
.skip))
(h_ [o_ (.mkMap),o_ (.mkMap),w_ 6 r_0,w_ 7 r_1]
(.seq (.seq (g_ [f_ 6 l_1,s_ 14 (.load1 r_0),s_ 15 (.len .sl r_1),w_ 16 (i_ 0)])
(.block 0
(.loop t34L2)))
(.seq (.draw [0,1,2,4] [(3,[1],[]),(5,[1],[6]),(7,[],[8])] [f_ 1 l_1,d_ r_0,v_ l_6,o_ (.call false false 63 [r_2]),v_ l_7,o_ (.call false false 63 [r_4]),o_ (.build [(.int .i64 0),(.sl .nil []),(.sl .nil [])] [(0,1,r_1),(1,1,r_3),(2,1,r_5)]),o_ (.store 3 l_2 r_6),w_ 3 (i_ 0)])
.ret))))))⟩
def a35:Ann:=⟨[0,2,3,4,5,18,19,20,21,26,27,36],[5,3,2],[],[],[]⟩
def t35L0:aL:=(.seq (g_ [s_ 8 (.bin .lss l_7 l_6)])
(.seq (.cond l_8
.skip
(.exit 0))
(.seq (.block 1
(h_ [v_ l_7,o_ (.indexAddrS 8 l_5 l_7),o_ (.loadN 8 r_1),o_ (.allocL 4 Z8_),w_ 3 r_0,o_ (.store 8 r_3 r_2)]
(h_ [f_ 0 l_4,s_ 9 (.load1 r_0)]
(.block 2
(h_ [o_ (.bin .eql l_9 (i_ 73)),w_ 10 r_0]
(.cond kF
(g_ [f_ 6 l_2,d_ r_0,v_ l_3,f_ 1 l_4,d_ r_3,o_ (.build Z8_ [(0,1,(i_ 69)),(1,1,r_4)]),o_ (.indexAddrS 8 r_1 r_2),o_ (.store 8 r_6 r_5)])
(h_ [o_ (.bin .eql l_9 (i_ 74)),w_ 11 r_0]
(.cond iQ
(g_ [f_ 6 l_2,d_ r_0,v_ l_3,f_ 2 l_4,d_ r_3,o_ (.build Z8_ [(0,1,(i_ 64)),(2,1,r_4)]),o_ (.indexAddrS 8 r_1 r_2),o_ (.store 8 r_6 r_5)])
.skip))))))))
(g_ [o_ (.bin .add l_7 (i_ 1)),w_ 7 r_0]))))
def t35:aU:=⟨1,12,[.cell 1 7 true],
(h_ [o_ (.allocL 1 Z7_)]
(h_ [v_ l_0,o_ (.nilCheck r_0),f_ 7 r_1,o_ (.loadN 7 r_2),o_ (.allocL 2 Z7_),o_ (.store 7 r_4 r_3)]
(h_ [v_ l_0,o_ (.nilCheck r_0),f_ 7 r_1,f_ 6 r_2,d_ r_3,o_ (.call false false 64 [r_4]),f_ 6 l_2,o_ (.store 1 r_6 r_5)]
(.seq (.seq (g_ [f_ 6 l_2,s_ 5 (.load1 r_0),s_ 6 (.len .sl r_1),w_ 7 (i_ 0)])
(.block 0
(.loop t35L0)))
(h_ [o_ (.loadN 7 l_2),o_ (.store 7 l_1 r_0)]
.ret)))))⟩
def a36:Ann:=⟨[0,1,2,3,4,6,8,11,16,17,28,29,30,31,45,46,47],[1],[],[],[(17,⟨[0,0,0,6,15],[0,1,2],[(3,[0],[]),(4,[],[])]⟩)]⟩
def t36L0:aL:=(.seq (g_ [s_ 13 (.bin .lss oN iQ)])
(.seq (.cond pJ
.skip
(.exit 2))
(.seq (.block 3
(h_ [o_ (.indexAddrS 1 kF oN),d_ r_0,w_ 5 r_1]
(g_ [d_ l_3,o_ (.nilCheck r_0),f_ 6 r_1,d_ r_2,v_ l_5,v_ l_4,o_ (.indexAddrS 1 r_3 r_4),o_ (.store 1 r_6 r_5)])))
(g_ [o_ (.bin .add oN (i_ 1)),w_ 12 r_0]))))
def t36L1:aL:=(.seq (g_ [s_ 9 (.bin .lss l_8 (i_ 32))])
(.seq (.cond l_9
.skip
(.exit 0))
(.seq (.block 1
(h_ [v_ l_8,w_ 4 r_0]
(h_ [d_ l_3,o_ (.nilCheck r_0),f_ 6 r_1,d_ r_2,v_ l_4,v_ l_4,o_ (.indexAddrS 1 r_3 r_4),o_ (.store 1 r_6 r_5)]
(h_ [d_ l_3,v_ l_4,s_ 10 (.call false false 68 [r_0,r_1]),s_ 11 (.len .sl r_2),w_ 12 (i_ 0)]
(.block 2
(.loop t36L0))))))
(g_ [o_ (.bin .add l_8 (i_ 1)),w_ 8 r_0]))))
def t36:aU:=⟨1,17,[.loc 2],
(h_ [o_ (.boxL 1 l_0),w_ 2 N_]
(.seq (.seq (g_ [o_ (.loadN 3 l_1),c_ 65 [r_0],s_ 7 (.un .not r_1)])
(.cond l_7
(h_ [w_ 2 N_]
.ret)
.skip))
(h_ [o_ (.loadN 3 l_1),o_ (.call false false 66 [r_0]),s_ 3 (.allocH 102 [.nilp]),o_ (.store 1 r_2 r_1)]
(h_ [d_ l_3,o_ (.call false false 67 [r_0])]
(.seq (.seq (g_ [w_ 8 (i_ 0)])
(.block 0
(.loop t36L1)))
(.seq (.seq (g_ [d_ l_3,o_ (.call false false 70 [r_0]),s_ 14 (.call false false 69 [r_1])])
(.block 4
(.rangeFunc pK [15,16]
(g_ [w_ 6 sE])
(.block 5
(.draw [0,1,2] [(3,[0],[]),(4,[],[])] [d_ l_3,d_ l_3,v_ l_6,o_ (.call false false 68 [r_1,r_2]),o_ (.call false false 71 [r_0,r_3])])))))
(h_ [d_ l_3,o_ (.nilCheck r_0),f_ 6 r_1,d_ r_2,w_ 2 r_3]
.ret)))))))⟩
def a37:Ann:=⟨[0,2,3,4,5,6,7,8,13],[],[(5,3)],[],[]⟩
def t37L0:aL:=(.seq (g_ [s_ 7 (.bin .lss l_6 l_5)])
(.seq (.cond l_7
.skip
(.exit 0))
(.seq (.block 1
(h_ [v_ l_6,o_ (.indexAddrS 1 l_4 l_6),d_ r_1,w_ 2 r_0,w_ 3 r_2]
(h_ [v_ l_3,s_ 8 (.bin .lss r_0 (i_ 0))]
(.cond l_8
(g_ [v_ l_1,v_ l_2,o_ (.lit false Z1_ 1 [(0,r_1)]),o_ (.append true 1 8 3 r_0 r_2),w_ 1 r_3])
.skip))))
(g_ [o_ (.bin .add l_6 (i_ 1)),w_ 6 r_0]))))
def t37:aU:=⟨1,9,[.loc 1],
(h_ [w_ 1 N_]
(.seq (.seq (g_ [w_ 4 l_0,s_ 5 (.len .sl r_0),w_ 6 (i_ 0)])
(.block 0
(.loop t37L0)))
(h_ [v_ l_1,w_ 1 r_0]
.ret)))⟩
def a38:Ann:=⟨[0,1,3],[],[],[],[]⟩
def t38:aU:=⟨2,3,[.loc 2],
(h_ [w_ 2 F_]
(h_ [v_ l_0,d_ l_1,o_ (.nilCheck r_1),f_ 0 r_2,f_ 1 r_3,d_ r_4,o_ (.bin .geq r_0 r_5),w_ 2 r_6]
.ret))⟩
def a39:Ann:=⟨[0,1,5,6,7,8,9,10,11,24],[6],[],[],[(5,⟨[0,1,3,7,0,0,32,96,224,480,992,2047],[0,1,2,3,4,5,6,7,8,9,10],[(11,[],[])]⟩)]⟩
def t39L0:aL:=(.seq (g_ [s_ 8 (.bin .lss l_7 l_6)])
(.seq (.cond l_8
.skip
(.exit 0))
(.seq (.block 1
(h_ [o_ (.indexAddrS 1 l_5 l_7),d_ r_0,w_ 2 r_1]
(h_ [v_ l_0,o_ (.nilCheck r_0),f_ 15 r_1,d_ r_2,v_ l_2,o_ (.lookup (.leaf .int) (.agg Z1_) true r_3 r_4),v_ r_5,o_ (.extract 0 r_6),o_ (.extract 1 r_6),o_ (.allocL 3 Z1_),o_ (.store 1 r_9 r_7),w_ 4 r_8]
(h_ [v_ l_4,s_ 9 (.un .not r_0)]
(.cond l_9
(.draw [0,1,2,3,4,5,6,7,8,9,10] [(11,[],[])] [v_ l_0,o_ (.nilCheck r_0),f_ 15 r_1,d_ r_2,v_ l_2,v_ l_0,o_ (.nilCheck r_5),f_ 15 r_6,d_ r_7,o_ (.len .mp r_8),o_ (.build Z1_ [(0,1,r_9)]),o_ (.update (.leaf .int) r_3 r_4 gF)])
.skip)))))
(g_ [o_ (.bin .add l_7 (i_ 1)),w_ 7 r_0]))))
def t39:aU:=⟨2,10,[],
(h_ [w_ 5 l_1,s_ 6 (.len .sl r_0),w_ 7 (i_ 0)]
(.block 0
(.loop t39L0)))⟩
def a40:Ann:=⟨[0,1,4,5,6,7,12,19,29],[],[],[],[]⟩
def t40L0:aL:=(.seq (.seq (g_ [v_ l_4,v_ l_0,o_ (.len .sl r_1),s_ 7 (.bin .lss r_0 r_2)])
(.cond l_7
.skip
(.exit 0)))
(.seq (.block 1
(h_ [v_ l_0,v_ l_4,o_ (.indexAddrS 1 r_0 r_1),d_ r_2,w_ 5 r_3]
(h_ [v_ l_1,v_ l_5,o_ (.callv r_0 [r_1]),s_ 8 (.un .not r_2)]
(.cond l_8
(h_ [v_ l_0,v_ l_3,v_ l_5,o_ (.indexAddrS 1 r_0 r_1),o_ (.store 1 r_3 r_2)]
(g_ [v_ l_3,o_ (.bin .add r_0 (i_ 1)),w_ 3 r_1]))
.skip))))
(g_ [v_ l_4,o_ (.bin .add r_0 (i_ 1)),w_ 4 r_1])))
def t40:aU:=⟨2,9,[.loc 2],
(h_ [w_ 2 N_]
(h_ [v_ l_0,v_ l_1,o_ (.call false false 50 [r_0,r_1]),w_ 3 r_2]
(.seq (.seq (g_ [v_ l_3,s_ 6 (.bin .eql r_0 (i_ (-1)))])
(.cond l_6
(h_ [v_ l_0,w_ 2 r_0]
.ret)
.skip))
(.seq (.seq (g_ [v_ l_3,o_ (.bin .add r_0 (i_ 1)),w_ 4 r_1])
(.block 0
(.loop t40L0)))
(h_ [v_ l_0,v_ l_3,o_ (.slice (.sl 1) r_0 (some r_1) none none),o_ (.clear Z1_ r_2)]
(h_ [v_ l_0,v_ l_3,o_ (.slice (.sl 1) r_0 none (some r_1) none),w_ 2 r_2]
.ret))))))⟩
def a41:Ann:=⟨[0,1,3],[],[],[],[]⟩
def t41:aU:=⟨2,3,[.loc 2],
(h_ [w_ 2 F_]
(h_ [v_ l_0,d_ l_1,o_ (.nilCheck r_1),f_ 0 r_2,f_ 1 r_3,d_ r_4,o_ (.bin .geq r_0 r_5),w_ 2 r_6]
.ret))⟩
def a42:Ann:=⟨[0,1,2,3,24,48],[1],[(4,4),(8,2),(12,4)],[],[]⟩
def t42:aU:=⟨1,6,[.loc 2],
(h_ [o_ (.boxL 1 l_0),w_ 2 N_]
(.seq (.block 0
(.seq (.seq (g_ [f_ 0 l_1,d_ r_0,o_ (.bin .geq r_1 (i_ 1)),v_ r_2,y_ 3 (.fieldAddr 0 l_1),y_ 3 (.load1 r_4),y_ 3 (.bin .leq r_5 (i_ 14)),o_ (.pick r_3 r_6 F_),w_ 3 r_7])
(.cond l_3
.skip
(h_ [f_ 0 l_1,d_ r_0,o_ (.bin .eql r_1 (i_ 25)),w_ 3 r_2]
(.cond l_3
.skip
(g_ [f_ 0 l_1,d_ r_0,c_ 72 [r_1],w_ 3 r_2])))))
(.cond l_3
(h_ [f_ 2 l_1,d_ r_0,f_ 3 l_1,d_ r_2,o_ (.lit true Z1_ 2 [(0,r_1),(1,r_3)]),o_ (.call false false 73 [r_4]),w_ 2 r_5]
.ret)
(.seq (.seq (g_ [f_ 0 l_1,d_ r_0,o_ (.bin .geq r_1 (i_ 15)),v_ r_2,y_ 3 (.fieldAddr 0 l_1),y_ 3 (.load1 r_4),y_ 3 (.bin .leq r_5 (i_ 24)),o_ (.pick r_3 r_6 F_),v_ r_7,y_ 8 (.fieldAddr 0 l_1),y_ 8 (.load1 r_9),y_ 8 (.bin .neq gF (i_ 23)),o_ (.pick r_8 iD F_),w_ 4 kX])
(.cond l_4
.skip
(h_ [f_ 0 l_1,d_ r_0,o_ (.bin .eql r_1 (i_ 64)),w_ 4 r_2]
(.cond l_4
.skip
(g_ [f_ 0 l_1,d_ r_0,o_ (.bin .eql r_1 (i_ 74)),w_ 4 r_2])))))
(.cond l_4
(h_ [f_ 2 l_1,d_ r_0,o_ (.lit true Z1_ 1 [(0,r_1)]),o_ (.call false false 73 [r_2]),w_ 2 r_3]
.ret)
(.seq (.seq (g_ [f_ 0 l_1,d_ r_0,o_ (.bin .eql r_1 (i_ 67)),w_ 5 r_2])
(.cond l_5
.skip
(h_ [f_ 0 l_1,d_ r_0,o_ (.bin .eql r_1 (i_ 68)),w_ 5 r_2]
(.cond l_5
.skip
(g_ [f_ 0 l_1,d_ r_0,o_ (.bin .eql r_1 (i_ 72)),w_ 5 r_2])))))
(.cond l_5
(h_ [f_ 6 l_1,d_ r_0,o_ (.call false false 44 [r_1]),o_ (.lit false Z1_ 1 [(0,(i_ 26))]),o_ (.append true 1 8 3 r_2 r_3),o_ (.call false false 73 [r_4]),w_ 2 r_5]
.ret)
.skip)))))))
(h_ [w_ 2 N_]
.ret)))⟩
def a43:Ann:=⟨[0,1,2,3,4,5,18,37,44,45],[1],[(2,2),(6,2),(8,2)],[],[]⟩
def t43L0:aL:=(.seq (g_ [s_ 9 (.bin .lss l_8 (i_ 25))])
(.seq (.cond l_9
.skip
(.exit 1))
(.seq (.block 2
(h_ [v_ l_8,w_ 4 r_0]
(g_ [v_ l_3,v_ l_4,o_ (.bin .add r_1 (i_ 1)),o_ (.lit false Z1_ 1 [(0,r_2)]),o_ (.append false 1 8 3 r_0 r_3),w_ 3 r_4])))
(g_ [o_ (.bin .add l_8 (i_ 1)),w_ 8 r_0]))))
def t43:aU:=⟨1,10,[.loc 2],
(h_ [o_ (.boxL 1 l_0),w_ 2 N_]
(.seq (.block 0
(h_ [f_ 0 l_1,d_ r_0,o_ (.bin .geq r_1 (i_ 1)),v_ r_2,y_ 3 (.fieldAddr 0 l_1),y_ 3 (.load1 r_4),y_ 3 (.bin .leq r_5 (i_ 24)),o_ (.pick r_3 r_6 F_),w_ 5 r_7]
(.cond l_5
(h_ [f_ 1 l_1,d_ r_0,o_ (.lit true Z1_ 1 [(0,r_1)]),o_ (.call false false 73 [r_2]),w_ 2 r_3]
.ret)
(.seq (.seq (g_ [f_ 0 l_1,d_ r_0,o_ (.bin .eql r_1 (i_ 64)),w_ 6 r_2])
(.cond l_6
.skip
(h_ [f_ 0 l_1,d_ r_0,o_ (.bin .geq r_1 (i_ 69)),v_ r_2,y_ 3 (.fieldAddr 0 l_1),y_ 3 (.load1 r_4),y_ 3 (.bin .leq r_5 (i_ 71)),o_ (.pick r_3 r_6 F_),w_ 6 r_7]
(.cond l_6
.skip
(g_ [f_ 0 l_1,d_ r_0,o_ (.bin .eql r_1 (i_ 73)),w_ 6 r_2])))))
(.cond l_6
(h_ [f_ 1 l_1,d_ r_0,o_ (.lit true Z1_ 1 [(0,r_1)]),o_ (.call false false 73 [r_2]),w_ 2 r_3]
.ret)
(h_ [f_ 0 l_1,d_ r_0,o_ (.bin .eql r_1 (i_ 67)),w_ 7 r_2]
(.cond l_7
(h_ [f_ 1 l_1,d_ r_0,o_ (.lit true Z1_ 3 [(0,r_1),(1,(i_ 26)),(2,(i_ 31))]),w_ 3 r_2]
(.seq (.seq (g_ [w_ 8 (i_ 0)])
(.block 1
(.loop t43L0)))
(h_ [v_ l_3,o_ (.call false false 73 [r_0]),w_ 2 r_1]
.ret)))
.skip)))))))
(h_ [w_ 2 N_]
.ret)))⟩
def a44:Ann:=⟨[0,2,4],[],[(3,2)],[],[]⟩
def t44:aU:=⟨1,3,[.loc 1],
(h_ [w_ 1 N_]
(.seq (.seq (g_ [v_ l_0,s_ 2 (.eqB false .sl r_0 N_)])
(.cond l_2
(h_ [w_ 1 N_]
.ret)
.skip))
(h_ [o_ (.lit false Z1_ 0 []),v_ l_0,o_ (.append true 1 8 3 r_0 r_1),w_ 1 r_2]
.ret)))⟩
def a45:Ann:=⟨[0,1,4],[],[],[],[]⟩
def t45:aU:=⟨2,3,[.loc 2],
(h_ [w_ 2 F_]
(h_ [v_ l_0,v_ l_1,c_ 74 [r_0,r_1],o_ (.bin .geq r_2 (i_ 0)),w_ 2 r_3]
.ret))⟩
def a47:Ann:=⟨[0,2,3,5,6,8,9,10,11,12,20,25,26,27,28],[],[],[],[]⟩
def t47L0:aL:=(.seq (g_ [s_ 14 (.bin .lss pJ oN)])
(.seq (.cond pK
.skip
(.exit 2))
(.seq (.block 3
(h_ [o_ (.indexAddrS 1 iQ pJ),d_ r_0,w_ 5 r_1]
(g_ [v_ l_4,v_ l_5,o_ (.append false 1 8 3 r_0 r_1),w_ 4 r_2])))
(g_ [o_ (.bin .add pJ (i_ 1)),w_ 13 r_0]))))
def t47L1:aL:=(.seq (g_ [s_ 9 (.bin .lss l_8 l_7)])
(.seq (.cond l_9
.skip
(.exit 0))
(.seq (.block 1
(h_ [o_ (.indexAddrS 1 l_6 l_8),d_ r_0,w_ 3 r_1]
(h_ [v_ l_2,v_ l_3,o_ (.len .sl r_1),o_ (.bin .add r_0 r_2),w_ 2 r_3]
(h_ [v_ l_2,s_ 10 (.bin .lss r_0 (i_ 0))]
(.cond kF
(g_ [o_ (.bad),o_ (.bad)])
.skip)))))
(g_ [o_ (.bin .add l_8 (i_ 1)),w_ 8 r_0]))))
def t47:aU:=⟨1,15,[.loc 1],
(h_ [w_ 1 N_]
(h_ [w_ 2 (i_ 0)]
(.seq (.seq (g_ [w_ 6 l_0,s_ 7 (.len .sl r_0),w_ 8 (i_ 0)])
(.block 0
(.loop t47L1)))
(h_ [v_ l_2,o_ (.call false false 77 [N_,r_0]),w_ 4 r_1]
(.seq (.seq (g_ [w_ 11 l_0,s_ 12 (.len .sl r_0),w_ 13 (i_ 0)])
(.block 2
(.loop t47L0)))
(h_ [v_ l_4,w_ 1 r_0]
.ret))))))⟩
def a48:Ann:=⟨[0,1,2],[1],[],[],[]⟩
def t48:aU:=⟨1,3,[.loc 2],
(h_ [o_ (.boxL 1 l_0),w_ 2 F_]
(h_ [o_ (.loadN 8 l_1),c_ 78 [r_0],v_ r_1,x_ 2 (.fieldAddr 0 l_1),x_ 2 (.load1 r_3),x_ 2 (.bin .geq r_4 (i_ 26)),x_ 2 (.mov r_5),y_ 6 (.fieldAddr 0 l_1),y_ 6 (.load1 r_7),y_ 6 (.bin .leq r_8 (i_ 31)),x_ 2 (.pick r_6 r_9 F_),o_ (.pick r_2 T_ gF),v_ iD,x_ 12 (.fieldAddr 0 l_1),x_ 12 (.load1 nO),x_ 12 (.bin .geq oM (i_ 64)),x_ 12 (.mov rR),y_ 16 (.fieldAddr 0 l_1),y_ 16 (.load1 aAn),y_ 16 (.bin .leq aGs (i_ 72)),x_ 12 (.pick rS aPo F_),o_ (.pick kX T_ aPp),w_ 2 aPq]
.ret))⟩
def a49:Ann:=⟨[0,1,3],[],[],[],[]⟩
def t49:aU:=⟨2,3,[.loc 2],
(h_ [w_ 2 F_]
(h_ [v_ l_0,o_ (.bin .lss r_0 (i_ 0)),v_ r_1,x_ 2 (.mov l_0),x_ 2 (.fieldAddr 1 l_1),x_ 2 (.load1 r_4),x_ 2 (.bin .geq r_3 r_5),o_ (.pick r_2 T_ r_6),w_ 2 r_7]
.ret))⟩
def a50:Ann:=⟨[0,1,4,5,7,8,9,16],[],[],[],[]⟩
def t50L0:aL:=(.seq (g_ [s_ 6 (.bin .lss l_5 l_4)])
(.seq (.cond l_6
.skip
(.exit 0))
(.seq (.block 1
(h_ [v_ l_5,w_ 3 r_0]
(h_ [v_ l_1,v_ l_0,v_ l_3,o_ (.indexAddrS 1 r_1 r_2),d_ r_3,s_ 7 (.callv r_0 [r_4])]
(.cond l_7
(h_ [v_ l_3,w_ 2 r_0]
.ret)
.skip))))
(g_ [o_ (.bin .add l_5 (i_ 1)),w_ 5 r_0]))))
def t50:aU:=⟨2,8,[.loc 2],
(h_ [w_ 2 (i_ 0)]
(.seq (.seq (g_ [v_ l_0,s_ 4 (.len .sl r_0),w_ 5 (i_ 0)])
(.block 0
(.loop t50L0)))
(h_ [s_ 2 (.mov (i_ (-1)))]
.ret)))⟩
def a51:Ann:=⟨[0,1,4,5,7,8,9,16],[],[],[],[]⟩
def t51L0:aL:=(.seq (g_ [s_ 6 (.bin .lss l_5 l_4)])
(.seq (.cond l_6
.skip
(.exit 0))
(.seq (.block 1
(h_ [v_ l_5,w_ 3 r_0]
(h_ [v_ l_1,v_ l_0,v_ l_3,o_ (.indexAddrS 1 r_1 r_2),d_ r_3,s_ 7 (.callv r_0 [r_4])]
(.cond l_7
(h_ [v_ l_3,w_ 2 r_0]
.ret)
.skip))))
(g_ [o_ (.bin .add l_5 (i_ 1)),w_ 5 r_0]))))
def t51:aU:=⟨2,8,[.loc 2],
(h_ [w_ 2 (i_ 0)]
(.seq (.seq (g_ [v_ l_0,s_ 4 (.len .sl r_0),w_ 5 (i_ 0)])
(.block 0
(.loop t51L0)))
(h_ [s_ 2 (.mov (i_ (-1)))]
.ret)))⟩
def a52:Ann:=⟨[0,1,4,6,16],[],[],[],[]⟩
def t52:aU:=⟨2,5,[.loc 2],
(h_ [w_ 2 N_]
(.seq (.seq (g_ [v_ l_1,s_ 3 (.bin .lss r_0 (i_ 0))])
(.cond l_3
(g_ [o_ (.bad),o_ (.bad)])
.skip))
(.seq (.seq (g_ [v_ l_1,v_ l_0,o_ (.cap r_1),v_ l_0,o_ (.len .sl r_3),o_ (.bin .sub r_2 r_4),o_ (.bin .sub r_0 r_5),w_ 1 r_6])
(h_ [v_ l_1,s_ 4 (.bin .gtr r_0 (i_ 0))]
(.cond l_4
(g_ [v_ l_0,v_ l_0,o_ (.cap r_1),o_ (.slice (.sl 1) r_0 none (some r_2) none),v_ l_1,o_ (.grow 1 24 26 r_3 r_4),v_ l_0,o_ (.len .sl r_6),o_ (.slice (.sl 1) r_5 none (some r_7) none),w_ 0 r_8])
.skip)))
(h_ [v_ l_0,w_ 2 r_0]
.ret))))⟩
def a53:Ann:=⟨[0,2],[],[],[],[]⟩
def t53:aU:=⟨1,2,[.loc 1],
(h_ [w_ 1 F_]
(h_ [v_ l_0,o_ (.bin .gtr r_0 (i_ 24)),w_ 1 r_1]
.ret))⟩
def a54:Ann:=⟨[0,1,4,5,7,8,9,16],[],[],[],[]⟩
def t54L0:aL:=(.seq (g_ [s_ 6 (.bin .lss l_5 l_4)])
(.seq (.cond l_6
.skip
(.exit 0))
(.seq (.block 1
(h_ [v_ l_5,w_ 3 r_0]
(h_ [v_ l_1,v_ l_0,v_ l_3,o_ (.indexAddrS 8 r_1 r_2),o_ (.loadN 8 r_3),s_ 7 (.callv r_0 [r_4])]
(.cond l_7
(h_ [v_ l_3,w_ 2 r_0]
.ret)
.skip))))
(g_ [o_ (.bin .add l_5 (i_ 1)),w_ 5 r_0]))))
def t54:aU:=⟨2,8,[.loc 2],
(h_ [w_ 2 (i_ 0)]
(.seq (.seq (g_ [v_ l_0,s_ 4 (.len .sl r_0),w_ 5 (i_ 0)])
(.block 0
(.loop t54L0)))
(h_ [s_ 2 (.mov (i_ (-1)))]
.ret)))⟩
def a55:Ann:=⟨[0,1,4,5,7,13,14,15,16,21],[],[],[],[(6,⟨[0,0,2,7,15,0,32,96,255,511,1023],[0,1,2,3,4,5,6,7,8,9],[(10,[],[])]⟩)]⟩
def t55L0:aL:=(.seq (g_ [s_ 8 (.bin .lss l_7 l_6)])
(.seq (.cond l_8
.skip
(.exit 0))
(.seq (.block 1
(h_ [o_ (.indexAddrS 1 l_5 l_7),d_ r_0,w_ 4 r_1]
(h_ [v_ l_4,v_ l_0,s_ 9 (.bin .lss r_0 r_1)]
(.cond l_9
(.draw [0,1,2,3,4,5,6,7,8,9] [(10,[],[])] [v_ l_3,v_ l_4,o_ (.bin .quo r_1 (i_ 64)),o_ (.indexAddrS 1 r_0 r_2),d_ r_3,v_ l_4,o_ (.bin .rem r_5 (i_ 64)),o_ (.bin .shl (.cst (.int .u64 1)) r_6),o_ (.bin .or r_4 r_7),o_ (.indexAddrS 1 r_0 r_2),o_ (.store 1 r_9 r_8)])
.skip))))
(g_ [o_ (.bin .add l_7 (i_ 1)),w_ 7 r_0]))))
def t55:aU:=⟨2,10,[.loc 2],
(h_ [w_ 2 N_]
(h_ [v_ l_0,o_ (.bin .add r_0 (i_ 64)),o_ (.bin .sub r_1 (i_ 1)),o_ (.bin .quo r_2 (i_ 64)),o_ (.mkSlice [(.int .u64 0)] 8 r_3 r_3),w_ 3 r_4]
(.seq (.seq (g_ [w_ 5 l_1,s_ 6 (.len .sl r_0),w_ 7 (i_ 0)])
(.block 0
(.loop t55L0)))
(h_ [v_ l_3,w_ 2 r_0]
.ret))))⟩
def a56:Ann:=⟨[0,1,2,3,4,8,9,10,11,12,13,14,23,24,26,27,28,54,55,56],[],[],[],[(7,⟨[0,0,3,7,0,16,48,112,0,496,1008,0,4080,8176,16383,32767,65535],[0,1,2,3,4,5,6,7,8,9,10,11,12,13,14,15],[(16,[],[])]⟩),(13,⟨[0,0,0,0,12,28,0,0,192,448,0,0,3072,7168,16320,32764,65535,131071],[0,1,2,3,4,5,6,7,8,9,10,11,12,13,14,15,16],[(17,[],[])]⟩),(16,⟨[0,1,3,7,0,0,32,96,224,0,0,0,1535,5631,16383,32767],[0,1,2,3,4,5,6,7,8,9,10,11,12],[(13,[11],[14]),(15,[],[])]⟩)]⟩
def t56L0:aL:=(.seq (g_ [s_ 19 (.bin .lss aCb aLs)])
(.seq (.cond bJl
.skip
(.exit 4))
(.seq (.block 5
(h_ [v_ aCb,w_ 10 r_0]
(.draw [0,1,2,3,4,5,6,7,8,9,10,11,12,13,14,15,16] [(17,[],[])] [v_ l_9,v_ kF,v_ l_2,v_ kF,o_ (.indexAddrS 1 r_2 r_3),d_ r_4,d_ l_6,v_ kF,o_ (.indexAddrS 1 r_6 r_7),d_ r_8,v_ l_3,v_ kF,o_ (.indexAddrS 1 gF iD),d_ kX,o_ (.bin .andNot r_9 nO),o_ (.bin .or r_5 oM),o_ (.indexAddrS 1 r_0 r_1),o_ (.store 1 rS rR)])))
(g_ [o_ (.bin .add aCb (i_ 1)),w_ 18 r_0]))))
def t56L1:aL:=(.seq (g_ [s_ 16 (.bin .lss wZ pK)])
(.seq (.cond sE
.skip
(.exit 2))
(.seq (.block 3
(h_ [v_ wZ,w_ 8 r_0]
(.draw [0,1,2,3,4,5,6,7,8,9,10,11,12,13,14,15] [(16,[],[])] [d_ l_6,v_ l_8,o_ (.indexAddrS 1 r_0 r_1),d_ r_2,d_ l_4,o_ (.nilCheck r_4),f_ 8 r_5,d_ r_6,v_ l_7,o_ (.indexAddrS 1 r_7 r_8),d_ r_9,v_ l_8,o_ (.indexAddrS 1 gF iD),d_ kX,o_ (.bin .or r_3 nO),o_ (.indexAddrS 1 r_0 r_1),o_ (.store 1 rR oM)])))
(g_ [o_ (.bin .add wZ (i_ 1)),w_ 15 r_0]))))
def t56:aU:=⟨4,20,[.loc 5],
(h_ [s_ 4 (.boxH 58 l_0),w_ 5 F_]
(h_ [d_ l_4,o_ (.nilCheck r_0),f_ 0 r_1,f_ 1 r_2,d_ r_3,o_ (.call false false 55 [r_4,N_]),s_ 6 (.allocH 93 [(.sl .nil [])]),o_ (.store 1 r_6 r_5)]
(.seq (.seq (g_ [d_ l_4,v_ l_1,s_ 12 (.call false false 79 [r_0,r_1])])
(.block 0
(.rangeFunc oN [13]
(g_ [w_ 7 pJ])
(.block 1
(h_ [d_ l_6,s_ 14 (.len .sl r_0),w_ 15 (i_ 0)]
(.block 2
(.loop t56L1)))))))
(h_ [d_ l_4,o_ (.nilCheck r_0),f_ 0 r_1,f_ 1 r_2,d_ r_3,o_ (.call false false 55 [r_4,N_]),w_ 9 r_5]
(.seq (.seq (g_ [v_ l_9,s_ 17 (.len .sl r_0),w_ 18 (i_ 0)])
(.block 4
(.loop t56L0)))
(h_ [v_ l_9,d_ l_4,o_ (.nilCheck r_1),f_ 8 r_2,d_ r_3,v_ l_1,o_ (.indexAddrS 1 r_4 r_5),d_ r_6,o_ (.call false false 80 [r_0,r_7]),o_ (.un .not r_8),w_ 11 r_9]
(.seq (.draw [0,1,2,3,4,5,6,7,8,9,10,11,12] [(13,[11],[14]),(15,[],[])] [d_ l_4,o_ (.nilCheck r_0),f_ 8 r_1,d_ r_2,v_ l_1,d_ l_4,o_ (.nilCheck r_5),f_ 9 r_6,d_ r_7,v_ l_1,v_ l_9,d_ l_6,o_ (.indexAddrS 1 r_3 r_4),o_ (.store 1 kX gF),o_ (.indexAddrS 1 r_8 r_9),o_ (.store 1 oM iD)])
(h_ [v_ iQ,w_ 5 r_0]
.ret))))))))⟩
def a57:Ann:=⟨[0,2,3,4,5,6,7,8,13],[],[],[],[]⟩
def t57L0:aL:=(.seq (.seq (g_ [v_ l_3, s_ 8 (.bin .neq r_0 (.cst (.int .u64 0)))])
(.cond l_8
.skip
(.exit 2)))
(.seq (.block 3
(g_ [v_ l_1,v_ l_2,o_ (.bin .mul (i_ 64) r_1),v_ l_3,c_ 81 [r_3],o_ (.bin .add r_2 r_4),o_ (.lit false Z1_ 1 [(0,r_5)]),o_ (.append false 1 8 3 r_0 r_6),w_ 1 r_7]))
(g_ [v_ l_3,v_ l_3,o_ (.bin .sub r_1 (.cst (.int .u64 1))),o_ (.bin .and r_0 r_2),w_ 3 r_3])))
def t57L1:aL:=(.seq (g_ [s_ 7 (.bin .lss l_6 l_5)])
(.seq (.cond l_7
.skip
(.exit 0))
(.seq (.block 1
(h_ [v_ l_6,o_ (.indexAddrS 1 l_4 l_6),d_ r_1,w_ 2 r_0,w_ 3 r_2]
(.block 2
(.loop t57L0))))
(g_ [o_ (.bin .add l_6 (i_ 1)),w_ 6 r_0]))))
def t57:aU:=⟨1,9,[.loc 1],
(h_ [w_ 1 N_]
(.seq (.seq (g_ [w_ 4 l_0,s_ 5 (.len .sl r_0),w_ 6 (i_ 0)])
(.block 0
(.loop t57L1)))
(h_ [v_ l_1,w_ 1 r_0]
.ret)))⟩
def a58:Ann:=⟨[0,1,2,3,5,6,7,8,9,10,21,29],[8,6],[],[],[]⟩
def t58:aU:=⟨4,12,[.loc 4],
(h_ [w_ 4 (i_ 0)]
(h_ [d_ l_1,o_ (.nilCheck r_0),f_ 15 r_1,d_ r_2,v_ l_0,o_ (.lookup (.leaf .int) (.agg Z1_) true r_3 r_4),v_ r_5,o_ (.extract 0 r_6),o_ (.extract 1 r_6),o_ (.allocL 5 Z1_),o_ (.store 1 r_9 r_7),w_ 6 r_8]
(.seq (.seq (g_ [v_ l_6,s_ 10 (.un .not r_0)])
(.cond kF
(h_ [v_ l_0,w_ 4 r_0]
.ret)
.skip))
(.seq (.seq (g_ [d_ l_2,v_ l_0,o_ (.lookup (.leaf .int) (.agg Z1_) true r_0 r_1),v_ r_2,o_ (.extract 0 r_3),o_ (.extract 1 r_3),o_ (.allocL 7 Z1_),o_ (.store 1 r_6 r_4),w_ 8 r_5])
(h_ [w_ 11 l_8]
(.cond iQ
(h_ [f_ 0 l_7,d_ r_0,w_ 4 r_1]
.ret)
.skip)))
(h_ [d_ l_1,o_ (.call false false 59 [r_0]),w_ 9 r_1]
(h_ [d_ l_2,v_ l_0,v_ l_9,o_ (.build Z1_ [(0,1,r_2)]),o_ (.update (.leaf .int) r_0 r_1 r_3)]
(h_ [d_ l_1,v_ l_9,f_ 0 l_5,d_ r_2,o_ (.build Z8_ [(0,1,(i_ 73)),(1,1,r_1),(4,1,r_3)]),d_ l_3,o_ (.call false false 60 [r_0,r_4,r_5])]
(h_ [v_ l_9,w_ 4 r_0]
.ret))))))))⟩
def a59:Ann:=⟨[0,2],[],[],[],[]⟩
def t59:aU:=⟨1,2,[.loc 1],
(h_ [w_ 1 (i_ 0)]
(h_ [v_ l_0,o_ (.nilCheck r_0),f_ 7 r_1,f_ 1 r_2,d_ r_3,o_ (.bin .add r_4 (i_ 1)),o_ (.nilCheck r_0),f_ 7 r_6,f_ 1 r_7,o_ (.store 1 r_8 r_5)]
(h_ [v_ l_0,o_ (.nilCheck r_0),f_ 7 r_1,f_ 1 r_2,d_ r_3,o_ (.bin .sub r_4 (i_ 1)),w_ 1 r_5]
.ret)))⟩
def a60:Ann:=⟨[0,1,2,4],[4],[],[],[(1,⟨[0,0,2,6,14,30,0,64,254,511,1023,2047,4095],[0,1,2,3,4,5,6,7],[(8,[],[9,10,11]),(12,[],[])]⟩)]⟩
def t60:aU:=⟨3,4,[],
(h_ [o_ (.boxL 3 l_1)]
(.seq (.draw [0,1,2,3,4,5,6,7] [(8,[],[9,10,11]),(12,[],[])] [v_ l_0,v_ l_0,o_ (.nilCheck r_1),f_ 7 r_2,f_ 6 r_3,d_ r_4,o_ (.loadN 8 l_3),o_ (.lit false Z8_ 1 [(0,r_6)]),o_ (.append false 8 96 28 r_5 r_7),o_ (.nilCheck r_0),f_ 7 r_9,f_ 6 gF,o_ (.store 1 iD r_8)])
(g_ [v_ l_0,v_ l_0,o_ (.nilCheck r_1),f_ 14 r_2,d_ r_3,v_ l_2,o_ (.lit false Z1_ 1 [(0,r_5)]),o_ (.append false 1 8 3 r_4 r_6),o_ (.nilCheck r_0),f_ 14 r_8,o_ (.store 1 r_9 r_7)])))⟩
def a61:Ann:=⟨[0,1,2,3,5,6,7,18],[6],[],[],[(4,⟨[0,1,0,3,15],[0,2],[(1,[2],[]),(3,[2],[]),(4,[],[])]⟩)]⟩
def t61:aU:=⟨4,8,[.loc 4],
(h_ [w_ 4 (i_ 0)]
(h_ [d_ l_1,o_ (.nilCheck r_0),f_ 15 r_1,d_ r_2,v_ l_0,o_ (.lookup (.leaf .int) (.agg Z1_) true r_3 r_4),v_ r_5,o_ (.extract 0 r_6),o_ (.extract 1 r_6),o_ (.allocL 5 Z1_),o_ (.store 1 r_9 r_7),w_ 6 r_8]
(.seq (.seq (g_ [v_ l_6,s_ 7 (.un .not r_0)])
(.cond l_7
(h_ [v_ l_0,w_ 4 r_0]
.ret)
.skip))
(.seq (.draw [0,2] [(1,[2],[]),(3,[2],[]),(4,[],[])] [d_ l_1,o_ (.call false false 59 [r_0]),o_ (.loadN 1 l_5),o_ (.store 1 l_2 r_1),o_ (.store 1 l_3 r_2)])
(h_ [d_ l_2,w_ 4 r_0]
.ret)))))⟩
def a62:Ann:=⟨[0,1,4],[4],[],[],[]⟩
def t62:aU:=⟨2,3,[.cell 2 2 true],
(h_ [o_ (.allocL 2 [(.int .i64 0),(.int .i64 0)])]
(h_ [v_ l_0,v_ l_1,o_ (.minmax false [r_0,r_1]),v_ l_0,v_ l_1,o_ (.minmax true [r_3,r_4]),o_ (.build [(.int .i64 0),(.int .i64 0)] [(0,1,r_2),(1,1,r_5)]),o_ (.store 2 l_2 r_6)]
.ret))⟩
def a63:Ann:=⟨[0,2],[],[],[],[]⟩
def t63:aU:=⟨1,2,[.loc 1],
(h_ [w_ 1 N_]
(h_ [v_ l_0,o_ (.call false false 83 [r_0]),o_ (.call false false 82 [r_1,(.fn 84)]),w_ 1 r_2]
.ret))⟩
def a64:Ann:=⟨[0,2,4],[],[(3,2)],[],[]⟩
def t64:aU:=⟨1,3,[.loc 1],
(h_ [w_ 1 N_]
(.seq (.seq (g_ [v_ l_0,s_ 2 (.eqB false .sl r_0 N_)])
(.cond l_2
(h_ [w_ 1 N_]
.ret)
.skip))
(h_ [o_ (.lit false Z8_ 0 []),v_ l_0,o_ (.append true 8 96 28 r_0 r_1),w_ 1 r_2]
.ret)))⟩
def a65:Ann:=⟨[0,1,2,3],[],[],[],[]⟩
def t65:aU:=⟨1,4,[.loc 2],
(h_ [s_ 1 (.boxH 69 l_0),w_ 2 F_]
(h_ [o_ (.mkFn 85 [] [l_1]),w_ 3 r_0]
(h_ [f_ 0 l_1,d_ r_0,o_ (.bin .geq r_1 (i_ 32)),v_ r_2,y_ 3 (.fieldAddr 1 l_1),y_ 3 (.load1 r_4),y_ 3 (.mov l_3),y_ 3 (.call false false 86 [r_5,r_6]),y_ 3 (.un .not r_7),o_ (.pick r_3 r_8 F_),v_ r_9,y_ 10 (.fieldAddr 2 l_1),y_ 10 (.load1 iD),y_ 10 (.mov l_3),y_ 10 (.call false false 86 [kX,nO]),y_ 10 (.un .not oM),o_ (.pick gF rR F_),w_ 2 rS]
.ret)))⟩
def a66:Ann:=⟨[0,1,2,3,4,6,14,15,16,50,51,52,53,73],[6,1],[(5,23)],[],[(1,⟨[0,0,2,6,15,31,63],[0,1,2,3,4,5,6],[]⟩),(5,⟨[0,0,0,0,8,24,56,0,128,504,0,1024,3072,7168,0,16384,65528,0,131072,393216,917504,0,2097152,8388600,16777209,33554425,67108857,134217723,268435451,536870907,1073741823,2147483647,4294967295],[0,1,2,3,4,5,6,7,8,10,11,12,13,14,15,17,18,19,20,21,22],[(9,[13,20],[]),(16,[20],[]),(23,[],[24,25]),(26,[],[27,28]),(29,[],[30,31]),(32,[],[])]⟩),(12,⟨[0,1,3,7,0,16,63,127,0,256,1023,2047,4095],[0,1,2,3,4,5,6,7,8,9,10,11],[(12,[],[])]⟩),(13,⟨[0,1,3,7,0,16,63,127,0,256,1023,2047,4095],[0,1,2,3,4,5,6,7,8,9,10,11],[(12,[],[])]⟩)]⟩
def t66L0:aL:=(.seq (g_ [s_ 12 (.bin .lss iQ kF)])
(.seq (.cond oN
.skip
(.exit 2))
(.seq (.block 3
(h_ [o_ (.indexAddrS 2 l_9 iQ),o_ (.loadN 2 r_0),o_ (.allocL 5 [(.int .i64 0),(.int .i64 0)]),o_ (.store 2 r_2 r_1)]
(h_ [o_ (.indexAddrA 2 1 l_5 (i_ 0)),d_ r_0,c_ 87 [r_1],v_ r_2,x_ 3 (.indexAddrA 2 1 l_5 (i_ 0)),x_ 3 (.load1 r_4),x_ 3 (.bin .geq r_5 (i_ 32)),o_ (.pick r_3 T_ r_6),v_ r_7,y_ 8 (.indexAddrA 2 1 l_5 (i_ 1)),y_ 8 (.load1 r_9),y_ 8 (.call true false 87 [gF]),y_ 8 (.mov iD),x_ 12 (.indexAddrA 2 1 l_5 (i_ 1)),x_ 12 (.load1 nO),x_ 12 (.bin .geq oM (i_ 32)),y_ 8 (.pick kX T_ rR),s_ 13 (.pick r_8 rS F_)]
(.cond pJ
(h_ [v_ l_3,o_ (.indexAddrA 2 1 l_5 (i_ 0)),d_ r_1,o_ (.indexAddrA 2 1 l_5 (i_ 1)),d_ r_3,o_ (.call false false 88 [r_0,r_2,r_4])]
(.seq (.draw [0,1,2,3,4,5,6,7,8,9,10,11] [(12,[],[])] [v_ l_3,o_ (.nilCheck r_0),f_ 4 r_1,d_ r_2,o_ (.indexAddrA 2 1 l_5 (i_ 0)),d_ r_4,o_ (.indexAddrS 1 r_3 r_5),d_ r_6,o_ (.indexAddrA 2 1 l_5 (i_ 1)),d_ r_8,o_ (.lookup (.leaf .int) (.int .i64 0) false r_7 r_9),o_ (.bin .add gF (i_ 1)),o_ (.update (.leaf .int) r_7 r_9 iD)])
(.draw [0,1,2,3,4,5,6,7,8,9,10,11] [(12,[],[])] [v_ l_3,o_ (.nilCheck r_0),f_ 4 r_1,d_ r_2,o_ (.indexAddrA 2 1 l_5 (i_ 1)),d_ r_4,o_ (.indexAddrS 1 r_3 r_5),d_ r_6,o_ (.indexAddrA 2 1 l_5 (i_ 0)),d_ r_8,o_ (.lookup (.leaf .int) (.int .i64 0) false r_7 r_9),o_ (.bin .add gF (i_ 1)),o_ (.update (.leaf .int) r_7 r_9 iD)])))
.skip))))
(g_ [o_ (.bin .add iQ (i_ 1)),w_ 11 r_0]))))
def t66L1:aL:=(.seq (g_ [s_ 8 (.bin .lss l_7 l_6)])
(.seq (.cond l_8
.skip
(.exit 0))
(.seq (.block 1
(h_ [v_ l_7,w_ 4 r_0]
(.draw [0,1,2,3,4,5,6,7,8,10,11,12,13,14,15,17,18,19,20,21,22] [(9,[13,20],[]),(16,[20],[]),(23,[],[24,25]),(26,[],[27,28]),(29,[],[30,31]),(32,[],[])] [v_ l_3,v_ l_3,v_ l_3,v_ l_3,o_ (.nilCheck r_3),f_ 3 r_4,d_ r_5,o_ (.mkMap),o_ (.lit false [.nilm] 1 [(0,r_7)]),o_ (.append false 1 8 81 r_6 r_8),v_ l_3,o_ (.nilCheck gF),f_ 4 iD,d_ kX,o_ (.mkMap),o_ (.lit false [.nilm] 1 [(0,oM)]),o_ (.append false 1 8 81 nO rR),v_ l_3,o_ (.nilCheck aAn),f_ 5 aGs,d_ aPo,v_ l_4,o_ (.lit false Z1_ 1 [(0,aPq)]),o_ (.append true 1 8 3 aPp aTo),o_ (.nilCheck r_0),f_ 3 bJk,o_ (.store 1 bPi r_9),o_ (.nilCheck r_1),f_ 4 bPj,o_ (.store 1 bPk rS),o_ (.nilCheck r_2),f_ 5 bTr,o_ (.store 1 bTs bBv)])))
(g_ [o_ (.bin .add l_7 (i_ 1)),w_ 7 r_0]))))
def t66:aU:=⟨1,14,[.loc 2],
(h_ [o_ (.boxL 1 l_0),s_ 2 (.mov (.cst .nilp))]
(.seq (.draw [0,1,2,3,4,5,6] [] [o_ (.loadN 3 l_1),f_ 0 l_1,d_ r_1,o_ (.mkSlice Z1_ 8 r_2 r_2),o_ (.build [(.int .i64 0),(.sl .nil []),(.sl .nil []),(.sl .nil []),(.sl .nil []),(.sl .nil []),(.sl .nil [])] [(0,3,r_0),(6,1,r_3)]),o_ (.boxH 106 r_4),w_ 3 r_5])
(.seq (.seq (g_ [f_ 0 l_1,s_ 6 (.load1 r_0),w_ 7 (i_ 0)])
(.block 0
(.loop t66L1)))
(.seq (.seq (g_ [f_ 1 l_1,s_ 9 (.load1 r_0),s_ 10 (.len .sl r_1),w_ 11 (i_ 0)])
(.block 2
(.loop t66L0)))
(h_ [v_ l_3,w_ 2 r_0]
.ret)))))⟩
def a67:Ann:=⟨[0,2,4,5,6,8,9,14,15,16,17,30,70],[4],[],[],[(6,⟨[0,0,2,7,0,0,32,127,255,511],[0,1,2,4,5,6],[(3,[6],[]),(7,[],[8,9])]⟩)]⟩
def t67L0:aL:=(.seq (g_ [s_ 10 (.bin .lss l_9 l_8)])
(.seq (.cond kF
.skip
(.exit 2))
(.seq (.block 3
(h_ [o_ (.indexAddrS 2 l_7 l_9),o_ (.loadN 2 r_0),o_ (.allocL 2 [(.int .i64 0),(.int .i64 0)]),o_ (.store 2 r_2 r_1)]
(.seq (.draw [0,1,2,4,5,6] [(3,[6],[]),(7,[],[8,9])] [v_ l_0,o_ (.indexAddrA 2 1 l_2 (i_ 0)),d_ r_1,o_ (.call false false 89 [r_0,r_2]),v_ l_0,o_ (.indexAddrA 2 1 l_2 (i_ 1)),d_ r_5,o_ (.call false false 89 [r_4,r_6]),w_ 3 r_3,w_ 4 r_7])
(.seq (.seq (g_ [v_ l_3,v_ l_4,s_ 11 (.bin .gtr r_0 r_1)])
(.cond iQ
(g_ [v_ l_4,v_ l_3,w_ 3 r_0,w_ 4 r_1])
.skip))
(h_ [v_ l_0,o_ (.nilCheck r_0),f_ 3 r_1,d_ r_2,v_ l_3,o_ (.indexAddrS 1 r_3 r_4),d_ r_5,v_ l_4,o_ (.lookup (.leaf .int) (.int .i64 0) true r_6 r_7),v_ r_8,o_ (.extract 0 r_9),o_ (.extract 1 r_9),v_ gF,w_ 5 iD]
(.seq (.seq (g_ [v_ l_3,v_ l_4,o_ (.bin .eql r_0 r_1),v_ r_2,x_ 3 (.mov l_4),x_ 3 (.bin .lss r_4 (i_ 32)),o_ (.pick r_3 T_ r_5),v_ r_6,x_ 7 (.mov l_3),x_ 7 (.bin .lss r_8 (i_ 32)),x_ 7 (.mov r_9),y_ 10 (.mov l_3),y_ 10 (.call true false 87 [iD]),y_ 10 (.un .not kX),x_ 7 (.pick gF nO F_),o_ (.pick r_7 T_ oM),v_ rR,x_ 16 (.mov l_5),o_ (.pick rS T_ aAn),v_ aGs,x_ 19 (.mov l_0),x_ 19 (.mov l_3),x_ 19 (.mov l_4),x_ 19 (.call false false 90 [aPp,aPq,aTo]),x_ 19 (.un .not bBv),s_ 12 (.pick aPo T_ bJk)])
(.cond oN
(.exit 3)
.skip))
(h_ [v_ l_0,v_ l_3,v_ l_4,o_ (.call false false 91 [r_0,r_1,r_2])]
(g_ [w_ 1 T_]))))))))
(g_ [o_ (.bin .add l_9 (i_ 1)),w_ 9 r_0]))))
def t67L1:aL:=(.seq (.seq (g_ [w_ 6 l_1])
(.cond l_6
.skip
(.exit 0)))
(.block 1
(h_ [w_ 1 F_]
(h_ [v_ l_0,o_ (.nilCheck r_0),f_ 0 r_1,f_ 2 r_2,s_ 7 (.load1 r_3),s_ 8 (.len .sl r_4),w_ 9 (i_ 0)]
(.block 2
(.loop t67L0))))))
def t67:aU:=⟨1,13,[],
(h_ [w_ 1 T_]
(.block 0
(.loop t67L1)))⟩
def a68:Ann:=⟨[0,1,4,5,6,13,20],[],[],[],[]⟩
def t68L0:aL:=(.seq (.seq (g_ [v_ l_4,v_ l_0,o_ (.nilCheck r_1),f_ 0 r_2,f_ 0 r_3,d_ r_4,s_ 5 (.bin .lss r_0 r_5)])
(.cond l_5
.skip
(.exit 0)))
(.seq (.block 1
(h_ [v_ l_0,v_ l_4,o_ (.call false false 89 [r_0,r_1]),v_ l_1,s_ 6 (.bin .eql r_2 r_3)]
(.cond l_6
(g_ [v_ l_3,v_ l_4,o_ (.lit false Z1_ 1 [(0,r_1)]),o_ (.append false 1 8 3 r_0 r_2),w_ 3 r_3])
.skip)))
(g_ [v_ l_4,o_ (.bin .add r_0 (i_ 1)),w_ 4 r_1])))
def t68:aU:=⟨2,7,[.loc 2],
(h_ [w_ 2 N_]
(h_ [w_ 3 N_]
(.seq (.seq (g_ [w_ 4 (i_ 32)])
(.block 0
(.loop t68L0)))
(h_ [v_ l_3,w_ 2 r_0]
.ret))))⟩
def a69:Ann:=⟨[0,1,2],[],[],[],[]⟩
def t69:aU:=⟨1,3,[.loc 2],
(h_ [s_ 1 (.boxH 27 l_0),s_ 2 (.mov (.cst .nilf))]
(h_ [o_ (.mkFn 92 [] [l_1]),w_ 2 r_0]
.ret))⟩
def a70:Ann:=⟨[0,2,3,4,5,6,7,8,9,10,29,40,58,63,92,94,101],[],[(9,3)],[],[(10,⟨[0,0,0,4,12,28,0,124,252,508,1023,2047],[0,1,2,3,4,5,6,7,8,9,10],[(11,[],[])]⟩)]⟩
def t70L0:aL:=(.seq (g_ [o_ (.nextM pK), s_ 15 (.extract 0 r_0)])
(.seq (.cond wZ
.skip
(.exit 4))
(.block 5
(h_ [o_ (.entryM pK),o_ (.extract 0 r_0),w_ 9 r_1]
(h_ [v_ l_3,v_ l_9,o_ (.indexAddrS 1 r_0 r_1),d_ r_2,s_ 16 (.un .not r_3)]
(.cond sE
(g_ [d_ l_4,v_ l_9,o_ (.indexAddrS 1 r_0 r_1),d_ r_2,o_ (.bin .sub r_3 (i_ 1)),o_ (.indexAddrS 1 r_0 r_1),o_ (.store 1 r_5 r_4)])
.skip))))))
def t70L1:aL:=(.seq (.seq (g_ [v_ l_5,o_ (.len .sl r_0),s_ 12 (.bin .gtr r_1 (i_ 0))])
(.cond oN
.skip
(.exit 2)))
(.block 3
(h_ [v_ l_5,o_ (.mkFn 93 [] [l_4]),o_ (.call false false 50 [r_0,r_1]),w_ 7 r_2]
(.seq (.seq (g_ [v_ l_7,s_ 13 (.bin .lss r_0 (i_ 0))])
(.cond pJ
(g_ [v_ l_5,v_ l_5,o_ (.mkFn 95 [] [l_4]),o_ (.call false false 94 [r_1,r_2]),c_ 74 [r_0,r_3],w_ 7 r_4])
.skip))
(h_ [v_ l_5,v_ l_7,o_ (.indexAddrS 1 r_0 r_1),d_ r_2,w_ 8 r_3]
(h_ [v_ l_5,v_ l_7,v_ l_7,o_ (.bin .add r_2 (i_ 1)),o_ (.call false false 97 [r_0,r_1,r_3]),w_ 5 r_4]
(h_ [v_ l_3,v_ l_8,o_ (.indexAddrS 1 r_0 r_1),o_ (.store 1 r_2 T_)]
(h_ [v_ l_2,v_ l_8,o_ (.lit false Z1_ 1 [(0,r_1)]),o_ (.append false 1 8 3 r_0 r_2),w_ 2 r_3]
(h_ [v_ l_0,o_ (.nilCheck r_0),f_ 3 r_1,d_ r_2,v_ l_8,o_ (.indexAddrS 1 r_3 r_4),d_ r_5,s_ 14 (.range false r_6)]
(.block 4
(.loop t70L0)))))))))))
def t70L2:aL:=(.seq (.seq (g_ [v_ l_6,v_ l_0,o_ (.nilCheck r_1),f_ 0 r_2,f_ 0 r_3,d_ r_4,s_ 10 (.bin .lss r_0 r_5)])
(.cond kF
.skip
(.exit 0)))
(.seq (.block 1
(h_ [v_ l_0,o_ (.nilCheck r_0),f_ 5 r_1,d_ r_2,v_ l_6,o_ (.indexAddrS 1 r_3 r_4),d_ r_5,v_ l_6,s_ 11 (.bin .eql r_6 r_7)]
(.cond iQ
(h_ [v_ l_5,v_ l_6,o_ (.lit false Z1_ 1 [(0,r_1)]),o_ (.append true 1 8 3 r_0 r_2),w_ 5 r_3]
(.draw [0,1,2,3,4,5,6,7,8,9,10] [(11,[],[])] [d_ l_4,v_ l_6,v_ l_0,o_ (.nilCheck r_2),f_ 3 r_3,d_ r_4,v_ l_6,o_ (.indexAddrS 1 r_5 r_6),d_ r_7,o_ (.len .mp r_8),o_ (.indexAddrS 1 r_0 r_1),o_ (.store 1 gF r_9)]))
.skip)))
(g_ [v_ l_6,o_ (.bin .add r_0 (i_ 1)),w_ 6 r_1])))
def t70:aU:=⟨1,17,[.loc 1],
(h_ [w_ 1 N_]
(h_ [w_ 2 N_]
(h_ [v_ l_0,o_ (.nilCheck r_0),f_ 0 r_1,f_ 0 r_2,d_ r_3,o_ (.mkSlice [(.bool false)] 1 r_4 r_4),w_ 3 r_5]
(h_ [v_ l_0,o_ (.nilCheck r_0),f_ 0 r_1,f_ 0 r_2,d_ r_3,o_ (.mkSlice Z1_ 8 r_4 r_4),s_ 4 (.allocH 27 [(.sl .nil [])]),o_ (.store 1 r_6 r_5)]
(h_ [w_ 5 N_]
(.seq (.seq (g_ [w_ 6 (i_ 32)])
(.block 0
(.loop t70L2)))
(.seq (.block 2
(.loop t70L1))
(h_ [v_ l_2,w_ 1 r_0]
.ret))))))))⟩
def a71:Ann:=⟨[0,1,4,6,10,11,12,13,17],[],[],[],[(5,⟨[0,1,3,7,0,0,0,64,224,511,1023],[0,1,2,3,4,5,6,7],[(8,[3],[9]),(10,[],[])]⟩)]⟩
def t71L0:aL:=(.seq (g_ [s_ 7 (.bin .lss l_6 l_5)])
(.seq (.cond l_7
.skip
(.exit 0))
(.seq (.block 1
(h_ [o_ (.indexAddrS 1 l_4 l_6),d_ r_0,w_ 3 r_1]
(h_ [v_ l_2,s_ 8 (.bin .eql r_0 (i_ (-1)))]
(.cond l_8
(.draw [0,1,2,3,4,5,6,7] [(8,[3],[9]),(10,[],[])] [v_ l_0,o_ (.nilCheck r_0),f_ 6 r_1,d_ r_2,v_ l_3,v_ l_0,v_ l_3,o_ (.lit false Z1_ 1 [(0,r_6)]),o_ (.call false false 98 [r_5,r_7]),o_ (.indexAddrS 1 r_3 r_4),o_ (.store 1 r_9 r_8)])
(g_ [v_ l_0,o_ (.nilCheck r_0),f_ 6 r_1,d_ r_2,v_ l_3,v_ l_2,o_ (.indexAddrS 1 r_3 r_4),o_ (.store 1 r_6 r_5)])))))
(g_ [o_ (.bin .add l_6 (i_ 1)),w_ 6 r_0]))))
def t71:aU:=⟨2,9,[],
(h_ [v_ l_0,v_ l_1,o_ (.call false false 98 [r_0,r_1]),w_ 2 r_2]
(h_ [w_ 4 l_1,s_ 5 (.len .sl r_0),w_ 6 (i_ 0)]
(.block 0
(.loop t71L0))))⟩
def a72:Ann:=⟨[0,2],[],[],[],[]⟩
def t72:aU:=⟨1,2,[.loc 1],
(h_ [w_ 1 F_]
(h_ [v_ l_0,o_ (.bin .geq r_0 (i_ 26)),v_ r_1,y_ 2 (.mov l_0),y_ 2 (.bin .leq r_3 (i_ 31)),o_ (.pick r_2 r_4 F_),w_ 1 r_5]
.ret))⟩
def a73:Ann:=⟨[0,2],[],[],[],[]⟩
def t73:aU:=⟨1,2,[.loc 1],
(h_ [w_ 1 N_]
(h_ [v_ l_0,o_ (.call false false 40 [r_0,(.fn 99)]),w_ 0 r_1]
(h_ [v_ l_0,o_ (.prim 46 [r_0])]
(h_ [v_ l_0,o_ (.call false false 100 [r_0]),w_ 1 r_1]
.ret))))⟩
def a74:Ann:=⟨[0,1,4,5,7,8,9,16],[],[],[],[]⟩
def t74L0:aL:=(.seq (g_ [s_ 6 (.bin .lss l_5 l_4)])
(.seq (.cond l_6
.skip
(.exit 0))
(.seq (.block 1
(h_ [v_ l_5,w_ 3 r_0]
(h_ [v_ l_1,v_ l_0,v_ l_3,o_ (.indexAddrS 1 r_1 r_2),d_ r_3,s_ 7 (.bin .eql r_0 r_4)]
(.cond l_7
(h_ [v_ l_3,w_ 2 r_0]
.ret)
.skip))))
(g_ [o_ (.bin .add l_5 (i_ 1)),w_ 5 r_0]))))
def t74:aU:=⟨2,8,[.loc 2],
(h_ [w_ 2 (i_ 0)]
(.seq (.seq (g_ [v_ l_0,s_ 4 (.len .sl r_0),w_ 5 (i_ 0)])
(.block 0
(.loop t74L0)))
(h_ [s_ 2 (.mov (i_ (-1)))]
.ret)))⟩
def a77:Ann:=⟨[0,1,4,6,16],[],[],[],[]⟩
def t77:aU:=⟨2,5,[.loc 2],
(h_ [w_ 2 N_]
(.seq (.seq (g_ [v_ l_1,s_ 3 (.bin .lss r_0 (i_ 0))])
(.cond l_3
(g_ [o_ (.bad),o_ (.bad)])
.skip))
(.seq (.seq (g_ [v_ l_1,v_ l_0,o_ (.cap r_1),v_ l_0,o_ (.len .sl r_3),o_ (.bin .sub r_2 r_4),o_ (.bin .sub r_0 r_5),w_ 1 r_6])
(h_ [v_ l_1,s_ 4 (.bin .gtr r_0 (i_ 0))]
(.cond l_4
(g_ [v_ l_0,v_ l_0,o_ (.cap r_1),o_ (.slice (.sl 1) r_0 none (some r_2) none),v_ l_1,o_ (.grow 1 8 3 r_3 r_4),v_ l_0,o_ (.len .sl r_6),o_ (.slice (.sl 1) r_5 none (some r_7) none),w_ 0 r_8])
.skip)))
(h_ [v_ l_0,w_ 2 r_0]
.ret))))⟩
def a78:Ann:=⟨[0,1,2,4,12],[1],[],[],[]⟩
def t78:aU:=⟨1,5,[.loc 2],
(h_ [o_ (.boxL 1 l_0),w_ 2 F_]
(.seq (.seq (g_ [f_ 0 l_1,d_ r_0,o_ (.bin .lss r_1 (i_ 1)),v_ r_2,x_ 3 (.fieldAddr 0 l_1),x_ 3 (.load1 r_4),x_ 3 (.bin .gtr r_5 (i_ 25)),s_ 4 (.pick r_3 T_ r_6)])
(.cond l_4
(h_ [w_ 2 F_]
.ret)
.skip))
(h_ [f_ 0 l_1,d_ r_0,f_ 4 l_1,d_ r_2,o_ (.build [(.int .i64 0),(.int .i64 0),(.int .i64 0),(.int .i64 0),(.int .i64 0)] [(0,1,r_1),(4,1,r_3)]),c_ 112 [r_4],v_ r_5,o_ (.extract 0 r_6),o_ (.extract 1 r_6),v_ r_7,w_ 3 r_8]
(h_ [v_ l_3,o_ (.bin .eql r_0 (i_ 0)),w_ 2 r_1]
.ret))))⟩
def a79:Ann:=⟨[0,1,2,3,4],[],[],[],[]⟩
def t79:aU:=⟨2,5,[.loc 4],
(h_ [s_ 2 (.boxH 58 l_0),s_ 3 (.boxH 4 l_1),s_ 4 (.mov (.cst .nilf))]
(h_ [o_ (.mkFn 113 [] [l_2,l_3]),w_ 4 r_0]
.ret))⟩
def a80:Ann:=⟨[0,1,4,5,10,12,13,14,24],[],[],[],[(6,⟨[0,0,3,7,0,0,48,112,255],[0,1,2,3,4,5,6,7,8],[]⟩)]⟩
def t80L0:aL:=(.seq (g_ [s_ 7 (.bin .lss l_6 l_5)])
(.seq (.cond l_7
.skip
(.exit 0))
(.seq (.block 1
(h_ [v_ l_6,w_ 3 r_0]
(.seq (.draw [0,1,2,3,4,5,6,7,8] [] [v_ l_0,v_ l_3,o_ (.indexAddrS 1 r_0 r_1),d_ r_2,v_ l_1,v_ l_3,o_ (.indexAddrS 1 r_4 r_5),d_ r_6,s_ 8 (.bin .neq r_3 r_7)])
(.cond l_8
(h_ [w_ 2 F_]
.ret)
.skip))))
(g_ [o_ (.bin .add l_6 (i_ 1)),w_ 6 r_0]))))
def t80:aU:=⟨2,9,[.loc 2],
(h_ [w_ 2 F_]
(.seq (.seq (g_ [v_ l_0,o_ (.len .sl r_0),v_ l_1,o_ (.len .sl r_2),s_ 4 (.bin .neq r_1 r_3)])
(.cond l_4
(h_ [w_ 2 F_]
.ret)
.skip))
(.seq (.seq (g_ [v_ l_0,s_ 5 (.len .sl r_0),w_ 6 (i_ 0)])
(.block 0
(.loop t80L0)))
(h_ [w_ 2 T_]
.ret))))⟩
def a81:Ann:=⟨[0,2,4],[],[],[],[]⟩
def t81:aU:=⟨1,3,[.loc 1],
(h_ [w_ 1 (i_ 0)]
(.seq (.seq (g_ [v_ l_0,s_ 2 (.bin .eql r_0 (.cst (.int .u64 0)))])
(.cond l_2
(h_ [w_ 1 (i_ 64)]
.ret)
.skip))
(h_ [v_ l_0,v_ l_0,o_ (.un .neg r_1),o_ (.bin .and r_0 r_2),o_ (.bin .mul r_3 (.cst (.int .u64 285870213051353865))),o_ (.bin .shr r_4 (.cst (.int .u64 58))),o_ (.indexAddrA 64 1 (.glob 0) r_5),d_ r_6,o_ (.conv (.toInt .i64) r_7),w_ 1 r_8]
.ret)))⟩
def a82:Ann:=⟨[0,1,4,5],[],[],[],[]⟩
def t82:aU:=⟨2,4,[.loc 2],
(h_ [w_ 2 N_]
(h_ [v_ l_0,o_ (.call false false 114 [r_0]),w_ 3 r_1]
(h_ [v_ l_3,v_ l_1,o_ (.prim 115 [r_0,r_1])]
(h_ [v_ l_3,w_ 2 r_0]
.ret))))⟩
def a83:Ann:=⟨[0,1,2],[],[],[],[]⟩
def t83:aU:=⟨1,3,[.loc 2],
(h_ [s_ 1 (.boxH 97 l_0),s_ 2 (.mov (.cst .nilf))]
(h_ [o_ (.mkFn 116 [] [l_1]),w_ 2 r_0]
.ret))⟩
def a84:Ann:=⟨[0,1,2,3,4],[3,2],[],[],[(1,⟨[0,1,0,4,15,0,32,0,128,511,1023,2047,4095],[0,1,2,3,5,6,7,8],[(4,[6,8],[]),(9,[],[10]),(11,[],[12])]⟩)]⟩
def t84:aU:=⟨2,5,[.loc 4],
(h_ [o_ (.boxL 2 l_0),o_ (.boxL 3 l_1),w_ 4 (i_ 0)]
(.seq (.draw [0,1,2,3,5,6,7,8] [(4,[6,8],[]),(9,[],[10]),(11,[],[12])] [o_ (.indexAddrA 2 1 l_2 (i_ 0)),d_ r_0,o_ (.indexAddrA 2 1 l_3 (i_ 0)),d_ r_2,c_ 96 [r_1,r_3],o_ (.indexAddrA 2 1 l_2 (i_ 1)),d_ r_5,o_ (.indexAddrA 2 1 l_3 (i_ 1)),d_ r_7,c_ 96 [r_6,r_8],o_ (.lit false Z1_ 2 [(0,r_4),(1,r_9)]),c_ 117 [gF],w_ 4 iD])
.ret))⟩
def a85:Ann:=⟨[0,1,2,3],[2],[],[],[]⟩
def t85:aU:=⟨2,4,[.loc 3],
(h_ [o_ (.boxL 2 l_0),w_ 3 F_]
(h_ [o_ (.indexAddrA 2 1 l_2 (i_ 0)),d_ r_0,o_ (.bin .lss r_1 (i_ 1)),v_ r_2,x_ 3 (.indexAddrA 2 1 l_2 (i_ 1)),x_ 3 (.load1 r_4),x_ 3 (.bin .lss r_5 (i_ 1)),o_ (.pick r_3 T_ r_6),v_ r_7,x_ 8 (.indexAddrA 2 1 l_2 (i_ 0)),x_ 8 (.load1 r_9),x_ 8 (.fieldAddr 0 l_1),x_ 8 (.load1 iD),x_ 8 (.bin .geq gF kX),o_ (.pick r_8 T_ nO),v_ oM,x_ 15 (.indexAddrA 2 1 l_2 (i_ 1)),x_ 15 (.load1 rS),x_ 15 (.fieldAddr 0 l_1),x_ 15 (.load1 aGs),x_ 15 (.bin .geq aAn aPo),o_ (.pick rR T_ aPp),v_ aPq,x_ 22 (.indexAddrA 2 1 l_2 (i_ 0)),x_ 22 (.load1 bBv),x_ 22 (.indexAddrA 2 1 l_2 (i_ 1)),x_ 22 (.load1 bPi),x_ 22 (.bin .eql bJk bTq),o_ (.pick aTo T_ bPj),w_ 3 bPk]
.ret))⟩
def a86:Ann:=⟨[0,1,4],[],[],[],[]⟩
def t86:aU:=⟨2,3,[.loc 2],
(h_ [w_ 2 F_]
(h_ [v_ l_0,v_ l_1,o_ (.call false false 118 [r_0,r_1]),o_ (.bin .geq r_2 (i_ 0)),w_ 2 r_3]
.ret))⟩
def a87:Ann:=⟨[0,2],[],[],[],[]⟩
def t87:aU:=⟨1,2,[.loc 1],
(h_ [w_ 1 F_]
(h_ [v_ l_0,o_ (.bin .geq r_0 (i_ 1)),v_ r_1,y_ 2 (.mov l_0),y_ 2 (.bin .leq r_3 (i_ 24)),o_ (.pick r_2 r_4 F_),w_ 1 r_5]
.ret))⟩
def a88:Ann:=⟨[0,1,2],[],[],[],[]⟩
def t88:aU:=⟨3,3,[],
(h_ [v_ l_0,o_ (.nilCheck r_0),f_ 3 r_1,d_ r_2,v_ l_1,o_ (.indexAddrS 1 r_3 r_4),d_ r_5,v_ l_2,o_ (.lookup (.leaf .int) (.int .i64 0) false r_6 r_7),o_ (.bin .add r_8 (i_ 1)),o_ (.update (.leaf .int) r_6 r_7 r_9)]
(g_ [v_ l_0,o_ (.nilCheck r_0),f_ 3 r_1,d_ r_2,v_ l_2,o_ (.indexAddrS 1 r_3 r_4),d_ r_5,v_ l_1,o_ (.lookup (.leaf .int) (.int .i64 0) false r_6 r_7),o_ (.bin .add r_8 (i_ 1)),o_ (.update (.leaf .int) r_6 r_7 r_9)]))⟩
def a89:Ann:=⟨[0,1,4,13],[],[],[],[]⟩
def t89L0:aL:=(.seq (.seq (g_ [v_ l_0,o_ (.nilCheck r_0),f_ 5 r_1,d_ r_2,v_ l_1,o_ (.indexAddrS 1 r_3 r_4),d_ r_5,v_ l_1,s_ 3 (.bin .neq r_6 r_7)])
(.cond l_3
.skip
(.exit 0)))
(.block 1
(g_ [v_ l_0,o_ (.nilCheck r_0),f_ 5 r_1,d_ r_2,v_ l_1,o_ (.indexAddrS 1 r_3 r_4),d_ r_5,w_ 1 r_6])))
def t89:aU:=⟨2,4,[.loc 2],
(h_ [w_ 2 (i_ 0)]
(.seq (.block 0
(.loop t89L0))
(h_ [v_ l_1,w_ 2 r_0]
.ret)))⟩
def a90:Ann:=⟨[0,1,2,6,7,9,10,11,12,14,16,24,26,47,55,57,62,72,74,95],[],[],[],[]⟩
def t90L0:aL:=(.seq (g_ [o_ (.nextM aLs),s_ 18 (.extract 0 r_0)])
(.seq (.cond aCb
.skip
(.exit 4))
(.block 5
(h_ [o_ (.entryM aLs),o_ (.extract 0 r_0),w_ 8 r_1]
(h_ [v_ l_0,o_ (.nilCheck r_0),f_ 3 r_1,d_ r_2,v_ l_1,o_ (.indexAddrS 1 r_3 r_4),d_ r_5,v_ l_8,o_ (.lookup (.leaf .int) (.int .i64 0) true r_6 r_7),v_ r_8,o_ (.extract 0 r_9),o_ (.extract 1 r_9),v_ gF,w_ 9 iD]
(h_ [v_ l_9,o_ (.un .not r_0),v_ r_1,y_ 2 (.mov l_0),y_ 2 (.mov l_8),y_ 2 (.call false false 119 [r_3,r_4]),s_ 19 (.pick r_2 r_5 F_)]
(.cond bJl
(g_ [v_ l_6,o_ (.bin .add r_0 (i_ 1)),w_ 6 r_1])
.skip)))))))
def t90L1:aL:=(.seq (g_ [o_ (.nextM pK),s_ 15 (.extract 0 r_0)])
(.seq (.cond wZ
.skip
(.exit 2))
(.block 3
(h_ [o_ (.entryM pK),o_ (.extract 0 r_0),w_ 7 r_1]
(h_ [v_ l_0,v_ l_7,s_ 16 (.call false false 119 [r_0,r_1])]
(.cond sE
(g_ [v_ l_6,o_ (.bin .add r_0 (i_ 1)),w_ 6 r_1])
.skip))))))
def t90L2:aL:=(.seq (g_ [o_ (.nextM iQ),s_ 12 (.extract 0 r_0)])
(.seq (.cond oN
.skip
(.exit 0))
(.block 1
(h_ [o_ (.entryM iQ),o_ (.extract 0 r_0),w_ 4 r_1]
(h_ [v_ l_0,o_ (.nilCheck r_0),f_ 3 r_1,d_ r_2,v_ l_1,o_ (.indexAddrS 1 r_3 r_4),d_ r_5,v_ l_4,o_ (.lookup (.leaf .int) (.int .i64 0) true r_6 r_7),v_ r_8,o_ (.extract 0 r_9),o_ (.extract 1 r_9),v_ gF,w_ 5 iD]
(h_ [v_ l_5,o_ (.un .not r_0),v_ r_1,y_ 2 (.mov l_0),y_ 2 (.mov l_4),y_ 2 (.call false false 119 [r_3,r_4]),s_ 13 (.pick r_2 r_5 F_)]
(.cond pJ
(h_ [w_ 3 F_]
.ret)
.skip)))))))
def t90:aU:=⟨3,20,[.loc 3],
(h_ [w_ 3 F_]
(.seq (.seq (g_ [v_ l_1,s_ 10 (.bin .lss r_0 (i_ 32))])
(.cond kF
(.seq (.seq (g_ [v_ l_0,o_ (.nilCheck r_0),f_ 3 r_1,d_ r_2,v_ l_2,o_ (.indexAddrS 1 r_3 r_4),d_ r_5,s_ 11 (.range false r_6)])
(.block 0
(.loop t90L2)))
(h_ [w_ 3 T_]
.ret))
.skip))
(h_ [w_ 6 (i_ 0)]
(.seq (.seq (g_ [v_ l_0,o_ (.nilCheck r_0),f_ 3 r_1,d_ r_2,v_ l_1,o_ (.indexAddrS 1 r_3 r_4),d_ r_5,s_ 14 (.range false r_6)])
(.block 2
(.loop t90L1)))
(.seq (.seq (g_ [v_ l_0,o_ (.nilCheck r_0),f_ 3 r_1,d_ r_2,v_ l_2,o_ (.indexAddrS 1 r_3 r_4),d_ r_5,s_ 17 (.range false r_6)])
(.block 4
(.loop t90L0)))
(h_ [v_ l_6,o_ (.bin .lss r_0 (i_ 24)),w_ 3 r_1]
.ret))))))⟩
def a91:Ann:=⟨[0,1,2,6,21,23],[],[],[],[]⟩
def t91L0:aL:=(.seq (g_ [o_ (.nextM l_4),s_ 5 (.extract 0 r_0)])
(.seq (.cond l_5
.skip
(.exit 0))
(.block 1
(h_ [o_ (.entryM l_4),o_ (.extract 0 r_0),w_ 3 r_1]
(h_ [v_ l_0,o_ (.nilCheck r_0),f_ 3 r_1,d_ r_2,v_ l_3,o_ (.indexAddrS 1 r_3 r_4),d_ r_5,v_ l_2,o_ (.delete (.leaf .int) r_6 r_7)]
(g_ [v_ l_0,v_ l_1,v_ l_3,o_ (.call false false 88 [r_0,r_1,r_2])]))))))
def t91:aU:=⟨3,6,[],
(h_ [v_ l_0,o_ (.nilCheck r_0),f_ 5 r_1,d_ r_2,v_ l_2,v_ l_1,o_ (.indexAddrS 1 r_3 r_4),o_ (.store 1 r_6 r_5)]
(.seq (.seq (g_ [v_ l_0,o_ (.nilCheck r_0),f_ 3 r_1,d_ r_2,v_ l_2,o_ (.indexAddrS 1 r_3 r_4),d_ r_5,s_ 4 (.range false r_6)])
(.block 0
(.loop t91L0)))
(g_ [v_ l_0,o_ (.nilCheck r_0),f_ 3 r_1,d_ r_2,v_ l_2,o_ (.mkMap),o_ (.indexAddrS 1 r_3 r_4),o_ (.store 1 r_6 r_5)])))⟩
def a92:Ann:=⟨[0,1,3,8,18],[],[],[],[]⟩
def t92L0:aL:=(.seq (.seq (g_ [v_ l_2,s_ 3 (.bin .geq r_0 (i_ 0))])
(.cond l_3
.skip
(.exit 0)))
(.seq (.block 1
(h_ [v_ l_0,v_ l_2,d_ l_1,v_ l_2,o_ (.indexAddrS 1 r_2 r_3),d_ r_4,o_ (.callv r_0 [r_1,r_5]),s_ 4 (.un .not r_6)]
(.cond l_4
.ret
.skip)))
(g_ [v_ l_2,o_ (.bin .sub r_0 (i_ 1)),w_ 2 r_1])))
def t92:aU:=⟨2,5,[],
(h_ [d_ l_1,o_ (.len .sl r_0),o_ (.bin .sub r_1 (i_ 1)),w_ 2 r_2]
(.block 0
(.loop t92L0)))⟩
def a93:Ann:=⟨[0,1,3],[],[],[],[]⟩
def t93:aU:=⟨2,3,[.loc 2],
(h_ [w_ 2 F_]
(h_ [d_ l_1,v_ l_0,o_ (.indexAddrS 1 r_0 r_1),d_ r_2,o_ (.bin .lss r_3 (i_ 24)),w_ 2 r_4]
.ret))⟩
def a94:Ann:=⟨[0,1,4,5,6,9,17,27],[],[],[],[]⟩
def t94L0:aL:=(.seq (.seq (g_ [v_ l_4,v_ l_0,o_ (.len .sl r_1),s_ 6 (.bin .lss r_0 r_2)])
(.cond l_6
.skip
(.exit 0)))
(.seq (.block 1
(h_ [v_ l_1,v_ l_0,v_ l_4,o_ (.indexAddrS 1 r_1 r_2),d_ r_3,v_ l_3,o_ (.callv r_0 [r_4,r_5]),s_ 7 (.bin .gtr r_6 (i_ 0))]
(.cond l_7
(g_ [v_ l_0,v_ l_4,o_ (.indexAddrS 1 r_0 r_1),d_ r_2,w_ 3 r_3])
.skip)))
(g_ [v_ l_4,o_ (.bin .add r_0 (i_ 1)),w_ 4 r_1])))
def t94:aU:=⟨2,8,[.loc 2],
(h_ [w_ 2 (i_ 0)]
(.seq (.seq (g_ [v_ l_0,o_ (.len .sl r_0),s_ 5 (.bin .lss r_1 (i_ 1))])
(.cond l_5
(g_ [o_ (.bad),o_ (.bad)])
.skip))
(h_ [v_ l_0,o_ (.indexAddrS 1 r_0 (i_ 0)),d_ r_1,w_ 3 r_2]
(.seq (.seq (g_ [w_ 4 (i_ 1)])
(.block 0
(.loop t94L0)))
(h_ [v_ l_3,w_ 2 r_0]
.ret)))))⟩
def a95:Ann:=⟨[0,1,2,5],[],[],[],[(1,⟨[0,0,3,7,0,0,48,112,255,511],[0,1,2,3,4,5,6,7],[(8,[],[9])]⟩)]⟩
def t95:aU:=⟨3,4,[.loc 3],
(h_ [w_ 3 (i_ 0)]
(.seq (.draw [0,1,2,3,4,5,6,7] [(8,[],[9])] [d_ l_2,v_ l_0,o_ (.indexAddrS 1 r_0 r_1),d_ r_2,d_ l_2,v_ l_1,o_ (.indexAddrS 1 r_4 r_5),d_ r_6,c_ 96 [r_3,r_7],w_ 3 r_8])
.ret))⟩
def a96:Ann:=⟨[0,1,4,5,6,11,12,13,16,19],[],[],[],[]⟩
def t96:aU:=⟨2,10,[.loc 2],
(h_ [w_ 2 (i_ 0)]
(h_ [v_ l_0,c_ 120 [r_0],w_ 3 r_1]
(h_ [v_ l_1,c_ 120 [r_0],w_ 4 r_1]
(.seq (.seq (g_ [w_ 5 l_3])
(.cond l_5
(.seq (.seq (g_ [w_ 6 l_4])
(.cond l_6
(h_ [w_ 2 (i_ 0)]
.ret)
.skip))
(h_ [s_ 2 (.mov (i_ (-1)))]
.ret))
.skip))
(.seq (.seq (g_ [w_ 7 l_4])
(.cond l_7
(h_ [w_ 2 (i_ 1)]
.ret)
.skip))
(.seq (.seq (g_ [v_ l_0,v_ l_1,s_ 8 (.bin .lss r_0 r_1)])
(.cond l_8
(h_ [s_ 2 (.mov (i_ (-1)))]
.ret)
.skip))
(.seq (.seq (g_ [v_ l_0,v_ l_1,s_ 9 (.bin .gtr r_0 r_1)])
(.cond l_9
(h_ [w_ 2 (i_ 1)]
.ret)
.skip))
(h_ [w_ 2 (i_ 0)]
.ret))))))))⟩
def a97:Ann:=⟨[0,1,2,6,7,16],[],[],[],[(5,⟨[0,0,3,0,0,24,63,127],[0,1,2,3,4,5],[(6,[],[7])]⟩)]⟩
def t97:aU:=⟨3,6,[.loc 3],
(h_ [w_ 3 N_]
(h_ [v_ l_0,v_ l_1,v_ l_2,v_ l_0,o_ (.len .sl r_3),o_ (.slice (.sl 1) r_0 (some r_1) (some r_2) (some r_4))]
(.seq (.seq (g_ [v_ l_1,v_ l_2,s_ 5 (.bin .eql r_0 r_1)])
(.cond l_5
(h_ [v_ l_0,w_ 3 r_0]
.ret)
.skip))
(h_ [v_ l_0,o_ (.len .sl r_0),w_ 4 r_1]
(.seq (.draw [0,1,2,3,4,5] [(6,[],[7])] [v_ l_0,v_ l_1,o_ (.slice (.sl 1) r_0 none (some r_1) none),v_ l_0,v_ l_2,o_ (.slice (.sl 1) r_3 (some r_4) none none),o_ (.append false 1 8 3 r_2 r_5),w_ 0 r_6])
(h_ [v_ l_0,v_ l_0,o_ (.len .sl r_1),v_ l_4,o_ (.slice (.sl 1) r_0 (some r_2) (some r_3) none),o_ (.clear Z1_ r_4)]
(h_ [v_ l_0,w_ 3 r_0]
.ret)))))))⟩
def a98:Ann:=⟨[0,1,4,5,7,8,9,10,11,12,13,23,25,35,46,52],[5],[],[],[]⟩
def t98L0:aL:=(.seq (.seq (g_ [v_ l_6,s_ 14 (.bin .leq r_0 (i_ 24))])
(.cond pK
.skip
(.exit 4)))
(.seq (.block 5
(h_ [v_ l_6,o_ (.indexAddrA 25 1 l_3 r_0),d_ r_1,s_ 15 (.un .not r_2)]
(.cond wZ
(h_ [v_ l_6,w_ 2 r_0]
.ret)
.skip)))
(g_ [v_ l_6,o_ (.bin .add r_0 (i_ 1)),w_ 6 r_1])))
def t98L1:aL:=(.seq (g_ [o_ (.nextM iQ), s_ 12 (.extract 0 r_0)])
(.seq (.cond oN
.skip
(.exit 2))
(.block 3
(h_ [o_ (.entryM iQ),o_ (.extract 0 r_0),w_ 5 r_1]
(h_ [v_ l_0,o_ (.nilCheck r_0),f_ 6 r_1,d_ r_2,v_ l_5,o_ (.indexAddrS 1 r_3 r_4),d_ r_5,s_ 13 (.call true false 87 [r_6])]
(.cond pJ
(g_ [v_ l_0,o_ (.nilCheck r_0),f_ 6 r_1,d_ r_2,v_ l_5,o_ (.indexAddrS 1 r_3 r_4),d_ r_5,o_ (.indexAddrA 25 1 l_3 r_6),o_ (.store 1 r_7 T_)])
.skip))))))
def t98L2:aL:=(.seq (g_ [s_ 10 (.bin .lss l_9 l_8)])
(.seq (.cond kF
.skip
(.exit 0))
(.seq (.block 1
(h_ [o_ (.indexAddrS 1 l_7 l_9),d_ r_0,w_ 4 r_1]
(h_ [v_ l_0,o_ (.nilCheck r_0),f_ 4 r_1,d_ r_2,v_ l_4,o_ (.indexAddrS 1 r_3 r_4),d_ r_5,s_ 11 (.range false r_6)]
(.block 2
(.loop t98L1)))))
(g_ [o_ (.bin .add l_9 (i_ 1)),w_ 9 r_0]))))
def t98:aU:=⟨2,16,[.loc 2],
(h_ [w_ 2 (i_ 0)]
(h_ [o_ (.allocL 3 [(.bool false),(.bool false),(.bool false),(.bool false),(.bool false),(.bool false),(.bool false),(.bool false),(.bool false),(.bool false),(.bool false),(.bool false),(.bool false),(.bool false),(.bool false),(.bool false),(.bool false),(.bool false),(.bool false),(.bool false),(.bool false),(.bool false),(.bool false),(.bool false),(.bool false)])]
(.seq (.seq (g_ [w_ 7 l_1,s_ 8 (.len .sl r_0),w_ 9 (i_ 0)])
(.block 0
(.loop t98L2)))
(.seq (.seq (g_ [w_ 6 (i_ 1)])
(.block 4
(.loop t98L0)))
(h_ [s_ 2 (.mov (i_ (-1)))]
.ret)))))⟩
def a99:Ann:=⟨[0,2],[],[],[],[]⟩
def t99:aU:=⟨1,2,[.loc 1],
(h_ [w_ 1 F_]
(h_ [v_ l_0,o_ (.bin .leq r_0 (i_ 0)),w_ 1 r_1]
.ret))⟩
def a100:Ann:=⟨[0,2,3,4,5,8,13,25,32,44],[],[],[],[(6,⟨[0,0,3,7,0,0,32,112,240,511],[0,1,2,3,4,5,6,7,8,9],[]⟩),(11,⟨[0,0,3,7,0,0,32,112,240,511],[0,1,2,3,4,5,6,7,8,9],[]⟩)]⟩
def t100L0:aL:=(.seq (.seq (g_ [v_ l_4, v_ l_3, o_ (.len .sl r_1), s_ 8 (.bin .lss r_0 r_2)])
(.cond l_8
.skip
(.exit 2)))
(.seq (.block 3
(.seq (.draw [0,1,2,3,4,5,6,7,8,9] [] [v_ l_3,v_ l_4,o_ (.indexAddrS 1 r_0 r_1),d_ r_2,v_ l_3,v_ l_4,o_ (.bin .sub r_5 (i_ 1)),o_ (.indexAddrS 1 r_4 r_6),d_ r_7,s_ 9 (.bin .neq r_3 r_8)])
(.cond l_9
(h_ [v_ l_0,v_ l_2,v_ l_3,v_ l_4,o_ (.indexAddrS 1 r_2 r_3),d_ r_4,o_ (.indexAddrS 1 r_0 r_1),o_ (.store 1 r_6 r_5)]
(g_ [v_ l_2,o_ (.bin .add r_0 (i_ 1)),w_ 2 r_1]))
.skip)))
(g_ [v_ l_4,o_ (.bin .add r_0 (i_ 1)),w_ 4 r_1])))
def t100L1:aL:=(.seq (.seq (g_ [v_ l_2,v_ l_0,o_ (.len .sl r_1),s_ 6 (.bin .lss r_0 r_2)])
(.cond l_6
.skip
(.exit 0)))
(.seq (.block 1
(.seq (.draw [0,1,2,3,4,5,6,7,8,9] [] [v_ l_0,v_ l_2,o_ (.indexAddrS 1 r_0 r_1),d_ r_2,v_ l_0,v_ l_2,o_ (.bin .sub r_5 (i_ 1)),o_ (.indexAddrS 1 r_4 r_6),d_ r_7,s_ 7 (.bin .eql r_3 r_8)])
(.cond l_7
(h_ [v_ l_0,v_ l_2,o_ (.slice (.sl 1) r_0 (some r_1) none none),w_ 3 r_2]
(.seq (.seq (g_ [w_ 4 (i_ 1)])
(.block 2
(.loop t100L0)))
(h_ [v_ l_0,v_ l_2,o_ (.slice (.sl 1) r_0 (some r_1) none none),o_ (.clear Z1_ r_2)]
(h_ [v_ l_0,v_ l_2,o_ (.slice (.sl 1) r_0 none (some r_1) none),w_ 1 r_2]
.ret))))
.skip)))
(g_ [v_ l_2,o_ (.bin .add r_0 (i_ 1)),w_ 2 r_1])))
def t100:aU:=⟨1,10,[.loc 1],
(h_ [w_ 1 N_]
(.seq (.seq (g_ [v_ l_0,o_ (.len .sl r_0),s_ 5 (.bin .lss r_1 (i_ 2))])
(.cond l_5
(h_ [v_ l_0,w_ 1 r_0]
.ret)
.skip))
(.seq (.seq (g_ [w_ 2 (i_ 1)])
(.block 0
(.loop t100L1)))
(h_ [v_ l_0,w_ 1 r_0]
.ret))))⟩
def a112:Ann:=⟨[0,1,2,3,4,5,6,7,8,9,10,12,16,43,44,45,46,50],[12,1],[],[],[(13,⟨[0,0,2,6,0,16,48,126,255,511,1023],[0,1,2,3,4,5,6,7,8,9,10],[]⟩)]⟩
def t112L0:aL:=(.seq (g_ [s_ 16 (.bin .lss wZ pK)])
(.seq (.cond sE
.skip
(.exit 0))
(.seq (.block 1
(h_ [o_ (.indexAddrS 2 pJ wZ),o_ (.loadN 2 r_0),o_ (.allocL 11 [(.bool false),(.int .i64 0)]),o_ (.store 2 r_2 r_1)]
(h_ [f_ 0 iQ,s_ 17 (.load1 r_0)]
(.cond aLs
(h_ [v_ l_9,f_ 1 iQ,d_ r_1,o_ (.conv (.toInt .u32) r_2),v_ kF,o_ (.bin .shl r_3 r_4),o_ (.bin .or r_0 r_5),w_ 9 r_6]
(g_ [v_ kF,o_ (.bin .sub r_0 (i_ 5)),w_ 10 r_1]))
.skip))))
(g_ [o_ (.bin .add wZ (i_ 1)),w_ 15 r_0]))))
def t112:aU:=⟨1,18,[.loc 2,.loc 3],
(h_ [o_ (.boxL 1 l_0),s_ 2 (.mov (.cst (.int .u32 0))),w_ 3 (i_ 0)]
(.seq (.seq (g_ [o_ (.loadN 5 l_1),c_ 126 [r_0],w_ 4 r_1])
(h_ [v_ l_4,s_ 12 (.bin .neq r_0 (i_ 0))]
(.cond oN
(h_ [v_ l_4,s_ 2 (.mov (.cst (.int .u32 0))),w_ 3 r_0]
.ret)
.skip)))
(h_ [f_ 0 l_1,d_ r_0,c_ 128 [r_1],c_ 127 [r_2],v_ r_3,o_ (.extract 0 r_4),o_ (.extract 1 r_4),o_ (.extract 2 r_4),o_ (.extract 3 r_4),w_ 5 r_5,w_ 6 r_6,w_ 7 r_7,w_ 8 r_8]
(h_ [f_ 0 l_1,d_ r_0,o_ (.conv (.toInt .u32) r_1),o_ (.bin .shl r_2 (.cst (.int .u64 26))),w_ 9 r_3,w_ 10 (i_ 21)]
(.seq (.seq (g_ [v_ l_5,f_ 1 l_1,d_ r_1,o_ (.build [(.bool false),(.int .i64 0)] [(0,1,r_0),(1,1,r_2)]),v_ l_6,f_ 2 l_1,d_ r_5,o_ (.build [(.bool false),(.int .i64 0)] [(0,1,r_4),(1,1,r_6)]),v_ l_7,f_ 3 l_1,d_ r_9,o_ (.build [(.bool false),(.int .i64 0)] [(0,1,r_8),(1,1,gF)]),s_ 13 (.lit false [(.bool false),(.int .i64 0)] 3 [(0,r_3),(1,r_7),(2,iD)]),s_ 14 (.len .sl kX),w_ 15 (i_ 0)])
(.block 0
(.loop t112L0)))
(.seq (.draw [0,1,2,3,4,5,6,7,8,9,10] [] [v_ l_9,f_ 4 l_1,d_ r_1,o_ (.conv (.toInt .u32) r_2),v_ l_8,o_ (.bin .shl (.cst (.int .u32 1)) r_4),o_ (.bin .sub r_5 (.cst (.int .u32 1))),o_ (.bin .and r_3 r_6),o_ (.bin .or r_0 r_7),w_ 2 r_8,w_ 3 (i_ 0)])
.ret))))))⟩
end Go.Proofs.YtehlgnfhkidgoaaGreatDoor
