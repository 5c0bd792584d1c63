/- The functions of this seat, compiled for the evaluator TM; each held against the translation by the kernel. By program. Condition: none. -/
import Derived.Test.YtehlgnfhkidgoaaGreatDoorPrim
set_option maxRecDepth 100000
set_option linter.unusedVariables false
namespace Go.Proofs.YtehlgnfhkidgoaaGreatDoor
open Go Go.TM
abbrev Z8_:List IV:=[(.int .i64 0),(.int .i64 0),(.int .i64 0),(.int .i64 0),(.int .i64 0),(.int .i64 0),(.sl .nil []),(.sl .nil [])]
abbrev Z7_:List IV:=[(.int .i64 0),(.int .i64 0),(.int .i64 0),(.int .i64 0),(.int .i64 0),(.bool false),(.sl .nil [])]
abbrev Z1_:List IV:=[(.int .i64 0)]
abbrev r_0:aH:=.reg 0
abbrev r_1:aH:=.reg 1
abbrev r_2:aH:=.reg 2
abbrev r_3:aH:=.reg 3
abbrev r_4:aH:=.reg 4
abbrev r_5:aH:=.reg 5
abbrev r_6:aH:=.reg 6
abbrev r_7:aH:=.reg 7
abbrev r_8:aH:=.reg 8
abbrev r_9:aH:=.reg 9
abbrev gE:aH:=.reg 10
abbrev iE:aH:=.reg 11
abbrev kO:aH:=.reg 12
abbrev nC:aH:=.reg 13
abbrev nS:aH:=.reg 14
abbrev pP:aH:=.reg 15
abbrev pQ:aH:=.reg 16
abbrev xF:aH:=.reg 17
abbrev aAs:aH:=.reg 18
abbrev aF0:aH:=.reg 19
abbrev aF1:aH:=.reg 20
abbrev aF2:aH:=.reg 21
abbrev aGw:aH:=.reg 22
abbrev aLq:aH:=.reg 23
abbrev aLr:aH:=.reg 24
abbrev aTj:aH:=.reg 25
abbrev bBs:aH:=.reg 26
abbrev aTk:aH:=.reg 27
abbrev aTl:aH:=.reg 28
abbrev bJr:aH:=.reg 29
abbrev bJs:aH:=.reg 30
abbrev bJt:aH:=.reg 31
abbrev bPs:aH:=.reg 32
abbrev bV2:aH:=.reg 33
abbrev l_0:aH:=.loc 0
abbrev l_1:aH:=.loc 1
abbrev l_2:aH:=.loc 2
abbrev l_3:aH:=.loc 3
abbrev l_4:aH:=.loc 4
abbrev l_5:aH:=.loc 5
abbrev l_6:aH:=.loc 6
abbrev l_7:aH:=.loc 7
abbrev l_8:aH:=.loc 8
abbrev l_9:aH:=.loc 9
abbrev iS:aH:=.loc 10
abbrev iL:aH:=.loc 11
abbrev nT:aH:=.loc 12
abbrev pS:aH:=.loc 13
abbrev pT:aH:=.loc 14
abbrev xG:aH:=.loc 15
abbrev rX:aH:=.loc 16
abbrev aGx:aH:=.loc 17
abbrev aCe:aH:=.loc 18
abbrev bJu:aH:=.loc 19
abbrev bJv:aH:=.loc 20
abbrev aTm:aH:=.loc 21
abbrev bV3:aH:=.loc 22
abbrev bW7:aH:=.loc 23
abbrev bW8:aH:=.loc 24
abbrev bTx:aH:=.loc 25
abbrev bW9:aH:=.loc 26
abbrev bXa:aH:=.loc 27
abbrev T_:aH:=.cst (.bool true)
abbrev F_:aH:=.cst (.bool false)
abbrev N_:aH:=.cst (.sl .nil [])
abbrev y_ (n:Nat) (x:TOp):aK:=⟨x, none, some (n, true)⟩
abbrev x_ (n:Nat) (x:TOp):aK:=⟨x, none, some (n, false)⟩
abbrev c_ (n:Nat) (l:List aH):aK:=⟨.call true false n l, none, none⟩
abbrev g_ (l:List aK):aL:=.region l
abbrev h_ (l:List aK) (b:aL):aL:=.seq (.region l) b
abbrev v_ (x:aH):aK:=⟨.mov x, none, none⟩
abbrev w_ (n:Nat) (x:aH):aK:=⟨.mov x, some n, none⟩
abbrev d_ (x:aH):aK:=⟨.load1 x, none, none⟩
abbrev f_ (n:Nat) (x:aH):aK:=⟨.fieldAddr n x, none, none⟩
abbrev o_ (x:TOp):aK:=⟨x,none,none⟩
abbrev s_ (n:Nat) (x:TOp):aK:=⟨x,some n,none⟩
abbrev i_ (n:Int):aH:=.cst (.int .i64 n)
def opts:dE:=⟨fun f=>([5,11,14,15,17,18,22,24,25,27,31,32,33,35,37,39,40,44,46,47,50,51,52,54,55,56,59,60,63,64,66,67,68,69,70,71,73,75,77,79,80,82,83,86,88,89,90,91,92,94,97,98,99,100,101,102,103,104,105,106,108,109,113,114,115,116,118,119,121,123,124,125,129,130,131,134,135,136,137,138,139,140,141,142,143,144,145,154,155,156,157,158,159,160]:List Nat).contains f,fun f=>([46,115]:List Nat).contains f⟩
def a3:Ann:=⟨[0,1,2,3,4,6,7,9,10,12,13,14,15,16,17,18,51,64],[16,13,10,7,4,3,2,1],[],[],[]⟩
def t3L0:aL:=(.seq (.seq (g_ [v_ nT,s_ 17 (.bin .lss r_0 (i_ 40))])
(.cond aGx
.skip
(.exit 2)))
(.seq (.block 3
(g_ [f_ 6 iS,d_ r_0,v_ nT,o_ (.bin .add (i_ 32) r_2),v_ nT,o_ (.bin .add r_4 (i_ 1)),o_ (.bin .rem r_5 (i_ 40)),o_ (.bin .add (i_ 32) r_6),o_ (.build Z8_ [(0,1,(i_ 25)),(2,1,r_3),(3,1,r_7)]),o_ (.lit false Z8_ 1 [(0,r_8)]),o_ (.append false 8 96 28 r_1 r_9),f_ 6 iS,o_ (.store 1 iE gE)]))
(g_ [v_ nT,o_ (.bin .add r_0 (i_ 1)),w_ 12 r_1])))
def t3L1:aL:=(.seq (.seq (g_ [v_ iL,s_ 16 (.bin .lss r_0 (i_ 40))])
(.cond rX
.skip
(.exit 0)))
(.seq (.block 1
(g_ [f_ 6 iS,d_ r_0,v_ iL,o_ (.bin .add (i_ 32) r_2),v_ iL,o_ (.build Z8_ [(0,1,(i_ 69)),(1,1,r_3),(4,1,r_4)]),o_ (.lit false Z8_ 1 [(0,r_5)]),o_ (.append false 8 96 28 r_1 r_6),f_ 6 iS,o_ (.store 1 r_8 r_7)]))
(g_ [v_ iL,o_ (.bin .add r_0 (i_ 1)),w_ 11 r_1])))
def t3:aS:=⟨0,18,[.loc 0],
(h_ [w_ 0 F_]
(h_ [o_ (.call false false 5 [T_]),o_ (.call false false 5 [T_]),o_ (.call false false 5 [T_]),o_ (.allocL 1 Z7_),o_ (.allocL 2 Z7_),o_ (.allocL 3 Z7_),o_ (.store 7 r_3 r_0),o_ (.store 7 r_4 r_1),o_ (.store 7 r_5 r_2)]
(h_ [f_ 2 l_1,o_ (.store 1 r_0 (i_ 1))]
(h_ [f_ 6 l_2,d_ r_0,o_ (.indexAddrS 8 r_1 (i_ 0)),f_ 2 r_2,o_ (.store 1 r_3 (i_ 25))]
(h_ [f_ 6 l_3,d_ r_0,o_ (.slice (.sl 8) r_1 none (some (i_ 2)) none),f_ 6 l_3,o_ (.store 1 r_3 r_2)]
(h_ [o_ (.loadN 7 l_1),c_ 6 [r_0],v_ r_1,o_ (.extract 0 r_2),o_ (.extract 1 r_2),o_ (.extract 2 r_2),o_ (.allocL 4 Z7_),o_ (.store 7 r_6 r_3),v_ r_4,w_ 5 r_5]
(h_ [o_ (.loadN 7 l_2),c_ 6 [r_0],v_ r_1,o_ (.extract 0 r_2),o_ (.extract 1 r_2),o_ (.extract 2 r_2),o_ (.allocL 6 Z7_),o_ (.store 7 r_6 r_3),v_ r_4,w_ 7 r_5]
(h_ [o_ (.loadN 7 l_3),c_ 6 [r_0],v_ r_1,o_ (.extract 0 r_2),o_ (.extract 1 r_2),o_ (.extract 2 r_2),o_ (.allocL 8 Z7_),o_ (.store 7 r_6 r_3),v_ r_4,w_ 9 r_5]
(h_ [o_ (.allocL 10 Z7_)]
(h_ [f_ 1 iS,o_ (.store 1 r_0 (i_ 72))]
(.seq (.seq (g_ [w_ 11 (i_ 0)])
(.block 0
(.loop t3L1)))
(.seq (.seq (g_ [w_ 12 (i_ 0)])
(.block 2
(.loop t3L0)))
(h_ [f_ 6 iS,d_ r_0,o_ (.build Z8_ [(0,1,(i_ 72)),(4,1,(i_ 106))]),o_ (.lit false Z8_ 1 [(0,r_2)]),o_ (.append false 8 96 28 r_1 r_3),f_ 6 iS,o_ (.store 1 r_5 r_4)]
(h_ [o_ (.loadN 7 iS),c_ 6 [r_0],v_ r_1,o_ (.extract 0 r_2),o_ (.extract 1 r_2),o_ (.extract 2 r_2),o_ (.allocL 13 Z7_),o_ (.store 7 r_6 r_3),w_ 14 r_4,w_ 15 r_5]
(h_ [c_ 7 [],v_ r_0,y_ 1 (.mov l_5),y_ 1 (.bin .eql r_2 (i_ 2)),o_ (.pick r_1 r_3 F_),v_ r_4,y_ 5 (.mov l_7),y_ 5 (.bin .eql r_6 (i_ 2)),o_ (.pick r_5 r_7 F_),v_ r_8,y_ 9 (.mov l_9),y_ 9 (.bin .eql gE (i_ 2)),o_ (.pick r_9 iE F_),v_ kO,y_ 13 (.mov xG),y_ 13 (.bin .eql nS (i_ 0)),o_ (.pick nC pP F_),v_ pQ,y_ 17 (.mov pT),y_ 17 (.bin .geq aAs (i_ 16)),o_ (.pick xF aF0 F_),v_ aF1,y_ 21 (.mov pT),y_ 21 (.bin .leq aGw (i_ 40)),o_ (.pick aF2 aLq F_),v_ aLr,y_ 25 (.loadN 7 pS),y_ 25 (.call true false 8 [bBs]),o_ (.pick aTj aTk F_),v_ aTl,y_ 29 (.loadN 7 pS),y_ 29 (.call true false 9 [bJs]),o_ (.pick bJr bJt F_),w_ 0 bPs]
.ret)))))))))))))))⟩
def a5:Ann:=⟨[0,2,3,7],[3,2],[(1,1),(3,4),(4,8)],[],[]⟩
def t5:aS:=⟨1,4,[.cell 1 7 true],
(h_ [o_ (.allocL 1 Z7_)]
(h_ [o_ (.build Z8_ [(0,1,(i_ 64)),(1,1,(i_ 32)),(2,1,(i_ 4))]),o_ (.lit true Z8_ 1 [(0,r_0)]),o_ (.build Z7_ [(1,1,(i_ 34)),(6,1,r_1)]),o_ (.allocL 2 Z7_),o_ (.store 7 r_3 r_2)]
(.seq (.seq (g_ [w_ 3 l_0])
(.cond l_3
(g_ [f_ 6 l_2,d_ r_0,o_ (.build Z8_ [(0,1,(i_ 67)),(4,1,(i_ 8)),(1,1,(i_ 4))]),o_ (.lit false Z8_ 1 [(0,r_2)]),o_ (.append true 8 96 28 r_1 r_3),f_ 6 l_2,o_ (.store 1 r_5 r_4)])
.skip))
(h_ [f_ 6 l_2,d_ r_0,o_ (.build Z8_ [(0,1,(i_ 64)),(1,1,(i_ 33)),(2,1,(i_ 4))]),o_ (.build Z8_ [(0,1,(i_ 64)),(1,1,(i_ 4)),(2,1,(i_ 32))]),o_ (.build Z8_ [(0,1,(i_ 64)),(1,1,(i_ 5)),(2,1,(i_ 33))]),o_ (.lit false Z1_ 2 [(0,(i_ 4)),(1,(i_ 5))]),o_ (.build Z8_ [(0,1,(i_ 68)),(4,1,(i_ (-1))),(6,1,r_5)]),o_ (.lit false Z8_ 4 [(0,r_2),(1,r_3),(2,r_4),(3,r_6)]),o_ (.append true 8 96 28 r_1 r_7),f_ 6 l_2,o_ (.store 1 r_9 r_8)]
(h_ [o_ (.loadN 7 l_2),o_ (.store 7 l_1 r_0)]
.ret)))))⟩
def a6:Ann:=⟨[0,1,2,3,4,5,7,8,9,10,11,12,15,36,55,56,57,58,68],[12,10,2,1],[],[(15,3),(17,8)],[(20,⟨[0,0,2,6,14,30,63,127,255],[0,1,2,3,4,5],[(6,[],[7,8])]⟩)]⟩
def t6L0:aL:=(.seq (g_ [s_ 17 (.bin .lss rX xG)])
(.seq (.cond aGx
.skip
(.exit 0))
(.seq (.block 1
(h_ [v_ rX,o_ (.indexAddrS 8 pT rX),o_ (.loadN 8 r_1),o_ (.allocL 11 Z8_),w_ 10 r_0,o_ (.store 8 r_3 r_2)]
(h_ [o_ (.loadN 8 iL),v_ l_8,v_ l_8,o_ (.call false true 17 [r_0,r_1,r_2]),o_ (.store 8 iL r_3)]
(.seq (.seq (g_ [f_ 0 iL,d_ r_0,s_ 18 (.bin .eql r_1 (i_ 67))])
(.cond aCe
(g_ [v_ l_6,v_ l_6,o_ (.nilCheck r_1),f_ 14 r_2,d_ r_3,v_ iS,o_ (.indexAddrS 1 r_4 r_5),d_ r_6,o_ (.call false true 18 [r_0,r_7]),f_ 7 iL,o_ (.store 1 r_9 r_8)])
.skip))
(g_ [f_ 6 l_9,d_ r_0,o_ (.loadN 8 iL),o_ (.lit false Z8_ 1 [(0,r_2)]),o_ (.append false 8 96 28 r_1 r_3),f_ 6 l_9,o_ (.store 1 r_5 r_4)])))))
(g_ [o_ (.bin .add rX (i_ 1)),w_ 16 r_0]))))
def t6:aS:=⟨1,19,[.cell 2 7 true,.loc 3,.loc 4],
(h_ [o_ (.boxL 1 l_0),o_ (.allocL 2 Z7_),w_ 3 (i_ 0),w_ 4 (i_ 0)]
(.seq (.seq (g_ [o_ (.loadN 7 l_1),c_ 12 [r_0],s_ 12 (.un .not r_1)])
(.cond nT
(h_ [o_ (.build Z7_ []),o_ (.store 7 l_2 r_0),w_ 3 (i_ 0),w_ 4 (i_ 2)]
.ret)
.skip))
(h_ [o_ (.loadN 7 l_1),c_ 13 [r_0],v_ r_1,o_ (.extract 0 r_2),o_ (.extract 1 r_2),w_ 5 r_3,v_ r_4]
(h_ [o_ (.loadN 7 l_1),o_ (.mkMap),v_ l_5,o_ (.build [(.int .i64 0),(.int .i64 0),(.int .i64 0),(.int .i64 0),(.int .i64 0),(.bool false),(.sl .nil []),(.int .i64 0),(.int .i64 0),(.int .i64 0),(.int .i64 0),(.int .i64 0),(.bool false),(.sl .nil []),(.sl .nil []),.nilm,(.sl .nil [])] [(0,7,r_0),(15,1,r_1),(16,1,r_2)]),o_ (.boxH 43 r_3),w_ 6 r_4]
(h_ [v_ l_6,o_ (.call false false 14 [r_0])]
(h_ [v_ l_6,o_ (.call false false 15 [r_0]),s_ 7 (.allocH 27 [(.sl .nil [])]),o_ (.store 1 r_2 r_1)]
(.seq (.seq (g_ [v_ l_6,o_ (.nilCheck r_0),f_ 15 r_1,d_ r_2,o_ (.len .mp r_3),s_ 13 (.bin .gtr r_4 (i_ 16777216))])
(.cond pS
(h_ [o_ (.build Z7_ []),o_ (.store 7 l_2 r_0),w_ 3 (i_ 0),w_ 4 (i_ 10)]
.ret)
.skip))
(h_ [o_ (.mkFn 16 [] [l_7]),w_ 8 r_0]
(h_ [v_ l_6,o_ (.nilCheck r_0),f_ 7 r_1,o_ (.loadN 7 r_2),o_ (.allocL 9 Z7_),o_ (.store 7 r_4 r_3)]
(h_ [v_ l_6,o_ (.nilCheck r_0),f_ 15 r_1,d_ r_2,o_ (.len .mp r_3),f_ 1 l_9,o_ (.store 1 r_5 (i_ 32)),f_ 2 l_9,o_ (.store 1 r_7 r_4),f_ 6 l_9,o_ (.store 1 r_9 N_)]
(.seq (.seq (g_ [v_ l_6,o_ (.nilCheck r_0),f_ 7 r_1,f_ 6 r_2,s_ 14 (.load1 r_3),s_ 15 (.len .sl r_4),w_ 16 (i_ 0)])
(.block 0
(.loop t6L0)))
(.seq (.draw [0,1,2,3,4,5] [(6,[],[7,8])] [o_ (.loadN 7 l_9),v_ l_6,o_ (.nilCheck r_1),f_ 15 r_2,d_ r_3,o_ (.len .mp r_4),o_ (.store 7 l_2 r_0),w_ 3 r_5,w_ 4 (i_ 0)])
.ret))))))))))))⟩
def a7:Ann:=⟨[0,1,2,3,4,5,6,7,8],[6,1],[],[],[]⟩
def t7:aS:=⟨0,9,[.loc 0],
(h_ [w_ 0 F_]
(h_ [o_ (.call false false 5 [T_]),c_ 6 [r_0],v_ r_1,o_ (.extract 0 r_2),o_ (.extract 1 r_2),o_ (.extract 2 r_2),o_ (.allocL 1 Z7_),o_ (.store 7 r_6 r_3),w_ 2 r_4,w_ 3 r_5]
(h_ [o_ (.loadN 7 l_1),c_ 19 [r_0],v_ r_1,o_ (.extract 0 r_2),o_ (.extract 1 r_2),w_ 4 r_3,w_ 5 r_4]
(h_ [o_ (.call false false 5 [F_]),c_ 6 [r_0],v_ r_1,o_ (.extract 0 r_2),o_ (.extract 1 r_2),o_ (.extract 2 r_2),o_ (.allocL 6 Z7_),o_ (.store 7 r_6 r_3),w_ 7 r_4,w_ 8 r_5]
(h_ [v_ l_3,o_ (.bin .eql r_0 (i_ 0)),v_ r_1,y_ 2 (.mov l_2),y_ 2 (.bin .eql r_3 (i_ 1)),o_ (.pick r_2 r_4 F_),v_ r_5,y_ 6 (.mov l_5),y_ 6 (.bin .eql r_7 (i_ 1)),o_ (.pick r_6 r_8 F_),v_ r_9,y_ 10 (.mov l_4),y_ 10 (.len .sl iE),y_ 10 (.bin .eql kO (i_ 1)),o_ (.pick gE nC F_),v_ nS,y_ 15 (.mov l_4),y_ 15 (.indexAddrS 1 pQ (i_ 0)),y_ 15 (.load1 xF),y_ 15 (.bin .eql aAs (i_ 0)),o_ (.pick pP aF0 F_),v_ aF1,y_ 21 (.mov l_8),y_ 21 (.bin .eql aGw (i_ 0)),o_ (.pick aF2 aLq F_),v_ aLr,y_ 25 (.mov l_7),y_ 25 (.bin .eql bBs (i_ 0)),o_ (.pick aTj aTk F_),v_ aTl,y_ 29 (.fieldAddr 1 l_6),y_ 29 (.load1 bJs),y_ 29 (.bin .eql bJt (i_ 32)),o_ (.pick bJr bPs F_),w_ 0 bV2]
.ret)))))⟩
def a8:Ann:=⟨[0,1,2,3,4,5,6,11,32,60],[4,1],[],[],[]⟩
def t8L0:aL:=(.seq (.seq (g_ [v_ l_6, v_ l_5, o_ (.len .sl r_1), s_ 8 (.bin .lss r_0 r_2)])
(.cond l_8
.skip
(.exit 2)))
(.seq (.block 3
(h_ [v_ l_5,v_ l_6,o_ (.indexAddrS 1 r_0 r_1),d_ r_2,o_ (.bin .gtr r_3 (i_ 31)),v_ r_4,x_ 5 (.mov l_5),x_ 5 (.mov l_6),x_ 5 (.indexAddrS 1 r_6 r_7),x_ 5 (.load1 r_8),x_ 5 (.bin .eql r_9 (i_ 25)),o_ (.pick r_5 T_ gE),v_ iE,x_ 12 (.mov l_5),x_ 12 (.mov l_6),x_ 12 (.indexAddrS 1 nC nS),x_ 12 (.load1 pP),x_ 12 (.bin .geq pQ (i_ 27)),x_ 12 (.mov xF),y_ 18 (.mov l_5),y_ 18 (.mov l_6),y_ 18 (.indexAddrS 1 aF0 aF1),y_ 18 (.load1 aF2),y_ 18 (.bin .leq aGw (i_ 30)),x_ 12 (.pick aAs aLq F_),s_ 9 (.pick kO T_ aLr)]
(.cond l_9
(h_ [w_ 2 F_]
.ret)
.skip)))
(g_ [v_ l_6,o_ (.bin .add r_0 (i_ 1)),w_ 6 r_1])))
def t8L1:aL:=(.seq (.seq (g_ [v_ l_3,f_ 6 l_1,d_ r_1,o_ (.len .sl r_2),s_ 7 (.bin .lss r_0 r_3)])
(.cond l_7
.skip
(.exit 0)))
(.seq (.block 1
(h_ [f_ 6 l_1,d_ r_0,v_ l_3,o_ (.indexAddrS 8 r_1 r_2),o_ (.loadN 8 r_3),o_ (.allocL 4 Z8_),o_ (.store 8 r_5 r_4)]
(h_ [f_ 2 l_4,d_ r_0,f_ 3 l_4,d_ r_2,f_ 1 l_4,d_ r_4,o_ (.lit false Z1_ 3 [(0,r_1),(1,r_3),(2,r_5)]),f_ 6 l_4,d_ r_7,o_ (.append false 1 8 3 r_6 r_8),w_ 5 r_9]
(h_ [w_ 6 (i_ 0)]
(.block 2
(.loop t8L0))))))
(g_ [v_ l_3,o_ (.bin .add r_0 (i_ 1)),w_ 3 r_1])))
def t8:aS:=⟨1,10,[.loc 2],
(h_ [o_ (.boxL 1 l_0),w_ 2 F_]
(.seq (.seq (g_ [w_ 3 (i_ 0)])
(.block 0
(.loop t8L1)))
(h_ [w_ 2 T_]
.ret)))⟩
def a9:Ann:=⟨[0,1,2,3,4,5,10,48,53,89],[4,1],[],[],[(10,⟨[0,1,0,7,15,31,63,127,255,127,1023,2047,127,4223,16383,32767,65535,131071,262143,524287,1048575,2097151,1048575,8388607,16777215,1048575,34603007,1048575,135266303,504365055,1041235967,2147483647,4294967295,8589934591],[0,1,2,3,4,5,6,7,8,9,10,11,12,13,14,15,16,17,18,19,20,21,22,23,24,25,26,27,28,29,30,31,32,33],[]⟩)]⟩
def t9L0:aL:=(.seq (.seq (g_ [v_ l_5, f_ 7 l_4, d_ r_1, o_ (.len .sl r_2), s_ 8 (.bin .lss r_0 r_3)])
(.cond l_8
.skip
(.exit 2)))
(.seq (.block 3
(.seq (.draw [0,1,2,3,4,5,6,7,8,9,10,11,12,13,14,15,16,17,18,19,20,21,22,23,24,25,26,27,28,29,30,31,32,33] [] [f_ 7 l_4,d_ r_0,v_ l_5,o_ (.indexAddrS 1 r_1 r_2),d_ r_3,o_ (.bin .lss r_4 (i_ 0)),v_ r_5,x_ 6 (.fieldAddr 7 l_4),x_ 6 (.load1 r_7),x_ 6 (.mov l_5),x_ 6 (.indexAddrS 1 r_8 r_9),x_ 6 (.load1 gE),x_ 6 (.fieldAddr 2 l_1),x_ 6 (.load1 kO),x_ 6 (.bin .geq iE nC),o_ (.pick r_6 T_ nS),v_ pP,x_ 16 (.mov l_5),x_ 16 (.bin .gtr xF (i_ 0)),x_ 16 (.mov aAs),y_ 19 (.fieldAddr 7 l_4),y_ 19 (.load1 aF1),y_ 19 (.mov l_5),y_ 19 (.indexAddrS 1 aF2 aGw),y_ 19 (.load1 aLq),y_ 19 (.fieldAddr 7 l_4),y_ 19 (.load1 aTj),y_ 19 (.mov l_5),y_ 19 (.bin .sub aTk (i_ 1)),y_ 19 (.indexAddrS 1 bBs aTl),y_ 19 (.load1 bJr),y_ 19 (.bin .leq aLr bJs),x_ 16 (.pick aF0 bJt F_),s_ 9 (.pick pQ T_ bPs)])
(.cond l_9
(h_ [w_ 2 F_]
.ret)
.skip)))
(g_ [v_ l_5,o_ (.bin .add r_0 (i_ 1)),w_ 5 r_1])))
def t9L1:aL:=(.seq (.seq (g_ [v_ l_3,f_ 6 l_1,d_ r_1,o_ (.len .sl r_2),s_ 6 (.bin .lss r_0 r_3)])
(.cond l_6
.skip
(.exit 0)))
(.seq (.block 1
(h_ [f_ 6 l_1,d_ r_0,v_ l_3,o_ (.indexAddrS 8 r_1 r_2),o_ (.loadN 8 r_3),o_ (.allocL 4 Z8_),o_ (.store 8 r_5 r_4)]
(.seq (.seq (g_ [f_ 0 l_4,d_ r_0,o_ (.bin .eql r_1 (i_ 73)),v_ r_2,x_ 3 (.fieldAddr 0 l_4),x_ 3 (.load1 r_4),x_ 3 (.bin .eql r_5 (i_ 74)),o_ (.pick r_3 T_ r_6),v_ r_7,y_ 8 (.fieldAddr 4 l_4),y_ 8 (.load1 r_9),y_ 8 (.bin .lss gE (i_ 0)),y_ 8 (.mov iE),x_ 12 (.fieldAddr 4 l_4),x_ 12 (.load1 nC),x_ 12 (.fieldAddr 2 l_1),x_ 12 (.load1 pP),x_ 12 (.bin .geq nS pQ),y_ 8 (.pick kO T_ xF),o_ (.pick r_8 aAs F_),v_ aF0,x_ 20 (.fieldAddr 0 l_4),x_ 20 (.load1 aF2),x_ 20 (.bin .neq aGw (i_ 67)),x_ 20 (.mov aLq),y_ 24 (.fieldAddr 7 l_4),y_ 24 (.load1 aTj),y_ 24 (.len .sl bBs),y_ 24 (.bin .gtr aTk (i_ 0)),x_ 20 (.pick aLr aTl F_),s_ 7 (.pick aF1 T_ bJr)])
(.cond l_7
(h_ [w_ 2 F_]
.ret)
.skip))
(h_ [w_ 5 (i_ 0)]
(.block 2
(.loop t9L0))))))
(g_ [v_ l_3,o_ (.bin .add r_0 (i_ 1)),w_ 3 r_1])))
def t9:aS:=⟨1,10,[.loc 2],
(h_ [o_ (.boxL 1 l_0),w_ 2 F_]
(.seq (.seq (g_ [w_ 3 (i_ 0)])
(.block 0
(.loop t9L1)))
(h_ [w_ 2 T_]
.ret)))⟩
def a12:Ann:=⟨[0,1,2,3,5,14,40],[1],[],[],[]⟩
def t12:aS:=⟨1,7,[.loc 2],
(h_ [o_ (.boxL 1 l_0),w_ 2 F_]
(.seq (.seq (g_ [o_ (.loadN 7 l_1),c_ 20 [r_0],o_ (.bin .neq r_1 (i_ 0)),v_ r_2,x_ 3 (.fieldAddr 2 l_1),x_ 3 (.load1 r_4),x_ 3 (.bin .neq r_5 (i_ 0)),s_ 5 (.pick r_3 T_ r_6)])
(.cond l_5
(h_ [w_ 2 F_]
.ret)
.skip))
(h_ [o_ (.loadN 7 l_1),c_ 21 [r_0],v_ r_1,o_ (.extract 0 r_2),o_ (.extract 1 r_2),w_ 3 r_3,v_ r_4]
(h_ [o_ (.loadN 7 l_1),c_ 13 [r_0],v_ r_1,o_ (.extract 0 r_2),o_ (.extract 1 r_2),w_ 4 r_3,v_ r_4]
(.seq (.seq (g_ [v_ l_3,o_ (.len .sl r_0),o_ (.bin .gtr r_1 (i_ 0)),v_ r_2,y_ 3 (.mov l_3),y_ 3 (.indexAddrS 1 r_4 (i_ 0)),y_ 3 (.load1 r_5),y_ 3 (.call false false 22 [r_6,(.fn 23)]),o_ (.pick r_3 r_7 F_),v_ r_8,x_ 9 (.mov l_3),x_ 9 (.mov l_4),x_ 9 (.lit false [(.sl .nil [])] 2 [(0,gE),(1,iE)]),x_ 9 (.call false false 25 [kO]),x_ 9 (.call false false 24 [nC,(.fn 26)]),s_ 6 (.pick r_9 T_ nS)])
(.cond l_6
(h_ [w_ 2 F_]
.ret)
.skip))
(h_ [f_ 6 l_1,d_ r_0,o_ (.call false false 27 [r_1,(.fn 28)]),o_ (.un .not r_2),w_ 2 r_3]
.ret))))))⟩
def a13:Ann:=⟨[0,1,2,3,4,5,12],[1],[],[],[]⟩
def t13:aS:=⟨1,7,[.loc 2,.loc 3],
(h_ [o_ (.boxL 1 l_0),w_ 2 N_,w_ 3 (i_ 0)]
(h_ [o_ (.loadN 7 l_1),o_ (.call false false 31 [r_0]),v_ r_1,o_ (.extract 0 r_2),o_ (.extract 1 r_2),w_ 4 r_3,w_ 5 r_4]
(.seq (.seq (g_ [v_ l_5,s_ 6 (.bin .neq r_0 (i_ 0))])
(.cond l_6
(h_ [v_ l_5,w_ 2 N_,w_ 3 r_0]
.ret)
.skip))
(h_ [v_ l_4,o_ (.nilCheck r_0),f_ 9 r_1,d_ r_2,o_ (.call false false 32 [r_3]),w_ 2 r_4,w_ 3 (i_ 0)]
.ret))))⟩
def a14:Ann:=⟨[0,2,3,22,23,24,25],[3],[],[],[]⟩
def t14L0:aL:=(.seq (g_ [s_ 6 (.bin .lss l_5 l_4)])
(.seq (.cond l_6
.skip
(.exit 0))
(.seq (.block 1
(h_ [v_ l_5,o_ (.indexAddrS 8 l_3 l_5),o_ (.loadN 8 r_1),o_ (.allocL 2 Z8_),w_ 1 r_0,o_ (.store 8 r_3 r_2)]
(g_ [v_ l_0,o_ (.loadN 8 l_2),v_ l_1,o_ (.call false false 33 [r_0,r_1,r_2])])))
(g_ [o_ (.bin .add l_5 (i_ 1)),w_ 5 r_0]))))
def t14:aS:=⟨1,7,[],
(h_ [v_ l_0,v_ l_0,o_ (.nilCheck r_1),f_ 0 r_2,o_ (.loadN 7 r_3),o_ (.nilCheck r_0),f_ 7 r_5,o_ (.store 7 r_6 r_4)]
(h_ [v_ l_0,v_ l_0,o_ (.nilCheck r_0),f_ 7 r_2,f_ 6 r_3,o_ (.store 1 r_4 N_),o_ (.nilCheck r_1),f_ 14 r_6,o_ (.store 1 r_7 N_)]
(h_ [v_ l_0,o_ (.nilCheck r_0),f_ 0 r_1,f_ 6 r_2,s_ 3 (.load1 r_3),s_ 4 (.len .sl r_4),w_ 5 (i_ 0)]
(.block 0
(.loop t14L0)))))⟩
def a15:Ann:=⟨[0,1,2,3,5,6,7,20,24,31],[3],[(10,3)],[],[(11,⟨[0,0,0,6,15],[0,1,2],[(3,[0],[]),(4,[],[])]⟩)]⟩
def t15L0:aL:=(.seq (.seq (g_ [v_ l_6, d_ l_1, o_ (.nilCheck r_1), f_ 0 r_2, f_ 1 r_3, d_ r_4, s_ 9 (.bin .lss r_0 r_5)])
(.cond l_9
.skip
(.exit 2)))
(.seq (.block 3
(g_ [v_ l_5,v_ l_6,o_ (.lit false Z1_ 1 [(0,r_1)]),o_ (.append true 1 8 3 r_0 r_2),w_ 5 r_3]))
(g_ [v_ l_6,o_ (.bin .add r_0 (i_ 1)),w_ 6 r_1])))
def t15L1:aL:=(.block 1
(h_ [d_ l_1,o_ (.call false false 35 [r_0]),c_ 34 [r_1],v_ r_2,o_ (.extract 0 r_3),o_ (.extract 1 r_3),o_ (.allocL 3 [(.int .i64 0),(.sl .nil []),(.sl .nil [])]),o_ (.store 3 r_6 r_4),v_ r_5]
(h_ [o_ (.loadN 3 l_3),c_ 36 [r_0],w_ 4 r_1]
(h_ [v_ l_4,o_ (.call false false 37 [r_0]),w_ 5 r_1]
(.seq (.seq (g_ [v_ l_5,o_ (.len .sl r_0),s_ 7 (.bin .eql r_1 (i_ 0))])
(.cond l_7
(h_ [v_ l_4,w_ 2 r_0]
.ret)
.skip))
(.seq (.seq (g_ [v_ l_5,o_ (.mkFn 38 [] [l_1]),s_ 8 (.call false false 22 [r_0,r_1])])
(.cond l_8
(h_ [w_ 6 (i_ 32)]
(.block 2
(.loop t15L0)))
.skip))
(.seq (.draw [0,1,2] [(3,[0],[]),(4,[],[])] [d_ l_1,v_ l_5,o_ (.mkFn 41 [] [l_1]),o_ (.call false false 40 [r_1,r_2]),o_ (.call false false 39 [r_0,r_3])])
(g_ [d_ l_1,o_ (.call false false 14 [r_0])]))))))))
def t15:aS:=⟨1,10,[.loc 2],
(h_ [s_ 1 (.boxH 40 l_0),w_ 2 N_]
(.block 0
(.loop t15L1)))⟩
def a16:Ann:=⟨[0,1,3],[],[],[],[]⟩
def t16:aS:=⟨2,3,[.loc 2],
(h_ [w_ 2 (i_ 0)]
(h_ [d_ l_1,v_ l_0,o_ (.indexAddrS 1 r_0 r_1),d_ r_2,w_ 2 r_3]
.ret))⟩
def a17:Ann:=⟨[0,1,2,3,6,7,8,9,10,20,21,22,23,35,45,50,60,65,75],[6,3],[],[],[(1,⟨[0,1,0,7,15,31],[0,2],[(1,[2],[]),(3,[],[4,5])]⟩),(6,⟨[0,1,0,0,0,24,63,127],[0,1,2,3,4],[(5,[1],[6]),(7,[],[])]⟩)]⟩
def t17L0:aL:=(.seq (g_ [s_ 12 (.bin .lss iL iS)])
(.seq (.cond nT
.skip
(.exit 0))
(.seq (.block 1
(h_ [v_ iL,o_ (.indexAddrS 1 l_9 iL),d_ r_1,w_ 7 r_0,w_ 8 r_2]
(.draw [0,1,2,3,4] [(5,[1],[6]),(7,[],[])] [f_ 6 l_3,d_ r_0,v_ l_7,v_ l_1,v_ l_8,o_ (.callv r_3 [r_4]),o_ (.indexAddrS 1 r_1 r_2),o_ (.store 1 r_6 r_5)])))
(g_ [o_ (.bin .add iL (i_ 1)),w_ 11 r_0]))))
def t17:aS:=⟨3,19,[.cell 4 8 true],
(h_ [o_ (.boxL 3 l_0),o_ (.allocL 4 Z8_)]
(.seq (.draw [0,2] [(1,[2],[]),(3,[],[4,5])] [o_ (.loadN 8 l_3),c_ 42 [r_0],o_ (.loadN 8 l_3),c_ 43 [r_2],w_ 5 r_1,w_ 6 r_3])
(h_ [f_ 6 l_3,d_ r_0,o_ (.call false false 44 [r_1]),f_ 6 l_3,o_ (.store 1 r_3 r_2)]
(.seq (.seq (g_ [f_ 6 l_3,s_ 9 (.load1 r_0),s_ 10 (.len .sl r_1),w_ 11 (i_ 0)])
(.block 0
(.loop t17L0)))
(.seq (.block 2
(h_ [v_ l_5,f_ 2 l_3,d_ r_1,c_ 45 [r_0,r_2],w_ 13 r_3]
(.cond pS
(g_ [v_ l_1,f_ 2 l_3,d_ r_1,o_ (.callv r_0 [r_2]),f_ 2 l_3,o_ (.store 1 r_4 r_3)])
(h_ [f_ 2 l_3,d_ r_0,c_ 23 [r_1],w_ 14 r_2]
(.cond pT
(g_ [f_ 2 l_3,o_ (.store 1 r_0 (i_ 0))])
.skip)))))
(.seq (.block 3
(h_ [v_ l_5,f_ 3 l_3,d_ r_1,c_ 45 [r_0,r_2],w_ 15 r_3]
(.cond xG
(g_ [v_ l_1,f_ 3 l_3,d_ r_1,o_ (.callv r_0 [r_2]),f_ 3 l_3,o_ (.store 1 r_4 r_3)])
(h_ [f_ 3 l_3,d_ r_0,c_ 23 [r_1],w_ 16 r_2]
(.cond rX
(g_ [f_ 3 l_3,o_ (.store 1 r_0 (i_ 0))])
.skip)))))
(.seq (.block 4
(h_ [v_ l_6,f_ 1 l_3,d_ r_1,c_ 45 [r_0,r_2],w_ 17 r_3]
(.cond aGx
(g_ [v_ l_2,f_ 1 l_3,d_ r_1,o_ (.callv r_0 [r_2]),f_ 1 l_3,o_ (.store 1 r_4 r_3)])
(h_ [f_ 1 l_3,d_ r_0,c_ 23 [r_1],w_ 18 r_2]
(.cond aCe
(g_ [f_ 1 l_3,o_ (.store 1 r_0 (i_ 0))])
.skip)))))
(h_ [o_ (.loadN 8 l_3),o_ (.store 8 l_4 r_0)]
.ret))))))))⟩
def a18:Ann:=⟨[0,1,4,6,7,8,15,16,17,18,30],[7],[(6,4)],[],[]⟩
def t18L0:aL:=(.seq (g_ [s_ 9 (.bin .lss l_8 l_7)])
(.seq (.cond l_9
.skip
(.exit 0))
(.seq (.block 1
(h_ [o_ (.indexAddrS 1 l_6 l_8),d_ r_0,w_ 3 r_1]
(h_ [v_ l_0,o_ (.nilCheck r_0),f_ 15 r_1,d_ r_2,v_ l_3,o_ (.lookup (.leaf .int) (.agg Z1_) true r_3 r_4),v_ r_5,o_ (.extract 0 r_6),o_ (.extract 1 r_6),o_ (.allocL 4 Z1_),o_ (.store 1 r_9 r_7),w_ 5 r_8]
(h_ [w_ 10 l_5]
(.cond iS
(g_ [v_ l_2,f_ 0 l_4,d_ r_1,o_ (.lit false Z1_ 1 [(0,r_2)]),o_ (.append true 1 8 3 r_0 r_3),w_ 2 r_4])
.skip)))))
(g_ [o_ (.bin .add l_8 (i_ 1)),w_ 8 r_0]))))
def t18:aS:=⟨2,11,[.loc 2],
(h_ [w_ 2 N_]
(.seq (.seq (g_ [v_ l_0,o_ (.nilCheck r_0),f_ 16 r_1,d_ r_2,v_ l_1,o_ (.indexAddrS 1 r_3 r_4),s_ 6 (.load1 r_5),s_ 7 (.len .sl r_6),w_ 8 (i_ 0)])
(.block 0
(.loop t18L0)))
(h_ [v_ l_2,o_ (.prim 46 [r_0])]
(h_ [v_ l_2,w_ 2 r_0]
.ret))))⟩
def a19:Ann:=⟨[0,1,2,3,4,9,18],[1],[],[],[]⟩
def t19L0:aL:=(.seq (.seq (g_ [v_ l_4,f_ 6 l_1,d_ r_1,o_ (.len .sl r_2),s_ 5 (.bin .lss r_0 r_3)])
(.cond l_5
.skip
(.exit 0)))
(.seq (.block 1
(h_ [f_ 6 l_1,d_ r_0,v_ l_4,o_ (.indexAddrS 8 r_1 r_2),f_ 0 r_3,d_ r_4,s_ 6 (.bin .eql r_5 (i_ 67))]
(.cond l_6
(h_ [v_ l_2,f_ 6 l_1,d_ r_1,v_ l_4,o_ (.indexAddrS 8 r_2 r_3),f_ 7 r_4,d_ r_5,o_ (.append false 1 8 3 r_0 r_6),w_ 2 r_7]
(g_ [v_ l_3,o_ (.bin .add r_0 (i_ 1)),w_ 3 r_1]))
.skip)))
(g_ [v_ l_4,o_ (.bin .add r_0 (i_ 1)),w_ 4 r_1])))
def t19:aS:=⟨1,7,[.loc 2,.loc 3],
(h_ [o_ (.boxL 1 l_0),w_ 2 N_,w_ 3 (i_ 0)]
(.seq (.seq (g_ [w_ 4 (i_ 0)])
(.block 0
(.loop t19L0)))
(h_ [v_ l_2,v_ l_3,w_ 2 r_0,w_ 3 r_1]
.ret)))⟩
def a20:Ann:=⟨[0,1,2,3,5,7,8,9,33,36,37,38,39,44,52,53,54,55,74,115,125,126],[7,5],[],[],[]⟩
def t20L0:aL:=(.seq (g_ [s_ 17 (.bin .lss rX xG)])
(.seq (.cond aGx
.skip
(.exit 2))
(.seq (.block 3
(h_ [o_ (.indexAddrS 8 pT rX),o_ (.loadN 8 r_0),o_ (.allocL 5 Z8_),o_ (.store 8 r_2 r_1)]
(h_ [f_ 2 l_5,d_ r_0,f_ 3 l_5,d_ r_2,o_ (.lit false Z1_ 2 [(0,r_1),(1,r_3)]),f_ 6 l_5,d_ r_5,o_ (.lit false [(.sl .nil [])] 2 [(0,r_4),(1,r_6)]),o_ (.call false false 47 [r_7]),w_ 6 r_8]
(.seq (.seq (g_ [f_ 0 l_5,d_ r_0,o_ (.bin .neq r_1 (i_ 67)),v_ r_2,x_ 3 (.fieldAddr 1 l_5),x_ 3 (.load1 r_4),x_ 3 (.bin .geq r_5 (i_ 0)),s_ 18 (.pick r_3 T_ r_6)])
(.cond aCe
(g_ [v_ l_6,f_ 1 l_5,d_ r_1,o_ (.lit false Z1_ 1 [(0,r_2)]),o_ (.append false 1 8 3 r_0 r_3),w_ 6 r_4])
.skip))
(h_ [f_ 0 l_5,d_ r_0,o_ (.bin .geq r_1 (i_ 26)),v_ r_2,y_ 3 (.fieldAddr 0 l_5),y_ 3 (.load1 r_4),y_ 3 (.bin .leq r_5 (i_ 31)),o_ (.pick r_3 r_6 F_),v_ r_7,x_ 8 (.fieldAddr 0 l_5),x_ 8 (.load1 r_9),x_ 8 (.bin .eql gE (i_ 66)),o_ (.pick r_8 T_ iE),v_ kO,x_ 13 (.fieldAddr 0 l_5),x_ 13 (.load1 nS),x_ 13 (.bin .eql pP (i_ 65)),o_ (.pick nC T_ pQ),w_ 7 xF]
(h_ [o_ (.loadN 8 l_5),c_ 48 [r_0],o_ (.un .not r_1),v_ r_2,x_ 3 (.mov l_6),x_ 3 (.mkFn 49 [] [l_1]),x_ 3 (.call false false 22 [r_4,r_5]),o_ (.pick r_3 T_ r_6),v_ r_7,x_ 8 (.mov l_7),x_ 8 (.mov r_9),y_ 10 (.mov l_3),y_ 10 (.fieldAddr 5 l_5),y_ 10 (.load1 kO),y_ 10 (.lookup (.leaf .int) (.int .i64 0) false iE nC),y_ 10 (.bin .neq nS (i_ 1)),x_ 8 (.pick gE pP F_),s_ 19 (.pick r_8 T_ pQ)]
(.cond bJu
(h_ [w_ 2 (i_ 2)]
.ret)
.skip)))))))
(g_ [o_ (.bin .add rX (i_ 1)),w_ 16 r_0]))))
def t20L1:aL:=(.seq (g_ [s_ 12 (.bin .lss iL iS)])
(.seq (.cond nT
.skip
(.exit 0))
(.seq (.block 1
(h_ [o_ (.indexAddrS 8 l_9 iL),o_ (.loadN 8 r_0),o_ (.allocL 4 Z8_),o_ (.store 8 r_2 r_1)]
(h_ [f_ 0 l_4,d_ r_0,s_ 13 (.bin .eql r_1 (i_ 65))]
(.cond pS
(g_ [v_ l_3,f_ 5 l_4,d_ r_1,o_ (.lookup (.leaf .int) (.int .i64 0) false r_0 r_2),o_ (.bin .add r_3 (i_ 1)),o_ (.update (.leaf .int) r_0 r_2 r_4)])
.skip))))
(g_ [o_ (.bin .add iL (i_ 1)),w_ 11 r_0]))))
def t20:aS:=⟨1,22,[.loc 2],
(h_ [s_ 1 (.boxH 25 l_0),w_ 2 (i_ 0)]
(.seq (.seq (g_ [f_ 1 l_1,d_ r_0,o_ (.bin .lss r_1 (i_ 32)),v_ r_2,x_ 3 (.fieldAddr 3 l_1),x_ 3 (.load1 r_4),x_ 3 (.bin .lss r_5 (i_ 0)),o_ (.pick r_3 T_ r_6),v_ r_7,x_ 8 (.fieldAddr 2 l_1),x_ 8 (.load1 r_9),x_ 8 (.bin .lss gE (i_ 0)),o_ (.pick r_8 T_ iE),v_ kO,x_ 13 (.fieldAddr 4 l_1),x_ 13 (.load1 nS),x_ 13 (.bin .lss pP (i_ 0)),o_ (.pick nC T_ pQ),v_ xF,x_ 18 (.fieldAddr 6 l_1),x_ 18 (.load1 aF0),x_ 18 (.len .sl aF1),x_ 18 (.bin .eql aF2 (i_ 0)),s_ 8 (.pick aAs T_ aGw)])
(.cond l_8
(h_ [w_ 2 (i_ 2)]
.ret)
.skip))
(h_ [o_ (.mkMap),w_ 3 r_0]
(.seq (.seq (g_ [f_ 6 l_1,s_ 9 (.load1 r_0),s_ 10 (.len .sl r_1),w_ 11 (i_ 0)])
(.block 0
(.loop t20L1)))
(.seq (.seq (g_ [f_ 6 l_1,s_ 14 (.load1 r_0),s_ 15 (.len .sl r_1),w_ 16 (i_ 0)])
(.block 2
(.loop t20L0)))
(.seq (.seq (g_ [f_ 6 l_1,d_ r_0,f_ 6 l_1,d_ r_2,o_ (.len .sl r_3),o_ (.bin .sub r_4 (i_ 1)),o_ (.indexAddrS 8 r_1 r_5),f_ 0 r_6,s_ 20 (.load1 r_7)])
(.block 4
(.seq (.seq (g_ [o_ (.bin .eql bJv (i_ 66)),w_ 21 r_0])
(.cond aTm
.skip
(h_ [o_ (.bin .eql bJv (i_ 68)),w_ 21 r_0]
(.cond aTm
.skip
(g_ [o_ (.bin .eql bJv (i_ 72)),w_ 21 r_0])))))
(.cond aTm
(h_ [w_ 2 (i_ 0)]
.ret)
.skip))))
(h_ [w_ 2 (i_ 2)]
.ret)))))))⟩
def a21:Ann:=⟨[0,1,2,3,4,5,12],[1],[],[],[]⟩
def t21:aS:=⟨1,7,[.loc 2,.loc 3],
(h_ [o_ (.boxL 1 l_0),w_ 2 N_,w_ 3 (i_ 0)]
(h_ [o_ (.loadN 7 l_1),o_ (.call false false 31 [r_0]),v_ r_1,o_ (.extract 0 r_2),o_ (.extract 1 r_2),w_ 4 r_3,w_ 5 r_4]
(.seq (.seq (g_ [v_ l_5,s_ 6 (.bin .neq r_0 (i_ 0))])
(.cond l_6
(h_ [v_ l_5,w_ 2 N_,w_ 3 r_0]
.ret)
.skip))
(h_ [v_ l_4,o_ (.nilCheck r_0),f_ 8 r_1,d_ r_2,o_ (.call false false 32 [r_3]),w_ 2 r_4,w_ 3 (i_ 0)]
.ret))))⟩
def a22:Ann:=⟨[0,1,4],[],[],[],[]⟩
def t22:aS:=⟨2,3,[.loc 2],
(h_ [w_ 2 F_]
(h_ [v_ l_0,v_ l_1,o_ (.call false false 50 [r_0,r_1]),o_ (.bin .geq r_2 (i_ 0)),w_ 2 r_3]
.ret))⟩
def a23:Ann:=⟨[0,2],[],[],[],[]⟩
def t23:aS:=⟨1,2,[.loc 1],
(h_ [w_ 1 F_]
(h_ [v_ l_0,o_ (.bin .geq r_0 (i_ 32)),w_ 1 r_1]
.ret))⟩
def a24:Ann:=⟨[0,1,4],[],[],[],[]⟩
def t24:aS:=⟨2,3,[.loc 2],
(h_ [w_ 2 F_]
(h_ [v_ l_0,v_ l_1,o_ (.call false false 51 [r_0,r_1]),o_ (.bin .geq r_2 (i_ 0)),w_ 2 r_3]
.ret))⟩
def a25:Ann:=⟨[0,2,3,5,6,8,9,10,11,12,20,25,26,27,28],[],[],[],[]⟩
def t25L0:aL:=(.seq (g_ [s_ 14 (.bin .lss pS nT)])
(.seq (.cond pT
.skip
(.exit 2))
(.seq (.block 3
(h_ [o_ (.indexAddrS 1 iL pS),d_ r_0,w_ 5 r_1]
(g_ [v_ l_4,v_ l_5,o_ (.append false 1 24 26 r_0 r_1),w_ 4 r_2])))
(g_ [o_ (.bin .add pS (i_ 1)),w_ 13 r_0]))))
def t25L1:aL:=(.seq (g_ [s_ 9 (.bin .lss l_8 l_7)])
(.seq (.cond l_9
.skip
(.exit 0))
(.seq (.block 1
(h_ [o_ (.indexAddrS 1 l_6 l_8),d_ r_0,w_ 3 r_1]
(h_ [v_ l_2,v_ l_3,o_ (.len .sl r_1),o_ (.bin .add r_0 r_2),w_ 2 r_3]
(h_ [v_ l_2,s_ 10 (.bin .lss r_0 (i_ 0))]
(.cond iS
(g_ [o_ (.bad),o_ (.bad)])
.skip)))))
(g_ [o_ (.bin .add l_8 (i_ 1)),w_ 8 r_0]))))
def t25:aS:=⟨1,15,[.loc 1],
(h_ [w_ 1 N_]
(h_ [w_ 2 (i_ 0)]
(.seq (.seq (g_ [w_ 6 l_0,s_ 7 (.len .sl r_0),w_ 8 (i_ 0)])
(.block 0
(.loop t25L1)))
(h_ [v_ l_2,o_ (.call false false 52 [N_,r_0]),w_ 4 r_1]
(.seq (.seq (g_ [w_ 11 l_0,s_ 12 (.len .sl r_0),w_ 13 (i_ 0)])
(.block 2
(.loop t25L0)))
(h_ [v_ l_4,w_ 1 r_0]
.ret))))))⟩
def a26:Ann:=⟨[0,2],[],[],[],[]⟩
def t26:aS:=⟨1,2,[.loc 1],
(h_ [w_ 1 F_]
(h_ [v_ l_0,o_ (.call false false 44 [r_0]),o_ (.call false false 40 [r_1,(.fn 53)]),o_ (.len .sl r_2),o_ (.bin .gtr r_3 (i_ 16)),w_ 1 r_4]
.ret))⟩
def a27:Ann:=⟨[0,1,4],[],[],[],[]⟩
def t27:aS:=⟨2,3,[.loc 2],
(h_ [w_ 2 F_]
(h_ [v_ l_0,v_ l_1,o_ (.call false false 54 [r_0,r_1]),o_ (.bin .geq r_2 (i_ 0)),w_ 2 r_3]
.ret))⟩
def a28:Ann:=⟨[0,1,2,3,16],[1],[],[],[]⟩
def t28:aS:=⟨1,5,[.loc 2],
(h_ [o_ (.boxL 1 l_0),w_ 2 F_]
(.seq (.seq (g_ [f_ 6 l_1,d_ r_0,o_ (.call false false 22 [r_1,(.fn 23)]),v_ r_2,x_ 3 (.fieldAddr 0 l_1),x_ 3 (.load1 r_4),x_ 3 (.bin .eql r_5 (i_ 67)),x_ 3 (.mov r_6),y_ 7 (.fieldAddr 1 l_1),y_ 7 (.load1 r_8),y_ 7 (.call true false 23 [r_9]),x_ 3 (.pick r_7 gE F_),s_ 4 (.pick r_3 T_ iE)])
(.cond l_4
(h_ [w_ 2 T_]
.ret)
.skip))
(h_ [f_ 1 l_1,d_ r_0,f_ 2 l_1,d_ r_2,f_ 3 l_1,d_ r_4,o_ (.lit false Z1_ 3 [(0,r_1),(1,r_3),(2,r_5)]),f_ 6 l_1,d_ r_7,o_ (.append false 1 8 3 r_6 r_8),w_ 3 r_9]
(h_ [f_ 0 l_1,d_ r_0,o_ (.bin .eql r_1 (i_ 73)),v_ r_2,x_ 3 (.fieldAddr 0 l_1),x_ 3 (.load1 r_4),x_ 3 (.bin .eql r_5 (i_ 74)),o_ (.pick r_3 T_ r_6),v_ r_7,x_ 8 (.fieldAddr 7 l_1),x_ 8 (.load1 r_9),x_ 8 (.len .sl gE),x_ 8 (.bin .gtr iE (i_ 0)),o_ (.pick r_8 T_ kO),v_ nC,x_ 14 (.mov l_3),x_ 14 (.call false false 22 [pP,(.fn 29)]),o_ (.pick nS T_ pQ),w_ 2 xF]
.ret))))⟩
def a29:Ann:=⟨[0,2],[],[],[],[]⟩
def t29:aS:=⟨1,2,[.loc 1],
(h_ [w_ 1 F_]
(h_ [v_ l_0,c_ 30 [r_0],o_ (.un .not r_1),w_ 1 r_2]
.ret))⟩
def a30:Ann:=⟨[0,2],[],[],[],[]⟩
def t30:aS:=⟨1,2,[.loc 1],
(h_ [w_ 1 F_]
(h_ [v_ l_0,o_ (.bin .lss r_0 (i_ 25)),v_ r_1,x_ 2 (.mov l_0),x_ 2 (.bin .eql r_3 (i_ 26)),o_ (.pick r_2 T_ r_4),v_ r_5,x_ 6 (.mov l_0),x_ 6 (.bin .eql r_7 (i_ 31)),o_ (.pick r_6 T_ r_8),v_ r_9,x_ 10 (.mov l_0),x_ 10 (.bin .geq iE (i_ 32)),o_ (.pick gE T_ kO),w_ 1 nC]
.ret))⟩
def a31:Ann:=⟨[0,1,2,3,4,5,6,7,8,9,10,11,12,13,14,18,36,37,38,39,59,103,107],[11,10,1],[],[],[(5,⟨[0,0,0,4,0,16,63,127,255],[0,1,2,3,4,5,6,7,8],[]⟩),(6,⟨[0,1,0,4,3,31],[0,1,2,3,4,5],[]⟩),(10,⟨[0,1,3,7,0,16,63,127,255,255,0,1535,4095],[0,1,2,3,4,5,6,7,8,9,10],[(11,[],[12])]⟩),(12,⟨[0,1,3,7,0,16,0,64,255],[0,1,2,3,4,5,6,7],[(8,[],[])]⟩),(13,⟨[0,0,0,0,0,16,0,64,240,0,512,0,2544,8176,16371,32755,65535,131071],[0,1,2,3,4,5,6,9,10,11],[(7,[5,10,11],[]),(8,[10,11],[]),(12,[10],[]),(13,[],[14]),(15,[],[16]),(17,[],[])]⟩),(14,⟨[0,1,3,7,0,0,32,96,224,0,0,1024,3072,0,8192,31744,65023,130559,262143,524287],[0,1,2,3,4,5,6,7,8,9,10,11,13,14],[(12,[3,8,14],[]),(15,[3,8],[16]),(17,[],[18]),(19,[],[])]⟩),(22,⟨[0,0,0,0,12,28,0,0,192,448,1023,2047,4095,8191,16383],[0,1,2,3,4,5,6,7,8,9],[(10,[],[11,12,13,14])]⟩)]⟩
def t31L0:aL:=(.seq (.seq (g_ [v_ pT, s_ 22 (.bin .geq r_0 (i_ 0))])
(.cond bV3
.skip
(.exit 4)))
(.seq (.block 5
(.draw [0,1,2,3,4,5,6,7,8,9] [(10,[],[11,12,13,14])] [v_ l_6,v_ pT,v_ l_7,v_ pT,o_ (.indexAddrS 1 r_2 r_3),d_ r_4,v_ l_8,v_ pT,o_ (.indexAddrS 1 r_6 r_7),d_ r_8,o_ (.call false false 56 [r_0,r_1,r_5,r_9]),v_ gE,x_ 11 (.mov pS),o_ (.pick iE T_ kO),w_ 13 nC]))
(g_ [v_ pT,o_ (.bin .sub r_0 (i_ 1)),w_ 14 r_1])))
def t31L1:aL:=(.seq (.seq (g_ [w_ 21 pS])
(.cond aTm
.skip
(.exit 2)))
(.block 3
(h_ [w_ 13 F_]
(h_ [v_ l_5,o_ (.bin .sub r_0 (i_ 1)),w_ 14 r_1]
(.block 4
(.loop t31L0))))))
def t31L2:aL:=(.seq (g_ [s_ 19 (.bin .lss aCe aGx)])
(.seq (.cond bJu
.skip
(.exit 0))
(.seq (.block 1
(h_ [v_ aCe,o_ (.indexAddrS 8 rX aCe),o_ (.loadN 8 r_1),o_ (.allocL 10 Z8_),w_ 9 r_0,o_ (.store 8 r_3 r_2)]
(.seq (.seq (.draw [0,1,2,3,4,5,6,7,8,9,10] [(11,[],[12])] [v_ l_6,o_ (.nilCheck r_0),f_ 7 r_1,d_ r_2,f_ 5 iS,d_ r_4,o_ (.lookup (.leaf .int) (.agg Z1_) true r_3 r_5),v_ r_6,o_ (.extract 0 r_7),o_ (.extract 1 r_7),s_ 11 (.allocH 90 Z1_),o_ (.store 1 gE r_8),w_ 12 r_9])
(h_ [f_ 0 iS,d_ r_0,o_ (.bin .eql r_1 (i_ 65)),v_ r_2,y_ 3 (.mov nT),y_ 3 (.un .not r_4),s_ 20 (.pick r_3 r_5 F_)]
(.cond bJv
(.draw [0,1,2,3,4,5,6,7] [(8,[],[])] [v_ l_6,o_ (.nilCheck r_0),f_ 7 r_1,d_ r_2,f_ 5 iS,d_ r_4,v_ l_9,o_ (.build Z1_ [(0,1,r_6)]),o_ (.update (.leaf .int) r_3 r_5 r_7)])
.skip)))
(.seq (.draw [0,1,2,3,4,5,6,9,10,11] [(7,[5,10,11],[]),(8,[10,11],[]),(12,[10],[]),(13,[],[14]),(15,[],[16]),(17,[],[])] [v_ l_7,v_ l_9,v_ l_8,v_ l_9,f_ 1 l_1,d_ r_4,o_ (.loadN 8 iS),c_ 42 [r_6],o_ (.call false false 55 [r_5,r_7]),f_ 1 l_1,d_ r_9,o_ (.loadN 8 iS),c_ 43 [iE],o_ (.call false false 55 [gE,kO]),o_ (.indexAddrS 1 r_0 r_1),o_ (.store 1 nS r_8),o_ (.indexAddrS 1 r_2 r_3),o_ (.store 1 pQ nC)])
(.draw [0,1,2,3,4,5,6,7,8,9,10,11,13,14] [(12,[3,8,14],[]),(15,[3,8],[16]),(17,[],[18]),(19,[],[])] [v_ l_6,o_ (.nilCheck r_0),f_ 8 r_1,d_ r_2,v_ l_9,v_ l_6,o_ (.nilCheck r_5),f_ 9 r_6,d_ r_7,v_ l_9,f_ 1 l_1,d_ gE,o_ (.call false false 55 [iE,N_]),f_ 1 l_1,d_ nC,o_ (.call false false 55 [nS,N_]),o_ (.indexAddrS 1 r_3 r_4),o_ (.store 1 pQ kO),o_ (.indexAddrS 1 r_8 r_9),o_ (.store 1 aAs pP)])))))
(g_ [o_ (.bin .add aCe (i_ 1)),w_ 18 r_0]))))
def t31:aS:=⟨1,23,[.loc 2,.loc 3],
(h_ [o_ (.boxL 1 l_0),s_ 2 (.mov (.cst .nilp)),w_ 3 (i_ 0)]
(.seq (.seq (g_ [o_ (.loadN 7 l_1),c_ 20 [r_0],w_ 4 r_1])
(h_ [v_ l_4,s_ 15 (.bin .neq r_0 (i_ 0))]
(.cond xG
(h_ [v_ l_4,s_ 2 (.mov (.cst .nilp)),w_ 3 r_0]
.ret)
.skip)))
(h_ [f_ 6 l_1,d_ r_0,o_ (.len .sl r_1),w_ 5 r_2]
(.seq (.draw [0,1,2,3,4,5,6,7,8] [] [o_ (.loadN 7 l_1),o_ (.mkMap),v_ l_5,o_ (.mkSlice [(.sl .nil [])] 24 r_2 r_2),v_ l_5,o_ (.mkSlice [(.sl .nil [])] 24 r_4 r_4),o_ (.build [(.int .i64 0),(.int .i64 0),(.int .i64 0),(.int .i64 0),(.int .i64 0),(.bool false),(.sl .nil []),.nilm,(.sl .nil []),(.sl .nil [])] [(0,7,r_0),(7,1,r_1),(8,1,r_3),(9,1,r_5)]),o_ (.boxH 65 r_6),w_ 6 r_7])
(.seq (.draw [0,1,2,3,4,5] [] [v_ l_5,o_ (.mkSlice [(.sl .nil [])] 24 r_0 r_0),v_ l_5,o_ (.mkSlice [(.sl .nil [])] 24 r_2 r_2),w_ 7 r_1,w_ 8 r_3])
(.seq (.seq (g_ [f_ 6 l_1,s_ 16 (.load1 r_0),s_ 17 (.len .sl r_1),w_ 18 (i_ 0)])
(.block 0
(.loop t31L2)))
(.seq (.seq (g_ [w_ 13 T_])
(.block 2
(.loop t31L1)))
(h_ [v_ l_6,w_ 2 r_0,w_ 3 (i_ 0)]
.ret))))))))⟩
def a32:Ann:=⟨[0,2,4,5,6,7,8],[],[],[],[]⟩
def t32L0:aL:=(.seq (g_ [s_ 6 (.bin .lss l_5 l_4)])
(.seq (.cond l_6
.skip
(.exit 0))
(.seq (.block 1
(h_ [o_ (.indexAddrS 1 l_3 l_5),d_ r_0,w_ 2 r_1]
(g_ [v_ l_1,v_ l_2,c_ 57 [r_1],o_ (.lit false [(.sl .nil [])] 1 [(0,r_2)]),o_ (.append false 1 24 26 r_0 r_3),w_ 1 r_4])))
(g_ [o_ (.bin .add l_5 (i_ 1)),w_ 5 r_0]))))
def t32:aS:=⟨1,7,[.loc 1],
(h_ [w_ 1 N_]
(.seq (.seq (g_ [w_ 3 l_0,s_ 4 (.len .sl r_0),w_ 5 (i_ 0)])
(.block 0
(.loop t32L0)))
(h_ [v_ l_1,w_ 1 r_0]
.ret)))⟩
def a33:Ann:=⟨[0,1,2,3,4,5,6,7,8,9,10,23],[4],[],[(6,4)],[(6,⟨[0,0,0,0,14,0,63],[0,1,2,3,5],[(4,[0,5],[]),(6,[],[])]⟩)]⟩
def t33:aS:=⟨3,12,[],
(h_ [s_ 3 (.boxH 40 l_0),o_ (.boxL 4 l_1),s_ 5 (.boxH 4 l_2)]
(h_ [o_ (.mkMap),s_ 6 (.allocH 41 [.nilm]),o_ (.store 1 r_1 r_0)]
(h_ [o_ (.mkFn 58 [] [l_3,l_6,l_5]),w_ 7 r_0]
(h_ [s_ 8 (.allocH 4 Z1_),o_ (.store 1 r_0 (i_ (-1)))]
(h_ [o_ (.build Z1_ []),s_ 9 (.allocH 80 Z1_),o_ (.store 1 r_1 r_0)]
(h_ [o_ (.mkFn 61 [] [l_3,l_8,l_9]),w_ 10 r_0]
(.seq (.draw [0,1,2,3,5] [(4,[0,5],[]),(6,[],[])] [d_ l_3,o_ (.loadN 8 l_4),v_ l_7,v_ iS,o_ (.call false true 17 [r_1,r_2,r_3]),d_ l_5,o_ (.call false false 60 [r_0,r_4,r_5])])
(h_ [d_ l_8,s_ 11 (.bin .geq r_0 (i_ 0))]
(.cond iL
(g_ [d_ l_3,d_ l_8,f_ 0 l_9,d_ r_2,o_ (.build Z8_ [(0,1,(i_ 74)),(2,1,r_1),(4,1,r_3)]),d_ l_5,o_ (.call false false 60 [r_0,r_4,r_5])])
.skip)))))))))⟩
def a34:Ann:=⟨[0,1,2,3,4,5,6,7,8,9,10,12,14,21,27,28,29,30,53,66,67,68,69,78,79,80,81,102],[9,2,1],[],[],[(9,⟨[0,0,2,0,8,30,63,127,63,319,1023],[0,1,2,3,4],[(5,[],[6,7]),(8,[6],[9]),(10,[],[])]⟩),(17,⟨[0,0,3,7,15,31,63,127,255,255,1023,255,2303,255,8447,32767,65535,131071,262143],[0,1,2,3,4,5,6,7,8,9,11,12,13,14],[(10,[12,14],[]),(15,[],[16,17,18])]⟩),(18,⟨[0,0,0,6,15,31,15,79,255],[0,1,2],[(3,[],[4,5]),(6,[4],[7]),(8,[],[])]⟩),(22,⟨[0,1,0,4,0,28,63,127,255],[0,1,2,4],[(3,[1],[]),(5,[1],[6]),(7,[],[8])]⟩)]⟩
def t34L0:aL:=(.seq (g_ [s_ 26 (.bin .lss bTx bW8)])
(.seq (.cond bW9
.skip
(.exit 4))
(.seq (.block 5
(h_ [o_ (.indexAddrS 1 bW7 bTx),d_ r_0,w_ 12 r_1]
(.seq (.seq (.draw [0,1,2,3,4,5,6,7,8,9,11,12,13,14] [(10,[12,14],[]),(15,[],[16,17,18])] [v_ nT,v_ iL,o_ (.bin .eql r_0 r_1),v_ r_2,x_ 3 (.fieldAddr 0 l_9),x_ 3 (.load1 r_4),x_ 3 (.bin .eql r_5 (i_ 64)),x_ 3 (.mov r_6),y_ 7 (.mov iL),y_ 7 (.mov nT),y_ 7 (.call true false 62 [r_8,r_9]),y_ 7 (.fieldAddr 2 l_9),y_ 7 (.load1 iE),y_ 7 (.fieldAddr 1 l_9),y_ 7 (.load1 nC),y_ 7 (.call true false 62 [kO,nS]),y_ 7 (.eqAgg false [(0,.int),(1,.int)] gE pP),x_ 3 (.pick r_7 pQ F_),s_ 27 (.pick r_3 T_ xF)])
(.cond bXa
(.exit 5)
.skip))
(.draw [0,1,2] [(3,[],[4,5]),(6,[4],[7]),(8,[],[])] [v_ l_6,v_ iL,v_ nT,c_ 62 [r_1,r_2],o_ (.lookup (.agg [(0,.int),(1,.int)]) (.int .i64 0) false r_0 r_3),o_ (.bin .add r_4 (i_ 1)),o_ (.entry (.agg [(0,.int),(1,.int)]) (.int .i64 0) r_0 r_3),o_ (.extract 1 r_6),o_ (.entryStore r_0 r_7 r_5)]))))
(g_ [o_ (.bin .add bTx (i_ 1)),w_ 25 r_0]))))
def t34L1:aL:=(.seq (g_ [s_ 22 (.bin .lss aTm bJv)])
(.seq (.cond bV3
.skip
(.exit 2))
(.seq (.block 3
(h_ [o_ (.indexAddrS 1 bJu aTm),d_ r_0,w_ 11 r_1]
(h_ [v_ l_4,v_ l_8,o_ (.indexAddrS 1 r_0 r_1),d_ r_2,v_ iS,o_ (.lit false [(.sl .nil [])] 2 [(0,r_3),(1,r_4)]),s_ 23 (.call false false 47 [r_5]),s_ 24 (.len .sl r_6),w_ 25 (i_ 0)]
(.block 4
(.loop t34L0)))))
(g_ [o_ (.bin .add aTm (i_ 1)),w_ 21 r_0]))))
def t34L2:aL:=(.seq (g_ [s_ 17 (.bin .lss rX xG)])
(.seq (.cond aGx
.skip
(.exit 0))
(.seq (.block 1
(h_ [v_ rX,o_ (.indexAddrS 8 pT rX),o_ (.loadN 8 r_1),o_ (.allocL 9 Z8_),w_ 8 r_0,o_ (.store 8 r_3 r_2)]
(.seq (.seq (g_ [f_ 0 l_9,d_ r_0,o_ (.bin .eql r_1 (i_ 64)),v_ r_2,y_ 3 (.fieldAddr 2 l_9),y_ 3 (.load1 r_4),y_ 3 (.fieldAddr 1 l_9),y_ 3 (.load1 r_6),y_ 3 (.bin .neq r_5 r_7),o_ (.pick r_3 r_8 F_),v_ r_9,y_ 10 (.fieldAddr 2 l_9),y_ 10 (.load1 iE),y_ 10 (.bin .neq kO (i_ 0)),o_ (.pick gE nC F_),v_ nS,y_ 15 (.fieldAddr 1 l_9),y_ 15 (.load1 pQ),y_ 15 (.bin .neq xF (i_ 0)),s_ 18 (.pick pP aAs F_)])
(.cond aCe
(.draw [0,1,2,3,4] [(5,[],[6,7]),(8,[6],[9]),(10,[],[])] [v_ l_7,f_ 2 l_9,d_ r_1,f_ 1 l_9,d_ r_3,c_ 62 [r_2,r_4],o_ (.lookup (.agg [(0,.int),(1,.int)]) (.int .i64 0) false r_0 r_5),o_ (.bin .add r_6 (i_ 1)),o_ (.entry (.agg [(0,.int),(1,.int)]) (.int .i64 0) r_0 r_5),o_ (.extract 1 r_8),o_ (.entryStore r_0 r_9 r_7)])
.skip))
(h_ [o_ (.loadN 8 l_9),c_ 43 [r_0],w_ 10 r_1]
(h_ [w_ 19 iS,s_ 20 (.len .sl r_0),w_ 21 (i_ 0)]
(.block 2
(.loop t34L1)))))))
(g_ [o_ (.bin .add rX (i_ 1)),w_ 16 r_0]))))
def t34:aS:=⟨1,28,[.cell 2 3 true,.loc 3],
(h_ [o_ (.boxL 1 l_0),o_ (.allocL 2 [(.int .i64 0),(.sl .nil []),(.sl .nil [])]),w_ 3 (i_ 0)]
(h_ [o_ (.loadN 7 l_1),c_ 13 [r_0],v_ r_1,o_ (.extract 0 r_2),o_ (.extract 1 r_2),w_ 4 r_3,w_ 5 r_4]
(.seq (.seq (g_ [v_ l_5,s_ 13 (.bin .neq r_0 (i_ 0))])
(.cond pS
(h_ [o_ (.build [(.int .i64 0),(.sl .nil []),(.sl .nil [])] []),v_ l_5,o_ (.store 3 l_2 r_0),w_ 3 r_1]
.ret)
.skip))
(h_ [o_ (.mkMap),o_ (.mkMap),w_ 6 r_0,w_ 7 r_1]
(.seq (.seq (g_ [f_ 6 l_1,s_ 14 (.load1 r_0),s_ 15 (.len .sl r_1),w_ 16 (i_ 0)])
(.block 0
(.loop t34L2)))
(.seq (.draw [0,1,2,4] [(3,[1],[]),(5,[1],[6]),(7,[],[8])] [f_ 1 l_1,d_ r_0,v_ l_6,o_ (.call false false 63 [r_2]),v_ l_7,o_ (.call false false 63 [r_4]),o_ (.build [(.int .i64 0),(.sl .nil []),(.sl .nil [])] [(0,1,r_1),(1,1,r_3),(2,1,r_5)]),o_ (.store 3 l_2 r_6),w_ 3 (i_ 0)])
.ret))))))⟩
def a35:Ann:=⟨[0,2,3,4,5,18,19,20,21,26,27,36],[5,3,2],[],[],[]⟩
def t35L0:aL:=(.seq (g_ [s_ 8 (.bin .lss l_7 l_6)])
(.seq (.cond l_8
.skip
(.exit 0))
(.seq (.block 1
(h_ [v_ l_7,o_ (.indexAddrS 8 l_5 l_7),o_ (.loadN 8 r_1),o_ (.allocL 4 Z8_),w_ 3 r_0,o_ (.store 8 r_3 r_2)]
(h_ [f_ 0 l_4,s_ 9 (.load1 r_0)]
(.block 2
(h_ [o_ (.bin .eql l_9 (i_ 73)),w_ 10 r_0]
(.cond iS
(g_ [f_ 6 l_2,d_ r_0,v_ l_3,f_ 1 l_4,d_ r_3,o_ (.build Z8_ [(0,1,(i_ 69)),(1,1,r_4)]),o_ (.indexAddrS 8 r_1 r_2),o_ (.store 8 r_6 r_5)])
(h_ [o_ (.bin .eql l_9 (i_ 74)),w_ 11 r_0]
(.cond iL
(g_ [f_ 6 l_2,d_ r_0,v_ l_3,f_ 2 l_4,d_ r_3,o_ (.build Z8_ [(0,1,(i_ 64)),(2,1,r_4)]),o_ (.indexAddrS 8 r_1 r_2),o_ (.store 8 r_6 r_5)])
.skip))))))))
(g_ [o_ (.bin .add l_7 (i_ 1)),w_ 7 r_0]))))
def t35:aS:=⟨1,12,[.cell 1 7 true],
(h_ [o_ (.allocL 1 Z7_)]
(h_ [v_ l_0,o_ (.nilCheck r_0),f_ 7 r_1,o_ (.loadN 7 r_2),o_ (.allocL 2 Z7_),o_ (.store 7 r_4 r_3)]
(h_ [v_ l_0,o_ (.nilCheck r_0),f_ 7 r_1,f_ 6 r_2,d_ r_3,o_ (.call false false 64 [r_4]),f_ 6 l_2,o_ (.store 1 r_6 r_5)]
(.seq (.seq (g_ [f_ 6 l_2,s_ 5 (.load1 r_0),s_ 6 (.len .sl r_1),w_ 7 (i_ 0)])
(.block 0
(.loop t35L0)))
(h_ [o_ (.loadN 7 l_2),o_ (.store 7 l_1 r_0)]
.ret)))))⟩
def a36:Ann:=⟨[0,1,2,3,4,6,8,11,16,17,28,29,30,31,45,46,47],[1],[],[],[(17,⟨[0,0,0,6,15],[0,1,2],[(3,[0],[]),(4,[],[])]⟩)]⟩
def t36L0:aL:=(.seq (g_ [s_ 13 (.bin .lss nT iL)])
(.seq (.cond pS
.skip
(.exit 2))
(.seq (.block 3
(h_ [o_ (.indexAddrS 1 iS nT),d_ r_0,w_ 5 r_1]
(g_ [d_ l_3,o_ (.nilCheck r_0),f_ 6 r_1,d_ r_2,v_ l_5,v_ l_4,o_ (.indexAddrS 1 r_3 r_4),o_ (.store 1 r_6 r_5)])))
(g_ [o_ (.bin .add nT (i_ 1)),w_ 12 r_0]))))
def t36L1:aL:=(.seq (g_ [s_ 9 (.bin .lss l_8 (i_ 32))])
(.seq (.cond l_9
.skip
(.exit 0))
(.seq (.block 1
(h_ [v_ l_8,w_ 4 r_0]
(h_ [d_ l_3,o_ (.nilCheck r_0),f_ 6 r_1,d_ r_2,v_ l_4,v_ l_4,o_ (.indexAddrS 1 r_3 r_4),o_ (.store 1 r_6 r_5)]
(h_ [d_ l_3,v_ l_4,s_ 10 (.call false false 68 [r_0,r_1]),s_ 11 (.len .sl r_2),w_ 12 (i_ 0)]
(.block 2
(.loop t36L0))))))
(g_ [o_ (.bin .add l_8 (i_ 1)),w_ 8 r_0]))))
def t36:aS:=⟨1,17,[.loc 2],
(h_ [o_ (.boxL 1 l_0),w_ 2 N_]
(.seq (.seq (g_ [o_ (.loadN 3 l_1),c_ 65 [r_0],s_ 7 (.un .not r_1)])
(.cond l_7
(h_ [w_ 2 N_]
.ret)
.skip))
(h_ [o_ (.loadN 3 l_1),o_ (.call false false 66 [r_0]),s_ 3 (.allocH 102 [.nilp]),o_ (.store 1 r_2 r_1)]
(h_ [d_ l_3,o_ (.call false false 67 [r_0])]
(.seq (.seq (g_ [w_ 8 (i_ 0)])
(.block 0
(.loop t36L1)))
(.seq (.seq (g_ [d_ l_3,o_ (.call false false 70 [r_0]),s_ 14 (.call false false 69 [r_1])])
(.block 4
(.rangeFunc pT [15,16]
(g_ [w_ 6 rX])
(.block 5
(.draw [0,1,2] [(3,[0],[]),(4,[],[])] [d_ l_3,d_ l_3,v_ l_6,o_ (.call false false 68 [r_1,r_2]),o_ (.call false false 71 [r_0,r_3])])))))
(h_ [d_ l_3,o_ (.nilCheck r_0),f_ 6 r_1,d_ r_2,w_ 2 r_3]
.ret)))))))⟩
def a37:Ann:=⟨[0,2,3,4,5,6,7,8,13],[],[(5,3)],[],[]⟩
def t37L0:aL:=(.seq (g_ [s_ 7 (.bin .lss l_6 l_5)])
(.seq (.cond l_7
.skip
(.exit 0))
(.seq (.block 1
(h_ [v_ l_6,o_ (.indexAddrS 1 l_4 l_6),d_ r_1,w_ 2 r_0,w_ 3 r_2]
(h_ [v_ l_3,s_ 8 (.bin .lss r_0 (i_ 0))]
(.cond l_8
(g_ [v_ l_1,v_ l_2,o_ (.lit false Z1_ 1 [(0,r_1)]),o_ (.append true 1 8 3 r_0 r_2),w_ 1 r_3])
.skip))))
(g_ [o_ (.bin .add l_6 (i_ 1)),w_ 6 r_0]))))
def t37:aS:=⟨1,9,[.loc 1],
(h_ [w_ 1 N_]
(.seq (.seq (g_ [w_ 4 l_0,s_ 5 (.len .sl r_0),w_ 6 (i_ 0)])
(.block 0
(.loop t37L0)))
(h_ [v_ l_1,w_ 1 r_0]
.ret)))⟩
def a38:Ann:=⟨[0,1,3],[],[],[],[]⟩
def t38:aS:=⟨2,3,[.loc 2],
(h_ [w_ 2 F_]
(h_ [v_ l_0,d_ l_1,o_ (.nilCheck r_1),f_ 0 r_2,f_ 1 r_3,d_ r_4,o_ (.bin .geq r_0 r_5),w_ 2 r_6]
.ret))⟩
def a39:Ann:=⟨[0,1,5,6,7,8,9,10,11,24],[6],[],[],[(5,⟨[0,1,3,7,0,0,32,96,224,480,992,2047],[0,1,2,3,4,5,6,7,8,9,10],[(11,[],[])]⟩)]⟩
def t39L0:aL:=(.seq (g_ [s_ 8 (.bin .lss l_7 l_6)])
(.seq (.cond l_8
.skip
(.exit 0))
(.seq (.block 1
(h_ [o_ (.indexAddrS 1 l_5 l_7),d_ r_0,w_ 2 r_1]
(h_ [v_ l_0,o_ (.nilCheck r_0),f_ 15 r_1,d_ r_2,v_ l_2,o_ (.lookup (.leaf .int) (.agg Z1_) true r_3 r_4),v_ r_5,o_ (.extract 0 r_6),o_ (.extract 1 r_6),o_ (.allocL 3 Z1_),o_ (.store 1 r_9 r_7),w_ 4 r_8]
(h_ [v_ l_4,s_ 9 (.un .not r_0)]
(.cond l_9
(.draw [0,1,2,3,4,5,6,7,8,9,10] [(11,[],[])] [v_ l_0,o_ (.nilCheck r_0),f_ 15 r_1,d_ r_2,v_ l_2,v_ l_0,o_ (.nilCheck r_5),f_ 15 r_6,d_ r_7,o_ (.len .mp r_8),o_ (.build Z1_ [(0,1,r_9)]),o_ (.update (.leaf .int) r_3 r_4 gE)])
.skip)))))
(g_ [o_ (.bin .add l_7 (i_ 1)),w_ 7 r_0]))))
def t39:aS:=⟨2,10,[],
(h_ [w_ 5 l_1,s_ 6 (.len .sl r_0),w_ 7 (i_ 0)]
(.block 0
(.loop t39L0)))⟩
def a40:Ann:=⟨[0,1,4,5,6,7,12,19,29],[],[],[],[]⟩
def t40L0:aL:=(.seq (.seq (g_ [v_ l_4,v_ l_0,o_ (.len .sl r_1),s_ 7 (.bin .lss r_0 r_2)])
(.cond l_7
.skip
(.exit 0)))
(.seq (.block 1
(h_ [v_ l_0,v_ l_4,o_ (.indexAddrS 1 r_0 r_1),d_ r_2,w_ 5 r_3]
(h_ [v_ l_1,v_ l_5,o_ (.callv r_0 [r_1]),s_ 8 (.un .not r_2)]
(.cond l_8
(h_ [v_ l_0,v_ l_3,v_ l_5,o_ (.indexAddrS 1 r_0 r_1),o_ (.store 1 r_3 r_2)]
(g_ [v_ l_3,o_ (.bin .add r_0 (i_ 1)),w_ 3 r_1]))
.skip))))
(g_ [v_ l_4,o_ (.bin .add r_0 (i_ 1)),w_ 4 r_1])))
def t40:aS:=⟨2,9,[.loc 2],
(h_ [w_ 2 N_]
(h_ [v_ l_0,v_ l_1,o_ (.call false false 50 [r_0,r_1]),w_ 3 r_2]
(.seq (.seq (g_ [v_ l_3,s_ 6 (.bin .eql r_0 (i_ (-1)))])
(.cond l_6
(h_ [v_ l_0,w_ 2 r_0]
.ret)
.skip))
(.seq (.seq (g_ [v_ l_3,o_ (.bin .add r_0 (i_ 1)),w_ 4 r_1])
(.block 0
(.loop t40L0)))
(h_ [v_ l_0,v_ l_3,o_ (.slice (.sl 1) r_0 (some r_1) none none),o_ (.clear Z1_ r_2)]
(h_ [v_ l_0,v_ l_3,o_ (.slice (.sl 1) r_0 none (some r_1) none),w_ 2 r_2]
.ret))))))⟩
def a41:Ann:=⟨[0,1,3],[],[],[],[]⟩
def t41:aS:=⟨2,3,[.loc 2],
(h_ [w_ 2 F_]
(h_ [v_ l_0,d_ l_1,o_ (.nilCheck r_1),f_ 0 r_2,f_ 1 r_3,d_ r_4,o_ (.bin .geq r_0 r_5),w_ 2 r_6]
.ret))⟩
def a42:Ann:=⟨[0,1,2,3,24,48],[1],[(4,4),(8,2),(12,4)],[],[]⟩
def t42:aS:=⟨1,6,[.loc 2],
(h_ [o_ (.boxL 1 l_0),w_ 2 N_]
(.seq (.block 0
(.seq (.seq (g_ [f_ 0 l_1,d_ r_0,o_ (.bin .geq r_1 (i_ 1)),v_ r_2,y_ 3 (.fieldAddr 0 l_1),y_ 3 (.load1 r_4),y_ 3 (.bin .leq r_5 (i_ 14)),o_ (.pick r_3 r_6 F_),w_ 3 r_7])
(.cond l_3
.skip
(h_ [f_ 0 l_1,d_ r_0,o_ (.bin .eql r_1 (i_ 25)),w_ 3 r_2]
(.cond l_3
.skip
(g_ [f_ 0 l_1,d_ r_0,c_ 72 [r_1],w_ 3 r_2])))))
(.cond l_3
(h_ [f_ 2 l_1,d_ r_0,f_ 3 l_1,d_ r_2,o_ (.lit true Z1_ 2 [(0,r_1),(1,r_3)]),o_ (.call false false 73 [r_4]),w_ 2 r_5]
.ret)
(.seq (.seq (g_ [f_ 0 l_1,d_ r_0,o_ (.bin .geq r_1 (i_ 15)),v_ r_2,y_ 3 (.fieldAddr 0 l_1),y_ 3 (.load1 r_4),y_ 3 (.bin .leq r_5 (i_ 24)),o_ (.pick r_3 r_6 F_),v_ r_7,y_ 8 (.fieldAddr 0 l_1),y_ 8 (.load1 r_9),y_ 8 (.bin .neq gE (i_ 23)),o_ (.pick r_8 iE F_),w_ 4 kO])
(.cond l_4
.skip
(h_ [f_ 0 l_1,d_ r_0,o_ (.bin .eql r_1 (i_ 64)),w_ 4 r_2]
(.cond l_4
.skip
(g_ [f_ 0 l_1,d_ r_0,o_ (.bin .eql r_1 (i_ 74)),w_ 4 r_2])))))
(.cond l_4
(h_ [f_ 2 l_1,d_ r_0,o_ (.lit true Z1_ 1 [(0,r_1)]),o_ (.call false false 73 [r_2]),w_ 2 r_3]
.ret)
(.seq (.seq (g_ [f_ 0 l_1,d_ r_0,o_ (.bin .eql r_1 (i_ 67)),w_ 5 r_2])
(.cond l_5
.skip
(h_ [f_ 0 l_1,d_ r_0,o_ (.bin .eql r_1 (i_ 68)),w_ 5 r_2]
(.cond l_5
.skip
(g_ [f_ 0 l_1,d_ r_0,o_ (.bin .eql r_1 (i_ 72)),w_ 5 r_2])))))
(.cond l_5
(h_ [f_ 6 l_1,d_ r_0,o_ (.call false false 44 [r_1]),o_ (.lit false Z1_ 1 [(0,(i_ 26))]),o_ (.append true 1 8 3 r_2 r_3),o_ (.call false false 73 [r_4]),w_ 2 r_5]
.ret)
.skip)))))))
(h_ [w_ 2 N_]
.ret)))⟩
def a43:Ann:=⟨[0,1,2,3,4,5,18,37,44,45],[1],[(2,2),(6,2),(8,2)],[],[]⟩
def t43L0:aL:=(.seq (g_ [s_ 9 (.bin .lss l_8 (i_ 25))])
(.seq (.cond l_9
.skip
(.exit 1))
(.seq (.block 2
(h_ [v_ l_8,w_ 4 r_0]
(g_ [v_ l_3,v_ l_4,o_ (.bin .add r_1 (i_ 1)),o_ (.lit false Z1_ 1 [(0,r_2)]),o_ (.append false 1 8 3 r_0 r_3),w_ 3 r_4])))
(g_ [o_ (.bin .add l_8 (i_ 1)),w_ 8 r_0]))))
def t43:aS:=⟨1,10,[.loc 2],
(h_ [o_ (.boxL 1 l_0),w_ 2 N_]
(.seq (.block 0
(h_ [f_ 0 l_1,d_ r_0,o_ (.bin .geq r_1 (i_ 1)),v_ r_2,y_ 3 (.fieldAddr 0 l_1),y_ 3 (.load1 r_4),y_ 3 (.bin .leq r_5 (i_ 24)),o_ (.pick r_3 r_6 F_),w_ 5 r_7]
(.cond l_5
(h_ [f_ 1 l_1,d_ r_0,o_ (.lit true Z1_ 1 [(0,r_1)]),o_ (.call false false 73 [r_2]),w_ 2 r_3]
.ret)
(.seq (.seq (g_ [f_ 0 l_1,d_ r_0,o_ (.bin .eql r_1 (i_ 64)),w_ 6 r_2])
(.cond l_6
.skip
(h_ [f_ 0 l_1,d_ r_0,o_ (.bin .geq r_1 (i_ 69)),v_ r_2,y_ 3 (.fieldAddr 0 l_1),y_ 3 (.load1 r_4),y_ 3 (.bin .leq r_5 (i_ 71)),o_ (.pick r_3 r_6 F_),w_ 6 r_7]
(.cond l_6
.skip
(g_ [f_ 0 l_1,d_ r_0,o_ (.bin .eql r_1 (i_ 73)),w_ 6 r_2])))))
(.cond l_6
(h_ [f_ 1 l_1,d_ r_0,o_ (.lit true Z1_ 1 [(0,r_1)]),o_ (.call false false 73 [r_2]),w_ 2 r_3]
.ret)
(h_ [f_ 0 l_1,d_ r_0,o_ (.bin .eql r_1 (i_ 67)),w_ 7 r_2]
(.cond l_7
(h_ [f_ 1 l_1,d_ r_0,o_ (.lit true Z1_ 3 [(0,r_1),(1,(i_ 26)),(2,(i_ 31))]),w_ 3 r_2]
(.seq (.seq (g_ [w_ 8 (i_ 0)])
(.block 1
(.loop t43L0)))
(h_ [v_ l_3,o_ (.call false false 73 [r_0]),w_ 2 r_1]
.ret)))
.skip)))))))
(h_ [w_ 2 N_]
.ret)))⟩
def a44:Ann:=⟨[0,2,4],[],[(3,2)],[],[]⟩
def t44:aS:=⟨1,3,[.loc 1],
(h_ [w_ 1 N_]
(.seq (.seq (g_ [v_ l_0,s_ 2 (.eqB false .sl r_0 N_)])
(.cond l_2
(h_ [w_ 1 N_]
.ret)
.skip))
(h_ [o_ (.lit false Z1_ 0 []),v_ l_0,o_ (.append true 1 8 3 r_0 r_1),w_ 1 r_2]
.ret)))⟩
def a45:Ann:=⟨[0,1,4],[],[],[],[]⟩
def t45:aS:=⟨2,3,[.loc 2],
(h_ [w_ 2 F_]
(h_ [v_ l_0,v_ l_1,c_ 74 [r_0,r_1],o_ (.bin .geq r_2 (i_ 0)),w_ 2 r_3]
.ret))⟩
def a47:Ann:=⟨[0,2,3,5,6,8,9,10,11,12,20,25,26,27,28],[],[],[],[]⟩
def t47L0:aL:=(.seq (g_ [s_ 14 (.bin .lss pS nT)])
(.seq (.cond pT
.skip
(.exit 2))
(.seq (.block 3
(h_ [o_ (.indexAddrS 1 iL pS),d_ r_0,w_ 5 r_1]
(g_ [v_ l_4,v_ l_5,o_ (.append false 1 8 3 r_0 r_1),w_ 4 r_2])))
(g_ [o_ (.bin .add pS (i_ 1)),w_ 13 r_0]))))
def t47L1:aL:=(.seq (g_ [s_ 9 (.bin .lss l_8 l_7)])
(.seq (.cond l_9
.skip
(.exit 0))
(.seq (.block 1
(h_ [o_ (.indexAddrS 1 l_6 l_8),d_ r_0,w_ 3 r_1]
(h_ [v_ l_2,v_ l_3,o_ (.len .sl r_1),o_ (.bin .add r_0 r_2),w_ 2 r_3]
(h_ [v_ l_2,s_ 10 (.bin .lss r_0 (i_ 0))]
(.cond iS
(g_ [o_ (.bad),o_ (.bad)])
.skip)))))
(g_ [o_ (.bin .add l_8 (i_ 1)),w_ 8 r_0]))))
def t47:aS:=⟨1,15,[.loc 1],
(h_ [w_ 1 N_]
(h_ [w_ 2 (i_ 0)]
(.seq (.seq (g_ [w_ 6 l_0,s_ 7 (.len .sl r_0),w_ 8 (i_ 0)])
(.block 0
(.loop t47L1)))
(h_ [v_ l_2,o_ (.call false false 77 [N_,r_0]),w_ 4 r_1]
(.seq (.seq (g_ [w_ 11 l_0,s_ 12 (.len .sl r_0),w_ 13 (i_ 0)])
(.block 2
(.loop t47L0)))
(h_ [v_ l_4,w_ 1 r_0]
.ret))))))⟩
def a48:Ann:=⟨[0,1,2],[1],[],[],[]⟩
def t48:aS:=⟨1,3,[.loc 2],
(h_ [o_ (.boxL 1 l_0),w_ 2 F_]
(h_ [o_ (.loadN 8 l_1),c_ 78 [r_0],v_ r_1,x_ 2 (.fieldAddr 0 l_1),x_ 2 (.load1 r_3),x_ 2 (.bin .geq r_4 (i_ 26)),x_ 2 (.mov r_5),y_ 6 (.fieldAddr 0 l_1),y_ 6 (.load1 r_7),y_ 6 (.bin .leq r_8 (i_ 31)),x_ 2 (.pick r_6 r_9 F_),o_ (.pick r_2 T_ gE),v_ iE,x_ 12 (.fieldAddr 0 l_1),x_ 12 (.load1 nC),x_ 12 (.bin .geq nS (i_ 64)),x_ 12 (.mov pP),y_ 16 (.fieldAddr 0 l_1),y_ 16 (.load1 xF),y_ 16 (.bin .leq aAs (i_ 72)),x_ 12 (.pick pQ aF0 F_),o_ (.pick kO T_ aF1),w_ 2 aF2]
.ret))⟩
def a49:Ann:=⟨[0,1,3],[],[],[],[]⟩
def t49:aS:=⟨2,3,[.loc 2],
(h_ [w_ 2 F_]
(h_ [v_ l_0,o_ (.bin .lss r_0 (i_ 0)),v_ r_1,x_ 2 (.mov l_0),x_ 2 (.fieldAddr 1 l_1),x_ 2 (.load1 r_4),x_ 2 (.bin .geq r_3 r_5),o_ (.pick r_2 T_ r_6),w_ 2 r_7]
.ret))⟩
def a50:Ann:=⟨[0,1,4,5,7,8,9,16],[],[],[],[]⟩
def t50L0:aL:=(.seq (g_ [s_ 6 (.bin .lss l_5 l_4)])
(.seq (.cond l_6
.skip
(.exit 0))
(.seq (.block 1
(h_ [v_ l_5,w_ 3 r_0]
(h_ [v_ l_1,v_ l_0,v_ l_3,o_ (.indexAddrS 1 r_1 r_2),d_ r_3,s_ 7 (.callv r_0 [r_4])]
(.cond l_7
(h_ [v_ l_3,w_ 2 r_0]
.ret)
.skip))))
(g_ [o_ (.bin .add l_5 (i_ 1)),w_ 5 r_0]))))
def t50:aS:=⟨2,8,[.loc 2],
(h_ [w_ 2 (i_ 0)]
(.seq (.seq (g_ [v_ l_0,s_ 4 (.len .sl r_0),w_ 5 (i_ 0)])
(.block 0
(.loop t50L0)))
(h_ [s_ 2 (.mov (i_ (-1)))]
.ret)))⟩
def a51:Ann:=⟨[0,1,4,5,7,8,9,16],[],[],[],[]⟩
def t51L0:aL:=(.seq (g_ [s_ 6 (.bin .lss l_5 l_4)])
(.seq (.cond l_6
.skip
(.exit 0))
(.seq (.block 1
(h_ [v_ l_5,w_ 3 r_0]
(h_ [v_ l_1,v_ l_0,v_ l_3,o_ (.indexAddrS 1 r_1 r_2),d_ r_3,s_ 7 (.callv r_0 [r_4])]
(.cond l_7
(h_ [v_ l_3,w_ 2 r_0]
.ret)
.skip))))
(g_ [o_ (.bin .add l_5 (i_ 1)),w_ 5 r_0]))))
def t51:aS:=⟨2,8,[.loc 2],
(h_ [w_ 2 (i_ 0)]
(.seq (.seq (g_ [v_ l_0,s_ 4 (.len .sl r_0),w_ 5 (i_ 0)])
(.block 0
(.loop t51L0)))
(h_ [s_ 2 (.mov (i_ (-1)))]
.ret)))⟩
def a52:Ann:=⟨[0,1,4,6,16],[],[],[],[]⟩
def t52:aS:=⟨2,5,[.loc 2],
(h_ [w_ 2 N_]
(.seq (.seq (g_ [v_ l_1,s_ 3 (.bin .lss r_0 (i_ 0))])
(.cond l_3
(g_ [o_ (.bad),o_ (.bad)])
.skip))
(.seq (.seq (g_ [v_ l_1,v_ l_0,o_ (.cap r_1),v_ l_0,o_ (.len .sl r_3),o_ (.bin .sub r_2 r_4),o_ (.bin .sub r_0 r_5),w_ 1 r_6])
(h_ [v_ l_1,s_ 4 (.bin .gtr r_0 (i_ 0))]
(.cond l_4
(g_ [v_ l_0,v_ l_0,o_ (.cap r_1),o_ (.slice (.sl 1) r_0 none (some r_2) none),v_ l_1,o_ (.grow 1 24 26 r_3 r_4),v_ l_0,o_ (.len .sl r_6),o_ (.slice (.sl 1) r_5 none (some r_7) none),w_ 0 r_8])
.skip)))
(h_ [v_ l_0,w_ 2 r_0]
.ret))))⟩
def a53:Ann:=⟨[0,2],[],[],[],[]⟩
def t53:aS:=⟨1,2,[.loc 1],
(h_ [w_ 1 F_]
(h_ [v_ l_0,o_ (.bin .gtr r_0 (i_ 24)),w_ 1 r_1]
.ret))⟩
def a54:Ann:=⟨[0,1,4,5,7,8,9,16],[],[],[],[]⟩
def t54L0:aL:=(.seq (g_ [s_ 6 (.bin .lss l_5 l_4)])
(.seq (.cond l_6
.skip
(.exit 0))
(.seq (.block 1
(h_ [v_ l_5,w_ 3 r_0]
(h_ [v_ l_1,v_ l_0,v_ l_3,o_ (.indexAddrS 8 r_1 r_2),o_ (.loadN 8 r_3),s_ 7 (.callv r_0 [r_4])]
(.cond l_7
(h_ [v_ l_3,w_ 2 r_0]
.ret)
.skip))))
(g_ [o_ (.bin .add l_5 (i_ 1)),w_ 5 r_0]))))
def t54:aS:=⟨2,8,[.loc 2],
(h_ [w_ 2 (i_ 0)]
(.seq (.seq (g_ [v_ l_0,s_ 4 (.len .sl r_0),w_ 5 (i_ 0)])
(.block 0
(.loop t54L0)))
(h_ [s_ 2 (.mov (i_ (-1)))]
.ret)))⟩
def a55:Ann:=⟨[0,1,4,5,7,13,14,15,16,21],[],[],[],[(6,⟨[0,0,2,7,15,0,32,96,255,511,1023],[0,1,2,3,4,5,6,7,8,9],[(10,[],[])]⟩)]⟩
def t55L0:aL:=(.seq (g_ [s_ 8 (.bin .lss l_7 l_6)])
(.seq (.cond l_8
.skip
(.exit 0))
(.seq (.block 1
(h_ [o_ (.indexAddrS 1 l_5 l_7),d_ r_0,w_ 4 r_1]
(h_ [v_ l_4,v_ l_0,s_ 9 (.bin .lss r_0 r_1)]
(.cond l_9
(.draw [0,1,2,3,4,5,6,7,8,9] [(10,[],[])] [v_ l_3,v_ l_4,o_ (.bin .quo r_1 (i_ 64)),o_ (.indexAddrS 1 r_0 r_2),d_ r_3,v_ l_4,o_ (.bin .rem r_5 (i_ 64)),o_ (.bin .shl (.cst (.int .u64 1)) r_6),o_ (.bin .or r_4 r_7),o_ (.indexAddrS 1 r_0 r_2),o_ (.store 1 r_9 r_8)])
.skip))))
(g_ [o_ (.bin .add l_7 (i_ 1)),w_ 7 r_0]))))
def t55:aS:=⟨2,10,[.loc 2],
(h_ [w_ 2 N_]
(h_ [v_ l_0,o_ (.bin .add r_0 (i_ 64)),o_ (.bin .sub r_1 (i_ 1)),o_ (.bin .quo r_2 (i_ 64)),o_ (.mkSlice [(.int .u64 0)] 8 r_3 r_3),w_ 3 r_4]
(.seq (.seq (g_ [w_ 5 l_1,s_ 6 (.len .sl r_0),w_ 7 (i_ 0)])
(.block 0
(.loop t55L0)))
(h_ [v_ l_3,w_ 2 r_0]
.ret))))⟩
def a56:Ann:=⟨[0,1,2,3,4,8,9,10,11,12,13,14,23,24,26,27,28,54,55,56],[],[],[],[(7,⟨[0,0,3,7,0,16,48,112,0,496,1008,0,4080,8176,16383,32767,65535],[0,1,2,3,4,5,6,7,8,9,10,11,12,13,14,15],[(16,[],[])]⟩),(13,⟨[0,0,0,0,12,28,0,0,192,448,0,0,3072,7168,16320,32764,65535,131071],[0,1,2,3,4,5,6,7,8,9,10,11,12,13,14,15,16],[(17,[],[])]⟩),(16,⟨[0,1,3,7,0,0,32,96,224,0,0,0,1535,5631,16383,32767],[0,1,2,3,4,5,6,7,8,9,10,11,12],[(13,[11],[14]),(15,[],[])]⟩)]⟩
def t56L0:aL:=(.seq (g_ [s_ 19 (.bin .lss aCe aGx)])
(.seq (.cond bJu
.skip
(.exit 4))
(.seq (.block 5
(h_ [v_ aCe,w_ 10 r_0]
(.draw [0,1,2,3,4,5,6,7,8,9,10,11,12,13,14,15,16] [(17,[],[])] [v_ l_9,v_ iS,v_ l_2,v_ iS,o_ (.indexAddrS 1 r_2 r_3),d_ r_4,d_ l_6,v_ iS,o_ (.indexAddrS 1 r_6 r_7),d_ r_8,v_ l_3,v_ iS,o_ (.indexAddrS 1 gE iE),d_ kO,o_ (.bin .andNot r_9 nC),o_ (.bin .or r_5 nS),o_ (.indexAddrS 1 r_0 r_1),o_ (.store 1 pQ pP)])))
(g_ [o_ (.bin .add aCe (i_ 1)),w_ 18 r_0]))))
def t56L1:aL:=(.seq (g_ [s_ 16 (.bin .lss xG pT)])
(.seq (.cond rX
.skip
(.exit 2))
(.seq (.block 3
(h_ [v_ xG,w_ 8 r_0]
(.draw [0,1,2,3,4,5,6,7,8,9,10,11,12,13,14,15] [(16,[],[])] [d_ l_6,v_ l_8,o_ (.indexAddrS 1 r_0 r_1),d_ r_2,d_ l_4,o_ (.nilCheck r_4),f_ 8 r_5,d_ r_6,v_ l_7,o_ (.indexAddrS 1 r_7 r_8),d_ r_9,v_ l_8,o_ (.indexAddrS 1 gE iE),d_ kO,o_ (.bin .or r_3 nC),o_ (.indexAddrS 1 r_0 r_1),o_ (.store 1 pP nS)])))
(g_ [o_ (.bin .add xG (i_ 1)),w_ 15 r_0]))))
def t56:aS:=⟨4,20,[.loc 5],
(h_ [s_ 4 (.boxH 58 l_0),w_ 5 F_]
(h_ [d_ l_4,o_ (.nilCheck r_0),f_ 0 r_1,f_ 1 r_2,d_ r_3,o_ (.call false false 55 [r_4,N_]),s_ 6 (.allocH 93 [(.sl .nil [])]),o_ (.store 1 r_6 r_5)]
(.seq (.seq (g_ [d_ l_4,v_ l_1,s_ 12 (.call false false 79 [r_0,r_1])])
(.block 0
(.rangeFunc nT [13]
(g_ [w_ 7 pS])
(.block 1
(h_ [d_ l_6,s_ 14 (.len .sl r_0),w_ 15 (i_ 0)]
(.block 2
(.loop t56L1)))))))
(h_ [d_ l_4,o_ (.nilCheck r_0),f_ 0 r_1,f_ 1 r_2,d_ r_3,o_ (.call false false 55 [r_4,N_]),w_ 9 r_5]
(.seq (.seq (g_ [v_ l_9,s_ 17 (.len .sl r_0),w_ 18 (i_ 0)])
(.block 4
(.loop t56L0)))
(h_ [v_ l_9,d_ l_4,o_ (.nilCheck r_1),f_ 8 r_2,d_ r_3,v_ l_1,o_ (.indexAddrS 1 r_4 r_5),d_ r_6,o_ (.call false false 80 [r_0,r_7]),o_ (.un .not r_8),w_ 11 r_9]
(.seq (.draw [0,1,2,3,4,5,6,7,8,9,10,11,12] [(13,[11],[14]),(15,[],[])] [d_ l_4,o_ (.nilCheck r_0),f_ 8 r_1,d_ r_2,v_ l_1,d_ l_4,o_ (.nilCheck r_5),f_ 9 r_6,d_ r_7,v_ l_1,v_ l_9,d_ l_6,o_ (.indexAddrS 1 r_3 r_4),o_ (.store 1 kO gE),o_ (.indexAddrS 1 r_8 r_9),o_ (.store 1 nS iE)])
(h_ [v_ iL,w_ 5 r_0]
.ret))))))))⟩
def a57:Ann:=⟨[0,2,3,4,5,6,7,8,13],[],[],[],[]⟩
def t57L0:aL:=(.seq (.seq (g_ [v_ l_3, s_ 8 (.bin .neq r_0 (.cst (.int .u64 0)))])
(.cond l_8
.skip
(.exit 2)))
(.seq (.block 3
(g_ [v_ l_1,v_ l_2,o_ (.bin .mul (i_ 64) r_1),v_ l_3,c_ 81 [r_3],o_ (.bin .add r_2 r_4),o_ (.lit false Z1_ 1 [(0,r_5)]),o_ (.append false 1 8 3 r_0 r_6),w_ 1 r_7]))
(g_ [v_ l_3,v_ l_3,o_ (.bin .sub r_1 (.cst (.int .u64 1))),o_ (.bin .and r_0 r_2),w_ 3 r_3])))
def t57L1:aL:=(.seq (g_ [s_ 7 (.bin .lss l_6 l_5)])
(.seq (.cond l_7
.skip
(.exit 0))
(.seq (.block 1
(h_ [v_ l_6,o_ (.indexAddrS 1 l_4 l_6),d_ r_1,w_ 2 r_0,w_ 3 r_2]
(.block 2
(.loop t57L0))))
(g_ [o_ (.bin .add l_6 (i_ 1)),w_ 6 r_0]))))
def t57:aS:=⟨1,9,[.loc 1],
(h_ [w_ 1 N_]
(.seq (.seq (g_ [w_ 4 l_0,s_ 5 (.len .sl r_0),w_ 6 (i_ 0)])
(.block 0
(.loop t57L1)))
(h_ [v_ l_1,w_ 1 r_0]
.ret)))⟩
def a58:Ann:=⟨[0,1,2,3,5,6,7,8,9,10,21,29],[8,6],[],[],[]⟩
def t58:aS:=⟨4,12,[.loc 4],
(h_ [w_ 4 (i_ 0)]
(h_ [d_ l_1,o_ (.nilCheck r_0),f_ 15 r_1,d_ r_2,v_ l_0,o_ (.lookup (.leaf .int) (.agg Z1_) true r_3 r_4),v_ r_5,o_ (.extract 0 r_6),o_ (.extract 1 r_6),o_ (.allocL 5 Z1_),o_ (.store 1 r_9 r_7),w_ 6 r_8]
(.seq (.seq (g_ [v_ l_6,s_ 10 (.un .not r_0)])
(.cond iS
(h_ [v_ l_0,w_ 4 r_0]
.ret)
.skip))
(.seq (.seq (g_ [d_ l_2,v_ l_0,o_ (.lookup (.leaf .int) (.agg Z1_) true r_0 r_1),v_ r_2,o_ (.extract 0 r_3),o_ (.extract 1 r_3),o_ (.allocL 7 Z1_),o_ (.store 1 r_6 r_4),w_ 8 r_5])
(h_ [w_ 11 l_8]
(.cond iL
(h_ [f_ 0 l_7,d_ r_0,w_ 4 r_1]
.ret)
.skip)))
(h_ [d_ l_1,o_ (.call false false 59 [r_0]),w_ 9 r_1]
(h_ [d_ l_2,v_ l_0,v_ l_9,o_ (.build Z1_ [(0,1,r_2)]),o_ (.update (.leaf .int) r_0 r_1 r_3)]
(h_ [d_ l_1,v_ l_9,f_ 0 l_5,d_ r_2,o_ (.build Z8_ [(0,1,(i_ 73)),(1,1,r_1),(4,1,r_3)]),d_ l_3,o_ (.call false false 60 [r_0,r_4,r_5])]
(h_ [v_ l_9,w_ 4 r_0]
.ret))))))))⟩
def a59:Ann:=⟨[0,2],[],[],[],[]⟩
def t59:aS:=⟨1,2,[.loc 1],
(h_ [w_ 1 (i_ 0)]
(h_ [v_ l_0,o_ (.nilCheck r_0),f_ 7 r_1,f_ 1 r_2,d_ r_3,o_ (.bin .add r_4 (i_ 1)),o_ (.nilCheck r_0),f_ 7 r_6,f_ 1 r_7,o_ (.store 1 r_8 r_5)]
(h_ [v_ l_0,o_ (.nilCheck r_0),f_ 7 r_1,f_ 1 r_2,d_ r_3,o_ (.bin .sub r_4 (i_ 1)),w_ 1 r_5]
.ret)))⟩
def a60:Ann:=⟨[0,1,2,4],[4],[],[],[(1,⟨[0,0,2,6,14,30,0,64,254,511,1023,2047,4095],[0,1,2,3,4,5,6,7],[(8,[],[9,10,11]),(12,[],[])]⟩)]⟩
def t60:aS:=⟨3,4,[],
(h_ [o_ (.boxL 3 l_1)]
(.seq (.draw [0,1,2,3,4,5,6,7] [(8,[],[9,10,11]),(12,[],[])] [v_ l_0,v_ l_0,o_ (.nilCheck r_1),f_ 7 r_2,f_ 6 r_3,d_ r_4,o_ (.loadN 8 l_3),o_ (.lit false Z8_ 1 [(0,r_6)]),o_ (.append false 8 96 28 r_5 r_7),o_ (.nilCheck r_0),f_ 7 r_9,f_ 6 gE,o_ (.store 1 iE r_8)])
(g_ [v_ l_0,v_ l_0,o_ (.nilCheck r_1),f_ 14 r_2,d_ r_3,v_ l_2,o_ (.lit false Z1_ 1 [(0,r_5)]),o_ (.append false 1 8 3 r_4 r_6),o_ (.nilCheck r_0),f_ 14 r_8,o_ (.store 1 r_9 r_7)])))⟩
def a61:Ann:=⟨[0,1,2,3,5,6,7,18],[6],[],[],[(4,⟨[0,1,0,3,15],[0,2],[(1,[2],[]),(3,[2],[]),(4,[],[])]⟩)]⟩
def t61:aS:=⟨4,8,[.loc 4],
(h_ [w_ 4 (i_ 0)]
(h_ [d_ l_1,o_ (.nilCheck r_0),f_ 15 r_1,d_ r_2,v_ l_0,o_ (.lookup (.leaf .int) (.agg Z1_) true r_3 r_4),v_ r_5,o_ (.extract 0 r_6),o_ (.extract 1 r_6),o_ (.allocL 5 Z1_),o_ (.store 1 r_9 r_7),w_ 6 r_8]
(.seq (.seq (g_ [v_ l_6,s_ 7 (.un .not r_0)])
(.cond l_7
(h_ [v_ l_0,w_ 4 r_0]
.ret)
.skip))
(.seq (.draw [0,2] [(1,[2],[]),(3,[2],[]),(4,[],[])] [d_ l_1,o_ (.call false false 59 [r_0]),o_ (.loadN 1 l_5),o_ (.store 1 l_2 r_1),o_ (.store 1 l_3 r_2)])
(h_ [d_ l_2,w_ 4 r_0]
.ret)))))⟩
def a62:Ann:=⟨[0,1,4],[4],[],[],[]⟩
def t62:aS:=⟨2,3,[.cell 2 2 true],
(h_ [o_ (.allocL 2 [(.int .i64 0),(.int .i64 0)])]
(h_ [v_ l_0,v_ l_1,o_ (.minmax false [r_0,r_1]),v_ l_0,v_ l_1,o_ (.minmax true [r_3,r_4]),o_ (.build [(.int .i64 0),(.int .i64 0)] [(0,1,r_2),(1,1,r_5)]),o_ (.store 2 l_2 r_6)]
.ret))⟩
def a63:Ann:=⟨[0,2],[],[],[],[]⟩
def t63:aS:=⟨1,2,[.loc 1],
(h_ [w_ 1 N_]
(h_ [v_ l_0,o_ (.call false false 83 [r_0]),o_ (.call false false 82 [r_1,(.fn 84)]),w_ 1 r_2]
.ret))⟩
def a64:Ann:=⟨[0,2,4],[],[(3,2)],[],[]⟩
def t64:aS:=⟨1,3,[.loc 1],
(h_ [w_ 1 N_]
(.seq (.seq (g_ [v_ l_0,s_ 2 (.eqB false .sl r_0 N_)])
(.cond l_2
(h_ [w_ 1 N_]
.ret)
.skip))
(h_ [o_ (.lit false Z8_ 0 []),v_ l_0,o_ (.append true 8 96 28 r_0 r_1),w_ 1 r_2]
.ret)))⟩
def a65:Ann:=⟨[0,1,2,3],[],[],[],[]⟩
def t65:aS:=⟨1,4,[.loc 2],
(h_ [s_ 1 (.boxH 69 l_0),w_ 2 F_]
(h_ [o_ (.mkFn 85 [] [l_1]),w_ 3 r_0]
(h_ [f_ 0 l_1,d_ r_0,o_ (.bin .geq r_1 (i_ 32)),v_ r_2,y_ 3 (.fieldAddr 1 l_1),y_ 3 (.load1 r_4),y_ 3 (.mov l_3),y_ 3 (.call false false 86 [r_5,r_6]),y_ 3 (.un .not r_7),o_ (.pick r_3 r_8 F_),v_ r_9,y_ 10 (.fieldAddr 2 l_1),y_ 10 (.load1 iE),y_ 10 (.mov l_3),y_ 10 (.call false false 86 [kO,nC]),y_ 10 (.un .not nS),o_ (.pick gE pP F_),w_ 2 pQ]
.ret)))⟩
def a66:Ann:=⟨[0,1,2,3,4,6,14,15,16,50,51,52,53,73],[6,1],[(5,23)],[],[(1,⟨[0,0,2,6,15,31,63],[0,1,2,3,4,5,6],[]⟩),(5,⟨[0,0,0,0,8,24,56,0,128,504,0,1024,3072,7168,0,16384,65528,0,131072,393216,917504,0,2097152,8388600,16777209,33554425,67108857,134217723,268435451,536870907,1073741823,2147483647,4294967295],[0,1,2,3,4,5,6,7,8,10,11,12,13,14,15,17,18,19,20,21,22],[(9,[13,20],[]),(16,[20],[]),(23,[],[24,25]),(26,[],[27,28]),(29,[],[30,31]),(32,[],[])]⟩),(12,⟨[0,1,3,7,0,16,63,127,0,256,1023,2047,4095],[0,1,2,3,4,5,6,7,8,9,10,11],[(12,[],[])]⟩),(13,⟨[0,1,3,7,0,16,63,127,0,256,1023,2047,4095],[0,1,2,3,4,5,6,7,8,9,10,11],[(12,[],[])]⟩)]⟩
def t66L0:aL:=(.seq (g_ [s_ 12 (.bin .lss iL iS)])
(.seq (.cond nT
.skip
(.exit 2))
(.seq (.block 3
(h_ [o_ (.indexAddrS 2 l_9 iL),o_ (.loadN 2 r_0),o_ (.allocL 5 [(.int .i64 0),(.int .i64 0)]),o_ (.store 2 r_2 r_1)]
(h_ [o_ (.indexAddrA 2 1 l_5 (i_ 0)),d_ r_0,c_ 87 [r_1],v_ r_2,x_ 3 (.indexAddrA 2 1 l_5 (i_ 0)),x_ 3 (.load1 r_4),x_ 3 (.bin .geq r_5 (i_ 32)),o_ (.pick r_3 T_ r_6),v_ r_7,y_ 8 (.indexAddrA 2 1 l_5 (i_ 1)),y_ 8 (.load1 r_9),y_ 8 (.call true false 87 [gE]),y_ 8 (.mov iE),x_ 12 (.indexAddrA 2 1 l_5 (i_ 1)),x_ 12 (.load1 nC),x_ 12 (.bin .geq nS (i_ 32)),y_ 8 (.pick kO T_ pP),s_ 13 (.pick r_8 pQ F_)]
(.cond pS
(h_ [v_ l_3,o_ (.indexAddrA 2 1 l_5 (i_ 0)),d_ r_1,o_ (.indexAddrA 2 1 l_5 (i_ 1)),d_ r_3,o_ (.call false false 88 [r_0,r_2,r_4])]
(.seq (.draw [0,1,2,3,4,5,6,7,8,9,10,11] [(12,[],[])] [v_ l_3,o_ (.nilCheck r_0),f_ 4 r_1,d_ r_2,o_ (.indexAddrA 2 1 l_5 (i_ 0)),d_ r_4,o_ (.indexAddrS 1 r_3 r_5),d_ r_6,o_ (.indexAddrA 2 1 l_5 (i_ 1)),d_ r_8,o_ (.lookup (.leaf .int) (.int .i64 0) false r_7 r_9),o_ (.bin .add gE (i_ 1)),o_ (.update (.leaf .int) r_7 r_9 iE)])
(.draw [0,1,2,3,4,5,6,7,8,9,10,11] [(12,[],[])] [v_ l_3,o_ (.nilCheck r_0),f_ 4 r_1,d_ r_2,o_ (.indexAddrA 2 1 l_5 (i_ 1)),d_ r_4,o_ (.indexAddrS 1 r_3 r_5),d_ r_6,o_ (.indexAddrA 2 1 l_5 (i_ 0)),d_ r_8,o_ (.lookup (.leaf .int) (.int .i64 0) false r_7 r_9),o_ (.bin .add gE (i_ 1)),o_ (.update (.leaf .int) r_7 r_9 iE)])))
.skip))))
(g_ [o_ (.bin .add iL (i_ 1)),w_ 11 r_0]))))
def t66L1:aL:=(.seq (g_ [s_ 8 (.bin .lss l_7 l_6)])
(.seq (.cond l_8
.skip
(.exit 0))
(.seq (.block 1
(h_ [v_ l_7,w_ 4 r_0]
(.draw [0,1,2,3,4,5,6,7,8,10,11,12,13,14,15,17,18,19,20,21,22] [(9,[13,20],[]),(16,[20],[]),(23,[],[24,25]),(26,[],[27,28]),(29,[],[30,31]),(32,[],[])] [v_ l_3,v_ l_3,v_ l_3,v_ l_3,o_ (.nilCheck r_3),f_ 3 r_4,d_ r_5,o_ (.mkMap),o_ (.lit false [.nilm] 1 [(0,r_7)]),o_ (.append false 1 8 81 r_6 r_8),v_ l_3,o_ (.nilCheck gE),f_ 4 iE,d_ kO,o_ (.mkMap),o_ (.lit false [.nilm] 1 [(0,nS)]),o_ (.append false 1 8 81 nC pP),v_ l_3,o_ (.nilCheck xF),f_ 5 aAs,d_ aF0,v_ l_4,o_ (.lit false Z1_ 1 [(0,aF2)]),o_ (.append true 1 8 3 aF1 aGw),o_ (.nilCheck r_0),f_ 3 aLr,o_ (.store 1 aTj r_9),o_ (.nilCheck r_1),f_ 4 aTk,o_ (.store 1 aTl pQ),o_ (.nilCheck r_2),f_ 5 bJs,o_ (.store 1 bJt aLq)])))
(g_ [o_ (.bin .add l_7 (i_ 1)),w_ 7 r_0]))))
def t66:aS:=⟨1,14,[.loc 2],
(h_ [o_ (.boxL 1 l_0),s_ 2 (.mov (.cst .nilp))]
(.seq (.draw [0,1,2,3,4,5,6] [] [o_ (.loadN 3 l_1),f_ 0 l_1,d_ r_1,o_ (.mkSlice Z1_ 8 r_2 r_2),o_ (.build [(.int .i64 0),(.sl .nil []),(.sl .nil []),(.sl .nil []),(.sl .nil []),(.sl .nil []),(.sl .nil [])] [(0,3,r_0),(6,1,r_3)]),o_ (.boxH 106 r_4),w_ 3 r_5])
(.seq (.seq (g_ [f_ 0 l_1,s_ 6 (.load1 r_0),w_ 7 (i_ 0)])
(.block 0
(.loop t66L1)))
(.seq (.seq (g_ [f_ 1 l_1,s_ 9 (.load1 r_0),s_ 10 (.len .sl r_1),w_ 11 (i_ 0)])
(.block 2
(.loop t66L0)))
(h_ [v_ l_3,w_ 2 r_0]
.ret)))))⟩
def a67:Ann:=⟨[0,2,4,5,6,8,9,14,15,16,17,30,70],[4],[],[],[(6,⟨[0,0,2,7,0,0,32,127,255,511],[0,1,2,4,5,6],[(3,[6],[]),(7,[],[8,9])]⟩)]⟩
def t67L0:aL:=(.seq (g_ [s_ 10 (.bin .lss l_9 l_8)])
(.seq (.cond iS
.skip
(.exit 2))
(.seq (.block 3
(h_ [o_ (.indexAddrS 2 l_7 l_9),o_ (.loadN 2 r_0),o_ (.allocL 2 [(.int .i64 0),(.int .i64 0)]),o_ (.store 2 r_2 r_1)]
(.seq (.draw [0,1,2,4,5,6] [(3,[6],[]),(7,[],[8,9])] [v_ l_0,o_ (.indexAddrA 2 1 l_2 (i_ 0)),d_ r_1,o_ (.call false false 89 [r_0,r_2]),v_ l_0,o_ (.indexAddrA 2 1 l_2 (i_ 1)),d_ r_5,o_ (.call false false 89 [r_4,r_6]),w_ 3 r_3,w_ 4 r_7])
(.seq (.seq (g_ [v_ l_3,v_ l_4,s_ 11 (.bin .gtr r_0 r_1)])
(.cond iL
(g_ [v_ l_4,v_ l_3,w_ 3 r_0,w_ 4 r_1])
.skip))
(h_ [v_ l_0,o_ (.nilCheck r_0),f_ 3 r_1,d_ r_2,v_ l_3,o_ (.indexAddrS 1 r_3 r_4),d_ r_5,v_ l_4,o_ (.lookup (.leaf .int) (.int .i64 0) true r_6 r_7),v_ r_8,o_ (.extract 0 r_9),o_ (.extract 1 r_9),v_ gE,w_ 5 iE]
(.seq (.seq (g_ [v_ l_3,v_ l_4,o_ (.bin .eql r_0 r_1),v_ r_2,x_ 3 (.mov l_4),x_ 3 (.bin .lss r_4 (i_ 32)),o_ (.pick r_3 T_ r_5),v_ r_6,x_ 7 (.mov l_3),x_ 7 (.bin .lss r_8 (i_ 32)),x_ 7 (.mov r_9),y_ 10 (.mov l_3),y_ 10 (.call true false 87 [iE]),y_ 10 (.un .not kO),x_ 7 (.pick gE nC F_),o_ (.pick r_7 T_ nS),v_ pP,x_ 16 (.mov l_5),o_ (.pick pQ T_ xF),v_ aAs,x_ 19 (.mov l_0),x_ 19 (.mov l_3),x_ 19 (.mov l_4),x_ 19 (.call false false 90 [aF1,aF2,aGw]),x_ 19 (.un .not aLq),s_ 12 (.pick aF0 T_ aLr)])
(.cond nT
(.exit 3)
.skip))
(h_ [v_ l_0,v_ l_3,v_ l_4,o_ (.call false false 91 [r_0,r_1,r_2])]
(g_ [w_ 1 T_]))))))))
(g_ [o_ (.bin .add l_9 (i_ 1)),w_ 9 r_0]))))
def t67L1:aL:=(.seq (.seq (g_ [w_ 6 l_1])
(.cond l_6
.skip
(.exit 0)))
(.block 1
(h_ [w_ 1 F_]
(h_ [v_ l_0,o_ (.nilCheck r_0),f_ 0 r_1,f_ 2 r_2,s_ 7 (.load1 r_3),s_ 8 (.len .sl r_4),w_ 9 (i_ 0)]
(.block 2
(.loop t67L0))))))
def t67:aS:=⟨1,13,[],
(h_ [w_ 1 T_]
(.block 0
(.loop t67L1)))⟩
def a68:Ann:=⟨[0,1,4,5,6,13,20],[],[],[],[]⟩
def t68L0:aL:=(.seq (.seq (g_ [v_ l_4,v_ l_0,o_ (.nilCheck r_1),f_ 0 r_2,f_ 0 r_3,d_ r_4,s_ 5 (.bin .lss r_0 r_5)])
(.cond l_5
.skip
(.exit 0)))
(.seq (.block 1
(h_ [v_ l_0,v_ l_4,o_ (.call false false 89 [r_0,r_1]),v_ l_1,s_ 6 (.bin .eql r_2 r_3)]
(.cond l_6
(g_ [v_ l_3,v_ l_4,o_ (.lit false Z1_ 1 [(0,r_1)]),o_ (.append false 1 8 3 r_0 r_2),w_ 3 r_3])
.skip)))
(g_ [v_ l_4,o_ (.bin .add r_0 (i_ 1)),w_ 4 r_1])))
def t68:aS:=⟨2,7,[.loc 2],
(h_ [w_ 2 N_]
(h_ [w_ 3 N_]
(.seq (.seq (g_ [w_ 4 (i_ 32)])
(.block 0
(.loop t68L0)))
(h_ [v_ l_3,w_ 2 r_0]
.ret))))⟩
def a69:Ann:=⟨[0,1,2],[],[],[],[]⟩
def t69:aS:=⟨1,3,[.loc 2],
(h_ [s_ 1 (.boxH 27 l_0),s_ 2 (.mov (.cst .nilf))]
(h_ [o_ (.mkFn 92 [] [l_1]),w_ 2 r_0]
.ret))⟩
def a70:Ann:=⟨[0,2,3,4,5,6,7,8,9,10,29,40,58,63,92,94,101],[],[(9,3)],[],[(10,⟨[0,0,0,4,12,28,0,124,252,508,1023,2047],[0,1,2,3,4,5,6,7,8,9,10],[(11,[],[])]⟩)]⟩
def t70L0:aL:=(.seq (g_ [o_ (.nextM pT), s_ 15 (.extract 0 r_0)])
(.seq (.cond xG
.skip
(.exit 4))
(.block 5
(h_ [o_ (.entryM pT),o_ (.extract 0 r_0),w_ 9 r_1]
(h_ [v_ l_3,v_ l_9,o_ (.indexAddrS 1 r_0 r_1),d_ r_2,s_ 16 (.un .not r_3)]
(.cond rX
(g_ [d_ l_4,v_ l_9,o_ (.indexAddrS 1 r_0 r_1),d_ r_2,o_ (.bin .sub r_3 (i_ 1)),o_ (.indexAddrS 1 r_0 r_1),o_ (.store 1 r_5 r_4)])
.skip))))))
def t70L1:aL:=(.seq (.seq (g_ [v_ l_5,o_ (.len .sl r_0),s_ 12 (.bin .gtr r_1 (i_ 0))])
(.cond nT
.skip
(.exit 2)))
(.block 3
(h_ [v_ l_5,o_ (.mkFn 93 [] [l_4]),o_ (.call false false 50 [r_0,r_1]),w_ 7 r_2]
(.seq (.seq (g_ [v_ l_7,s_ 13 (.bin .lss r_0 (i_ 0))])
(.cond pS
(g_ [v_ l_5,v_ l_5,o_ (.mkFn 95 [] [l_4]),o_ (.call false false 94 [r_1,r_2]),c_ 74 [r_0,r_3],w_ 7 r_4])
.skip))
(h_ [v_ l_5,v_ l_7,o_ (.indexAddrS 1 r_0 r_1),d_ r_2,w_ 8 r_3]
(h_ [v_ l_5,v_ l_7,v_ l_7,o_ (.bin .add r_2 (i_ 1)),o_ (.call false false 97 [r_0,r_1,r_3]),w_ 5 r_4]
(h_ [v_ l_3,v_ l_8,o_ (.indexAddrS 1 r_0 r_1),o_ (.store 1 r_2 T_)]
(h_ [v_ l_2,v_ l_8,o_ (.lit false Z1_ 1 [(0,r_1)]),o_ (.append false 1 8 3 r_0 r_2),w_ 2 r_3]
(h_ [v_ l_0,o_ (.nilCheck r_0),f_ 3 r_1,d_ r_2,v_ l_8,o_ (.indexAddrS 1 r_3 r_4),d_ r_5,s_ 14 (.range false r_6)]
(.block 4
(.loop t70L0)))))))))))
def t70L2:aL:=(.seq (.seq (g_ [v_ l_6,v_ l_0,o_ (.nilCheck r_1),f_ 0 r_2,f_ 0 r_3,d_ r_4,s_ 10 (.bin .lss r_0 r_5)])
(.cond iS
.skip
(.exit 0)))
(.seq (.block 1
(h_ [v_ l_0,o_ (.nilCheck r_0),f_ 5 r_1,d_ r_2,v_ l_6,o_ (.indexAddrS 1 r_3 r_4),d_ r_5,v_ l_6,s_ 11 (.bin .eql r_6 r_7)]
(.cond iL
(h_ [v_ l_5,v_ l_6,o_ (.lit false Z1_ 1 [(0,r_1)]),o_ (.append true 1 8 3 r_0 r_2),w_ 5 r_3]
(.draw [0,1,2,3,4,5,6,7,8,9,10] [(11,[],[])] [d_ l_4,v_ l_6,v_ l_0,o_ (.nilCheck r_2),f_ 3 r_3,d_ r_4,v_ l_6,o_ (.indexAddrS 1 r_5 r_6),d_ r_7,o_ (.len .mp r_8),o_ (.indexAddrS 1 r_0 r_1),o_ (.store 1 gE r_9)]))
.skip)))
(g_ [v_ l_6,o_ (.bin .add r_0 (i_ 1)),w_ 6 r_1])))
def t70:aS:=⟨1,17,[.loc 1],
(h_ [w_ 1 N_]
(h_ [w_ 2 N_]
(h_ [v_ l_0,o_ (.nilCheck r_0),f_ 0 r_1,f_ 0 r_2,d_ r_3,o_ (.mkSlice [(.bool false)] 1 r_4 r_4),w_ 3 r_5]
(h_ [v_ l_0,o_ (.nilCheck r_0),f_ 0 r_1,f_ 0 r_2,d_ r_3,o_ (.mkSlice Z1_ 8 r_4 r_4),s_ 4 (.allocH 27 [(.sl .nil [])]),o_ (.store 1 r_6 r_5)]
(h_ [w_ 5 N_]
(.seq (.seq (g_ [w_ 6 (i_ 32)])
(.block 0
(.loop t70L2)))
(.seq (.block 2
(.loop t70L1))
(h_ [v_ l_2,w_ 1 r_0]
.ret))))))))⟩
def a71:Ann:=⟨[0,1,4,6,10,11,12,13,17],[],[],[],[(5,⟨[0,1,3,7,0,0,0,64,224,511,1023],[0,1,2,3,4,5,6,7],[(8,[3],[9]),(10,[],[])]⟩)]⟩
def t71L0:aL:=(.seq (g_ [s_ 7 (.bin .lss l_6 l_5)])
(.seq (.cond l_7
.skip
(.exit 0))
(.seq (.block 1
(h_ [o_ (.indexAddrS 1 l_4 l_6),d_ r_0,w_ 3 r_1]
(h_ [v_ l_2,s_ 8 (.bin .eql r_0 (i_ (-1)))]
(.cond l_8
(.draw [0,1,2,3,4,5,6,7] [(8,[3],[9]),(10,[],[])] [v_ l_0,o_ (.nilCheck r_0),f_ 6 r_1,d_ r_2,v_ l_3,v_ l_0,v_ l_3,o_ (.lit false Z1_ 1 [(0,r_6)]),o_ (.call false false 98 [r_5,r_7]),o_ (.indexAddrS 1 r_3 r_4),o_ (.store 1 r_9 r_8)])
(g_ [v_ l_0,o_ (.nilCheck r_0),f_ 6 r_1,d_ r_2,v_ l_3,v_ l_2,o_ (.indexAddrS 1 r_3 r_4),o_ (.store 1 r_6 r_5)])))))
(g_ [o_ (.bin .add l_6 (i_ 1)),w_ 6 r_0]))))
def t71:aS:=⟨2,9,[],
(h_ [v_ l_0,v_ l_1,o_ (.call false false 98 [r_0,r_1]),w_ 2 r_2]
(h_ [w_ 4 l_1,s_ 5 (.len .sl r_0),w_ 6 (i_ 0)]
(.block 0
(.loop t71L0))))⟩
def a72:Ann:=⟨[0,2],[],[],[],[]⟩
def t72:aS:=⟨1,2,[.loc 1],
(h_ [w_ 1 F_]
(h_ [v_ l_0,o_ (.bin .geq r_0 (i_ 26)),v_ r_1,y_ 2 (.mov l_0),y_ 2 (.bin .leq r_3 (i_ 31)),o_ (.pick r_2 r_4 F_),w_ 1 r_5]
.ret))⟩
def a73:Ann:=⟨[0,2],[],[],[],[]⟩
def t73:aS:=⟨1,2,[.loc 1],
(h_ [w_ 1 N_]
(h_ [v_ l_0,o_ (.call false false 40 [r_0,(.fn 99)]),w_ 0 r_1]
(h_ [v_ l_0,o_ (.prim 46 [r_0])]
(h_ [v_ l_0,o_ (.call false false 100 [r_0]),w_ 1 r_1]
.ret))))⟩
def a74:Ann:=⟨[0,1,4,5,7,8,9,16],[],[],[],[]⟩
def t74L0:aL:=(.seq (g_ [s_ 6 (.bin .lss l_5 l_4)])
(.seq (.cond l_6
.skip
(.exit 0))
(.seq (.block 1
(h_ [v_ l_5,w_ 3 r_0]
(h_ [v_ l_1,v_ l_0,v_ l_3,o_ (.indexAddrS 1 r_1 r_2),d_ r_3,s_ 7 (.bin .eql r_0 r_4)]
(.cond l_7
(h_ [v_ l_3,w_ 2 r_0]
.ret)
.skip))))
(g_ [o_ (.bin .add l_5 (i_ 1)),w_ 5 r_0]))))
def t74:aS:=⟨2,8,[.loc 2],
(h_ [w_ 2 (i_ 0)]
(.seq (.seq (g_ [v_ l_0,s_ 4 (.len .sl r_0),w_ 5 (i_ 0)])
(.block 0
(.loop t74L0)))
(h_ [s_ 2 (.mov (i_ (-1)))]
.ret)))⟩
def a77:Ann:=⟨[0,1,4,6,16],[],[],[],[]⟩
def t77:aS:=⟨2,5,[.loc 2],
(h_ [w_ 2 N_]
(.seq (.seq (g_ [v_ l_1,s_ 3 (.bin .lss r_0 (i_ 0))])
(.cond l_3
(g_ [o_ (.bad),o_ (.bad)])
.skip))
(.seq (.seq (g_ [v_ l_1,v_ l_0,o_ (.cap r_1),v_ l_0,o_ (.len .sl r_3),o_ (.bin .sub r_2 r_4),o_ (.bin .sub r_0 r_5),w_ 1 r_6])
(h_ [v_ l_1,s_ 4 (.bin .gtr r_0 (i_ 0))]
(.cond l_4
(g_ [v_ l_0,v_ l_0,o_ (.cap r_1),o_ (.slice (.sl 1) r_0 none (some r_2) none),v_ l_1,o_ (.grow 1 8 3 r_3 r_4),v_ l_0,o_ (.len .sl r_6),o_ (.slice (.sl 1) r_5 none (some r_7) none),w_ 0 r_8])
.skip)))
(h_ [v_ l_0,w_ 2 r_0]
.ret))))⟩
def a78:Ann:=⟨[0,1,2,4,12],[1],[],[],[]⟩
def t78:aS:=⟨1,5,[.loc 2],
(h_ [o_ (.boxL 1 l_0),w_ 2 F_]
(.seq (.seq (g_ [f_ 0 l_1,d_ r_0,o_ (.bin .lss r_1 (i_ 1)),v_ r_2,x_ 3 (.fieldAddr 0 l_1),x_ 3 (.load1 r_4),x_ 3 (.bin .gtr r_5 (i_ 25)),s_ 4 (.pick r_3 T_ r_6)])
(.cond l_4
(h_ [w_ 2 F_]
.ret)
.skip))
(h_ [f_ 0 l_1,d_ r_0,f_ 4 l_1,d_ r_2,o_ (.build [(.int .i64 0),(.int .i64 0),(.int .i64 0),(.int .i64 0),(.int .i64 0)] [(0,1,r_1),(4,1,r_3)]),c_ 112 [r_4],v_ r_5,o_ (.extract 0 r_6),o_ (.extract 1 r_6),v_ r_7,w_ 3 r_8]
(h_ [v_ l_3,o_ (.bin .eql r_0 (i_ 0)),w_ 2 r_1]
.ret))))⟩
def a79:Ann:=⟨[0,1,2,3,4],[],[],[],[]⟩
def t79:aS:=⟨2,5,[.loc 4],
(h_ [s_ 2 (.boxH 58 l_0),s_ 3 (.boxH 4 l_1),s_ 4 (.mov (.cst .nilf))]
(h_ [o_ (.mkFn 113 [] [l_2,l_3]),w_ 4 r_0]
.ret))⟩
def a80:Ann:=⟨[0,1,4,5,10,12,13,14,24],[],[],[],[(6,⟨[0,0,3,7,0,0,48,112,255],[0,1,2,3,4,5,6,7,8],[]⟩)]⟩
def t80L0:aL:=(.seq (g_ [s_ 7 (.bin .lss l_6 l_5)])
(.seq (.cond l_7
.skip
(.exit 0))
(.seq (.block 1
(h_ [v_ l_6,w_ 3 r_0]
(.seq (.draw [0,1,2,3,4,5,6,7,8] [] [v_ l_0,v_ l_3,o_ (.indexAddrS 1 r_0 r_1),d_ r_2,v_ l_1,v_ l_3,o_ (.indexAddrS 1 r_4 r_5),d_ r_6,s_ 8 (.bin .neq r_3 r_7)])
(.cond l_8
(h_ [w_ 2 F_]
.ret)
.skip))))
(g_ [o_ (.bin .add l_6 (i_ 1)),w_ 6 r_0]))))
def t80:aS:=⟨2,9,[.loc 2],
(h_ [w_ 2 F_]
(.seq (.seq (g_ [v_ l_0,o_ (.len .sl r_0),v_ l_1,o_ (.len .sl r_2),s_ 4 (.bin .neq r_1 r_3)])
(.cond l_4
(h_ [w_ 2 F_]
.ret)
.skip))
(.seq (.seq (g_ [v_ l_0,s_ 5 (.len .sl r_0),w_ 6 (i_ 0)])
(.block 0
(.loop t80L0)))
(h_ [w_ 2 T_]
.ret))))⟩
def a81:Ann:=⟨[0,2,4],[],[],[],[]⟩
def t81:aS:=⟨1,3,[.loc 1],
(h_ [w_ 1 (i_ 0)]
(.seq (.seq (g_ [v_ l_0,s_ 2 (.bin .eql r_0 (.cst (.int .u64 0)))])
(.cond l_2
(h_ [w_ 1 (i_ 64)]
.ret)
.skip))
(h_ [v_ l_0,v_ l_0,o_ (.un .neg r_1),o_ (.bin .and r_0 r_2),o_ (.bin .mul r_3 (.cst (.int .u64 285870213051353865))),o_ (.bin .shr r_4 (.cst (.int .u64 58))),o_ (.indexAddrA 64 1 (.glob 0) r_5),d_ r_6,o_ (.conv (.toInt .i64) r_7),w_ 1 r_8]
.ret)))⟩
def a82:Ann:=⟨[0,1,4,5],[],[],[],[]⟩
def t82:aS:=⟨2,4,[.loc 2],
(h_ [w_ 2 N_]
(h_ [v_ l_0,o_ (.call false false 114 [r_0]),w_ 3 r_1]
(h_ [v_ l_3,v_ l_1,o_ (.prim 115 [r_0,r_1])]
(h_ [v_ l_3,w_ 2 r_0]
.ret))))⟩
def a83:Ann:=⟨[0,1,2],[],[],[],[]⟩
def t83:aS:=⟨1,3,[.loc 2],
(h_ [s_ 1 (.boxH 97 l_0),s_ 2 (.mov (.cst .nilf))]
(h_ [o_ (.mkFn 116 [] [l_1]),w_ 2 r_0]
.ret))⟩
def a84:Ann:=⟨[0,1,2,3,4],[3,2],[],[],[(1,⟨[0,1,0,4,15,0,32,0,128,511,1023,2047,4095],[0,1,2,3,5,6,7,8],[(4,[6,8],[]),(9,[],[10]),(11,[],[12])]⟩)]⟩
def t84:aS:=⟨2,5,[.loc 4],
(h_ [o_ (.boxL 2 l_0),o_ (.boxL 3 l_1),w_ 4 (i_ 0)]
(.seq (.draw [0,1,2,3,5,6,7,8] [(4,[6,8],[]),(9,[],[10]),(11,[],[12])] [o_ (.indexAddrA 2 1 l_2 (i_ 0)),d_ r_0,o_ (.indexAddrA 2 1 l_3 (i_ 0)),d_ r_2,c_ 96 [r_1,r_3],o_ (.indexAddrA 2 1 l_2 (i_ 1)),d_ r_5,o_ (.indexAddrA 2 1 l_3 (i_ 1)),d_ r_7,c_ 96 [r_6,r_8],o_ (.lit false Z1_ 2 [(0,r_4),(1,r_9)]),c_ 117 [gE],w_ 4 iE])
.ret))⟩
def a85:Ann:=⟨[0,1,2,3],[2],[],[],[]⟩
def t85:aS:=⟨2,4,[.loc 3],
(h_ [o_ (.boxL 2 l_0),w_ 3 F_]
(h_ [o_ (.indexAddrA 2 1 l_2 (i_ 0)),d_ r_0,o_ (.bin .lss r_1 (i_ 1)),v_ r_2,x_ 3 (.indexAddrA 2 1 l_2 (i_ 1)),x_ 3 (.load1 r_4),x_ 3 (.bin .lss r_5 (i_ 1)),o_ (.pick r_3 T_ r_6),v_ r_7,x_ 8 (.indexAddrA 2 1 l_2 (i_ 0)),x_ 8 (.load1 r_9),x_ 8 (.fieldAddr 0 l_1),x_ 8 (.load1 iE),x_ 8 (.bin .geq gE kO),o_ (.pick r_8 T_ nC),v_ nS,x_ 15 (.indexAddrA 2 1 l_2 (i_ 1)),x_ 15 (.load1 pQ),x_ 15 (.fieldAddr 0 l_1),x_ 15 (.load1 aAs),x_ 15 (.bin .geq xF aF0),o_ (.pick pP T_ aF1),v_ aF2,x_ 22 (.indexAddrA 2 1 l_2 (i_ 0)),x_ 22 (.load1 aLq),x_ 22 (.indexAddrA 2 1 l_2 (i_ 1)),x_ 22 (.load1 aTj),x_ 22 (.bin .eql aLr bBs),o_ (.pick aGw T_ aTk),w_ 3 aTl]
.ret))⟩
def a86:Ann:=⟨[0,1,4],[],[],[],[]⟩
def t86:aS:=⟨2,3,[.loc 2],
(h_ [w_ 2 F_]
(h_ [v_ l_0,v_ l_1,o_ (.call false false 118 [r_0,r_1]),o_ (.bin .geq r_2 (i_ 0)),w_ 2 r_3]
.ret))⟩
def a87:Ann:=⟨[0,2],[],[],[],[]⟩
def t87:aS:=⟨1,2,[.loc 1],
(h_ [w_ 1 F_]
(h_ [v_ l_0,o_ (.bin .geq r_0 (i_ 1)),v_ r_1,y_ 2 (.mov l_0),y_ 2 (.bin .leq r_3 (i_ 24)),o_ (.pick r_2 r_4 F_),w_ 1 r_5]
.ret))⟩
def a88:Ann:=⟨[0,1,2],[],[],[],[]⟩
def t88:aS:=⟨3,3,[],
(h_ [v_ l_0,o_ (.nilCheck r_0),f_ 3 r_1,d_ r_2,v_ l_1,o_ (.indexAddrS 1 r_3 r_4),d_ r_5,v_ l_2,o_ (.lookup (.leaf .int) (.int .i64 0) false r_6 r_7),o_ (.bin .add r_8 (i_ 1)),o_ (.update (.leaf .int) r_6 r_7 r_9)]
(g_ [v_ l_0,o_ (.nilCheck r_0),f_ 3 r_1,d_ r_2,v_ l_2,o_ (.indexAddrS 1 r_3 r_4),d_ r_5,v_ l_1,o_ (.lookup (.leaf .int) (.int .i64 0) false r_6 r_7),o_ (.bin .add r_8 (i_ 1)),o_ (.update (.leaf .int) r_6 r_7 r_9)]))⟩
def a89:Ann:=⟨[0,1,4,13],[],[],[],[]⟩
def t89L0:aL:=(.seq (.seq (g_ [v_ l_0,o_ (.nilCheck r_0),f_ 5 r_1,d_ r_2,v_ l_1,o_ (.indexAddrS 1 r_3 r_4),d_ r_5,v_ l_1,s_ 3 (.bin .neq r_6 r_7)])
(.cond l_3
.skip
(.exit 0)))
(.block 1
(g_ [v_ l_0,o_ (.nilCheck r_0),f_ 5 r_1,d_ r_2,v_ l_1,o_ (.indexAddrS 1 r_3 r_4),d_ r_5,w_ 1 r_6])))
def t89:aS:=⟨2,4,[.loc 2],
(h_ [w_ 2 (i_ 0)]
(.seq (.block 0
(.loop t89L0))
(h_ [v_ l_1,w_ 2 r_0]
.ret)))⟩
def a90:Ann:=⟨[0,1,2,6,7,9,10,11,12,14,16,24,26,47,55,57,62,72,74,95],[],[],[],[]⟩
def t90L0:aL:=(.seq (g_ [o_ (.nextM aGx),s_ 18 (.extract 0 r_0)])
(.seq (.cond aCe
.skip
(.exit 4))
(.block 5
(h_ [o_ (.entryM aGx),o_ (.extract 0 r_0),w_ 8 r_1]
(h_ [v_ l_0,o_ (.nilCheck r_0),f_ 3 r_1,d_ r_2,v_ l_1,o_ (.indexAddrS 1 r_3 r_4),d_ r_5,v_ l_8,o_ (.lookup (.leaf .int) (.int .i64 0) true r_6 r_7),v_ r_8,o_ (.extract 0 r_9),o_ (.extract 1 r_9),v_ gE,w_ 9 iE]
(h_ [v_ l_9,o_ (.un .not r_0),v_ r_1,y_ 2 (.mov l_0),y_ 2 (.mov l_8),y_ 2 (.call false false 119 [r_3,r_4]),s_ 19 (.pick r_2 r_5 F_)]
(.cond bJu
(g_ [v_ l_6,o_ (.bin .add r_0 (i_ 1)),w_ 6 r_1])
.skip)))))))
def t90L1:aL:=(.seq (g_ [o_ (.nextM pT),s_ 15 (.extract 0 r_0)])
(.seq (.cond xG
.skip
(.exit 2))
(.block 3
(h_ [o_ (.entryM pT),o_ (.extract 0 r_0),w_ 7 r_1]
(h_ [v_ l_0,v_ l_7,s_ 16 (.call false false 119 [r_0,r_1])]
(.cond rX
(g_ [v_ l_6,o_ (.bin .add r_0 (i_ 1)),w_ 6 r_1])
.skip))))))
def t90L2:aL:=(.seq (g_ [o_ (.nextM iL),s_ 12 (.extract 0 r_0)])
(.seq (.cond nT
.skip
(.exit 0))
(.block 1
(h_ [o_ (.entryM iL),o_ (.extract 0 r_0),w_ 4 r_1]
(h_ [v_ l_0,o_ (.nilCheck r_0),f_ 3 r_1,d_ r_2,v_ l_1,o_ (.indexAddrS 1 r_3 r_4),d_ r_5,v_ l_4,o_ (.lookup (.leaf .int) (.int .i64 0) true r_6 r_7),v_ r_8,o_ (.extract 0 r_9),o_ (.extract 1 r_9),v_ gE,w_ 5 iE]
(h_ [v_ l_5,o_ (.un .not r_0),v_ r_1,y_ 2 (.mov l_0),y_ 2 (.mov l_4),y_ 2 (.call false false 119 [r_3,r_4]),s_ 13 (.pick r_2 r_5 F_)]
(.cond pS
(h_ [w_ 3 F_]
.ret)
.skip)))))))
def t90:aS:=⟨3,20,[.loc 3],
(h_ [w_ 3 F_]
(.seq (.seq (g_ [v_ l_1,s_ 10 (.bin .lss r_0 (i_ 32))])
(.cond iS
(.seq (.seq (g_ [v_ l_0,o_ (.nilCheck r_0),f_ 3 r_1,d_ r_2,v_ l_2,o_ (.indexAddrS 1 r_3 r_4),d_ r_5,s_ 11 (.range false r_6)])
(.block 0
(.loop t90L2)))
(h_ [w_ 3 T_]
.ret))
.skip))
(h_ [w_ 6 (i_ 0)]
(.seq (.seq (g_ [v_ l_0,o_ (.nilCheck r_0),f_ 3 r_1,d_ r_2,v_ l_1,o_ (.indexAddrS 1 r_3 r_4),d_ r_5,s_ 14 (.range false r_6)])
(.block 2
(.loop t90L1)))
(.seq (.seq (g_ [v_ l_0,o_ (.nilCheck r_0),f_ 3 r_1,d_ r_2,v_ l_2,o_ (.indexAddrS 1 r_3 r_4),d_ r_5,s_ 17 (.range false r_6)])
(.block 4
(.loop t90L0)))
(h_ [v_ l_6,o_ (.bin .lss r_0 (i_ 24)),w_ 3 r_1]
.ret))))))⟩
def a91:Ann:=⟨[0,1,2,6,21,23],[],[],[],[]⟩
def t91L0:aL:=(.seq (g_ [o_ (.nextM l_4),s_ 5 (.extract 0 r_0)])
(.seq (.cond l_5
.skip
(.exit 0))
(.block 1
(h_ [o_ (.entryM l_4),o_ (.extract 0 r_0),w_ 3 r_1]
(h_ [v_ l_0,o_ (.nilCheck r_0),f_ 3 r_1,d_ r_2,v_ l_3,o_ (.indexAddrS 1 r_3 r_4),d_ r_5,v_ l_2,o_ (.delete (.leaf .int) r_6 r_7)]
(g_ [v_ l_0,v_ l_1,v_ l_3,o_ (.call false false 88 [r_0,r_1,r_2])]))))))
def t91:aS:=⟨3,6,[],
(h_ [v_ l_0,o_ (.nilCheck r_0),f_ 5 r_1,d_ r_2,v_ l_2,v_ l_1,o_ (.indexAddrS 1 r_3 r_4),o_ (.store 1 r_6 r_5)]
(.seq (.seq (g_ [v_ l_0,o_ (.nilCheck r_0),f_ 3 r_1,d_ r_2,v_ l_2,o_ (.indexAddrS 1 r_3 r_4),d_ r_5,s_ 4 (.range false r_6)])
(.block 0
(.loop t91L0)))
(g_ [v_ l_0,o_ (.nilCheck r_0),f_ 3 r_1,d_ r_2,v_ l_2,o_ (.mkMap),o_ (.indexAddrS 1 r_3 r_4),o_ (.store 1 r_6 r_5)])))⟩
def a92:Ann:=⟨[0,1,3,8,18],[],[],[],[]⟩
def t92L0:aL:=(.seq (.seq (g_ [v_ l_2,s_ 3 (.bin .geq r_0 (i_ 0))])
(.cond l_3
.skip
(.exit 0)))
(.seq (.block 1
(h_ [v_ l_0,v_ l_2,d_ l_1,v_ l_2,o_ (.indexAddrS 1 r_2 r_3),d_ r_4,o_ (.callv r_0 [r_1,r_5]),s_ 4 (.un .not r_6)]
(.cond l_4
.ret
.skip)))
(g_ [v_ l_2,o_ (.bin .sub r_0 (i_ 1)),w_ 2 r_1])))
def t92:aS:=⟨2,5,[],
(h_ [d_ l_1,o_ (.len .sl r_0),o_ (.bin .sub r_1 (i_ 1)),w_ 2 r_2]
(.block 0
(.loop t92L0)))⟩
def a93:Ann:=⟨[0,1,3],[],[],[],[]⟩
def t93:aS:=⟨2,3,[.loc 2],
(h_ [w_ 2 F_]
(h_ [d_ l_1,v_ l_0,o_ (.indexAddrS 1 r_0 r_1),d_ r_2,o_ (.bin .lss r_3 (i_ 24)),w_ 2 r_4]
.ret))⟩
def a94:Ann:=⟨[0,1,4,5,6,9,17,27],[],[],[],[]⟩
def t94L0:aL:=(.seq (.seq (g_ [v_ l_4,v_ l_0,o_ (.len .sl r_1),s_ 6 (.bin .lss r_0 r_2)])
(.cond l_6
.skip
(.exit 0)))
(.seq (.block 1
(h_ [v_ l_1,v_ l_0,v_ l_4,o_ (.indexAddrS 1 r_1 r_2),d_ r_3,v_ l_3,o_ (.callv r_0 [r_4,r_5]),s_ 7 (.bin .gtr r_6 (i_ 0))]
(.cond l_7
(g_ [v_ l_0,v_ l_4,o_ (.indexAddrS 1 r_0 r_1),d_ r_2,w_ 3 r_3])
.skip)))
(g_ [v_ l_4,o_ (.bin .add r_0 (i_ 1)),w_ 4 r_1])))
def t94:aS:=⟨2,8,[.loc 2],
(h_ [w_ 2 (i_ 0)]
(.seq (.seq (g_ [v_ l_0,o_ (.len .sl r_0),s_ 5 (.bin .lss r_1 (i_ 1))])
(.cond l_5
(g_ [o_ (.bad),o_ (.bad)])
.skip))
(h_ [v_ l_0,o_ (.indexAddrS 1 r_0 (i_ 0)),d_ r_1,w_ 3 r_2]
(.seq (.seq (g_ [w_ 4 (i_ 1)])
(.block 0
(.loop t94L0)))
(h_ [v_ l_3,w_ 2 r_0]
.ret)))))⟩
def a95:Ann:=⟨[0,1,2,5],[],[],[],[(1,⟨[0,0,3,7,0,0,48,112,255,511],[0,1,2,3,4,5,6,7],[(8,[],[9])]⟩)]⟩
def t95:aS:=⟨3,4,[.loc 3],
(h_ [w_ 3 (i_ 0)]
(.seq (.draw [0,1,2,3,4,5,6,7] [(8,[],[9])] [d_ l_2,v_ l_0,o_ (.indexAddrS 1 r_0 r_1),d_ r_2,d_ l_2,v_ l_1,o_ (.indexAddrS 1 r_4 r_5),d_ r_6,c_ 96 [r_3,r_7],w_ 3 r_8])
.ret))⟩
def a96:Ann:=⟨[0,1,4,5,6,11,12,13,16,19],[],[],[],[]⟩
def t96:aS:=⟨2,10,[.loc 2],
(h_ [w_ 2 (i_ 0)]
(h_ [v_ l_0,c_ 120 [r_0],w_ 3 r_1]
(h_ [v_ l_1,c_ 120 [r_0],w_ 4 r_1]
(.seq (.seq (g_ [w_ 5 l_3])
(.cond l_5
(.seq (.seq (g_ [w_ 6 l_4])
(.cond l_6
(h_ [w_ 2 (i_ 0)]
.ret)
.skip))
(h_ [s_ 2 (.mov (i_ (-1)))]
.ret))
.skip))
(.seq (.seq (g_ [w_ 7 l_4])
(.cond l_7
(h_ [w_ 2 (i_ 1)]
.ret)
.skip))
(.seq (.seq (g_ [v_ l_0,v_ l_1,s_ 8 (.bin .lss r_0 r_1)])
(.cond l_8
(h_ [s_ 2 (.mov (i_ (-1)))]
.ret)
.skip))
(.seq (.seq (g_ [v_ l_0,v_ l_1,s_ 9 (.bin .gtr r_0 r_1)])
(.cond l_9
(h_ [w_ 2 (i_ 1)]
.ret)
.skip))
(h_ [w_ 2 (i_ 0)]
.ret))))))))⟩
def a97:Ann:=⟨[0,1,2,6,7,16],[],[],[],[(5,⟨[0,0,3,0,0,24,63,127],[0,1,2,3,4,5],[(6,[],[7])]⟩)]⟩
def t97:aS:=⟨3,6,[.loc 3],
(h_ [w_ 3 N_]
(h_ [v_ l_0,v_ l_1,v_ l_2,v_ l_0,o_ (.len .sl r_3),o_ (.slice (.sl 1) r_0 (some r_1) (some r_2) (some r_4))]
(.seq (.seq (g_ [v_ l_1,v_ l_2,s_ 5 (.bin .eql r_0 r_1)])
(.cond l_5
(h_ [v_ l_0,w_ 3 r_0]
.ret)
.skip))
(h_ [v_ l_0,o_ (.len .sl r_0),w_ 4 r_1]
(.seq (.draw [0,1,2,3,4,5] [(6,[],[7])] [v_ l_0,v_ l_1,o_ (.slice (.sl 1) r_0 none (some r_1) none),v_ l_0,v_ l_2,o_ (.slice (.sl 1) r_3 (some r_4) none none),o_ (.append false 1 8 3 r_2 r_5),w_ 0 r_6])
(h_ [v_ l_0,v_ l_0,o_ (.len .sl r_1),v_ l_4,o_ (.slice (.sl 1) r_0 (some r_2) (some r_3) none),o_ (.clear Z1_ r_4)]
(h_ [v_ l_0,w_ 3 r_0]
.ret)))))))⟩
def a98:Ann:=⟨[0,1,4,5,7,8,9,10,11,12,13,23,25,35,46,52],[5],[],[],[]⟩
def t98L0:aL:=(.seq (.seq (g_ [v_ l_6,s_ 14 (.bin .leq r_0 (i_ 24))])
(.cond pT
.skip
(.exit 4)))
(.seq (.block 5
(h_ [v_ l_6,o_ (.indexAddrA 25 1 l_3 r_0),d_ r_1,s_ 15 (.un .not r_2)]
(.cond xG
(h_ [v_ l_6,w_ 2 r_0]
.ret)
.skip)))
(g_ [v_ l_6,o_ (.bin .add r_0 (i_ 1)),w_ 6 r_1])))
def t98L1:aL:=(.seq (g_ [o_ (.nextM iL), s_ 12 (.extract 0 r_0)])
(.seq (.cond nT
.skip
(.exit 2))
(.block 3
(h_ [o_ (.entryM iL),o_ (.extract 0 r_0),w_ 5 r_1]
(h_ [v_ l_0,o_ (.nilCheck r_0),f_ 6 r_1,d_ r_2,v_ l_5,o_ (.indexAddrS 1 r_3 r_4),d_ r_5,s_ 13 (.call true false 87 [r_6])]
(.cond pS
(g_ [v_ l_0,o_ (.nilCheck r_0),f_ 6 r_1,d_ r_2,v_ l_5,o_ (.indexAddrS 1 r_3 r_4),d_ r_5,o_ (.indexAddrA 25 1 l_3 r_6),o_ (.store 1 r_7 T_)])
.skip))))))
def t98L2:aL:=(.seq (g_ [s_ 10 (.bin .lss l_9 l_8)])
(.seq (.cond iS
.skip
(.exit 0))
(.seq (.block 1
(h_ [o_ (.indexAddrS 1 l_7 l_9),d_ r_0,w_ 4 r_1]
(h_ [v_ l_0,o_ (.nilCheck r_0),f_ 4 r_1,d_ r_2,v_ l_4,o_ (.indexAddrS 1 r_3 r_4),d_ r_5,s_ 11 (.range false r_6)]
(.block 2
(.loop t98L1)))))
(g_ [o_ (.bin .add l_9 (i_ 1)),w_ 9 r_0]))))
def t98:aS:=⟨2,16,[.loc 2],
(h_ [w_ 2 (i_ 0)]
(h_ [o_ (.allocL 3 [(.bool false),(.bool false),(.bool false),(.bool false),(.bool false),(.bool false),(.bool false),(.bool false),(.bool false),(.bool false),(.bool false),(.bool false),(.bool false),(.bool false),(.bool false),(.bool false),(.bool false),(.bool false),(.bool false),(.bool false),(.bool false),(.bool false),(.bool false),(.bool false),(.bool false)])]
(.seq (.seq (g_ [w_ 7 l_1,s_ 8 (.len .sl r_0),w_ 9 (i_ 0)])
(.block 0
(.loop t98L2)))
(.seq (.seq (g_ [w_ 6 (i_ 1)])
(.block 4
(.loop t98L0)))
(h_ [s_ 2 (.mov (i_ (-1)))]
.ret)))))⟩
def a99:Ann:=⟨[0,2],[],[],[],[]⟩
def t99:aS:=⟨1,2,[.loc 1],
(h_ [w_ 1 F_]
(h_ [v_ l_0,o_ (.bin .leq r_0 (i_ 0)),w_ 1 r_1]
.ret))⟩
def a100:Ann:=⟨[0,2,3,4,5,8,13,25,32,44],[],[],[],[(6,⟨[0,0,3,7,0,0,32,112,240,511],[0,1,2,3,4,5,6,7,8,9],[]⟩),(11,⟨[0,0,3,7,0,0,32,112,240,511],[0,1,2,3,4,5,6,7,8,9],[]⟩)]⟩
def t100L0:aL:=(.seq (.seq (g_ [v_ l_4, v_ l_3, o_ (.len .sl r_1), s_ 8 (.bin .lss r_0 r_2)])
(.cond l_8
.skip
(.exit 2)))
(.seq (.block 3
(.seq (.draw [0,1,2,3,4,5,6,7,8,9] [] [v_ l_3,v_ l_4,o_ (.indexAddrS 1 r_0 r_1),d_ r_2,v_ l_3,v_ l_4,o_ (.bin .sub r_5 (i_ 1)),o_ (.indexAddrS 1 r_4 r_6),d_ r_7,s_ 9 (.bin .neq r_3 r_8)])
(.cond l_9
(h_ [v_ l_0,v_ l_2,v_ l_3,v_ l_4,o_ (.indexAddrS 1 r_2 r_3),d_ r_4,o_ (.indexAddrS 1 r_0 r_1),o_ (.store 1 r_6 r_5)]
(g_ [v_ l_2,o_ (.bin .add r_0 (i_ 1)),w_ 2 r_1]))
.skip)))
(g_ [v_ l_4,o_ (.bin .add r_0 (i_ 1)),w_ 4 r_1])))
def t100L1:aL:=(.seq (.seq (g_ [v_ l_2,v_ l_0,o_ (.len .sl r_1),s_ 6 (.bin .lss r_0 r_2)])
(.cond l_6
.skip
(.exit 0)))
(.seq (.block 1
(.seq (.draw [0,1,2,3,4,5,6,7,8,9] [] [v_ l_0,v_ l_2,o_ (.indexAddrS 1 r_0 r_1),d_ r_2,v_ l_0,v_ l_2,o_ (.bin .sub r_5 (i_ 1)),o_ (.indexAddrS 1 r_4 r_6),d_ r_7,s_ 7 (.bin .eql r_3 r_8)])
(.cond l_7
(h_ [v_ l_0,v_ l_2,o_ (.slice (.sl 1) r_0 (some r_1) none none),w_ 3 r_2]
(.seq (.seq (g_ [w_ 4 (i_ 1)])
(.block 2
(.loop t100L0)))
(h_ [v_ l_0,v_ l_2,o_ (.slice (.sl 1) r_0 (some r_1) none none),o_ (.clear Z1_ r_2)]
(h_ [v_ l_0,v_ l_2,o_ (.slice (.sl 1) r_0 none (some r_1) none),w_ 1 r_2]
.ret))))
.skip)))
(g_ [v_ l_2,o_ (.bin .add r_0 (i_ 1)),w_ 2 r_1])))
def t100:aS:=⟨1,10,[.loc 1],
(h_ [w_ 1 N_]
(.seq (.seq (g_ [v_ l_0,o_ (.len .sl r_0),s_ 5 (.bin .lss r_1 (i_ 2))])
(.cond l_5
(h_ [v_ l_0,w_ 1 r_0]
.ret)
.skip))
(.seq (.seq (g_ [w_ 2 (i_ 1)])
(.block 0
(.loop t100L1)))
(h_ [v_ l_0,w_ 1 r_0]
.ret))))⟩
def a112:Ann:=⟨[0,1,2,3,4,5,6,7,8,9,10,12,16,43,44,45,46,50],[12,1],[],[],[(13,⟨[0,0,2,6,0,16,48,126,255,511,1023],[0,1,2,3,4,5,6,7,8,9,10],[]⟩)]⟩
def t112L0:aL:=(.seq (g_ [s_ 16 (.bin .lss xG pT)])
(.seq (.cond rX
.skip
(.exit 0))
(.seq (.block 1
(h_ [o_ (.indexAddrS 2 pS xG),o_ (.loadN 2 r_0),o_ (.allocL 11 [(.bool false),(.int .i64 0)]),o_ (.store 2 r_2 r_1)]
(h_ [f_ 0 iL,s_ 17 (.load1 r_0)]
(.cond aGx
(h_ [v_ l_9,f_ 1 iL,d_ r_1,o_ (.conv (.toInt .u32) r_2),v_ iS,o_ (.bin .shl r_3 r_4),o_ (.bin .or r_0 r_5),w_ 9 r_6]
(g_ [v_ iS,o_ (.bin .sub r_0 (i_ 5)),w_ 10 r_1]))
.skip))))
(g_ [o_ (.bin .add xG (i_ 1)),w_ 15 r_0]))))
def t112:aS:=⟨1,18,[.loc 2,.loc 3],
(h_ [o_ (.boxL 1 l_0),s_ 2 (.mov (.cst (.int .u32 0))),w_ 3 (i_ 0)]
(.seq (.seq (g_ [o_ (.loadN 5 l_1),c_ 126 [r_0],w_ 4 r_1])
(h_ [v_ l_4,s_ 12 (.bin .neq r_0 (i_ 0))]
(.cond nT
(h_ [v_ l_4,s_ 2 (.mov (.cst (.int .u32 0))),w_ 3 r_0]
.ret)
.skip)))
(h_ [f_ 0 l_1,d_ r_0,c_ 128 [r_1],c_ 127 [r_2],v_ r_3,o_ (.extract 0 r_4),o_ (.extract 1 r_4),o_ (.extract 2 r_4),o_ (.extract 3 r_4),w_ 5 r_5,w_ 6 r_6,w_ 7 r_7,w_ 8 r_8]
(h_ [f_ 0 l_1,d_ r_0,o_ (.conv (.toInt .u32) r_1),o_ (.bin .shl r_2 (.cst (.int .u64 26))),w_ 9 r_3,w_ 10 (i_ 21)]
(.seq (.seq (g_ [v_ l_5,f_ 1 l_1,d_ r_1,o_ (.build [(.bool false),(.int .i64 0)] [(0,1,r_0),(1,1,r_2)]),v_ l_6,f_ 2 l_1,d_ r_5,o_ (.build [(.bool false),(.int .i64 0)] [(0,1,r_4),(1,1,r_6)]),v_ l_7,f_ 3 l_1,d_ r_9,o_ (.build [(.bool false),(.int .i64 0)] [(0,1,r_8),(1,1,gE)]),s_ 13 (.lit false [(.bool false),(.int .i64 0)] 3 [(0,r_3),(1,r_7),(2,iE)]),s_ 14 (.len .sl kO),w_ 15 (i_ 0)])
(.block 0
(.loop t112L0)))
(.seq (.draw [0,1,2,3,4,5,6,7,8,9,10] [] [v_ l_9,f_ 4 l_1,d_ r_1,o_ (.conv (.toInt .u32) r_2),v_ l_8,o_ (.bin .shl (.cst (.int .u32 1)) r_4),o_ (.bin .sub r_5 (.cst (.int .u32 1))),o_ (.bin .and r_3 r_6),o_ (.bin .or r_0 r_7),w_ 2 r_8,w_ 3 (i_ 0)])
.ret))))))⟩
end Go.Proofs.YtehlgnfhkidgoaaGreatDoor
