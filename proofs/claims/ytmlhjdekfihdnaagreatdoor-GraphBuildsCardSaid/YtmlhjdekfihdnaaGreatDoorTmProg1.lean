/- The functions of this seat, compiled for the evaluator TM; each held against the translation by the kernel. By program. Condition: none. -/
import Derived.Test.YtmlhjdekfihdnaaGreatDoorPrim
set_option maxRecDepth 100000
set_option linter.unusedVariables false
namespace Go.Proofs.YtmlhjdekfihdnaaGreatDoor
open Go Go.TM
abbrev r_0:aE:=.reg 0
abbrev r_1:aE:=.reg 1
abbrev r_2:aE:=.reg 2
abbrev r_3:aE:=.reg 3
abbrev r_4:aE:=.reg 4
abbrev r_5:aE:=.reg 5
abbrev r_6:aE:=.reg 6
abbrev r_7:aE:=.reg 7
abbrev r_8:aE:=.reg 8
abbrev r_9:aE:=.reg 9
abbrev dH:aE:=.reg 10
abbrev dQ:aE:=.reg 11
abbrev eT:aE:=.reg 12
abbrev gK:aE:=.reg 13
abbrev gL:aE:=.reg 14
abbrev gY:aE:=.reg 15
abbrev iF:aE:=.reg 16
abbrev lF:aE:=.reg 17
abbrev mN:aE:=.reg 18
abbrev pB:aE:=.reg 19
abbrev pC:aE:=.reg 20
abbrev pE:aE:=.reg 21
abbrev rM:aE:=.reg 22
abbrev wO:aE:=.reg 23
abbrev wP:aE:=.reg 24
abbrev aBz:aE:=.reg 25
abbrev aGn:aE:=.reg 26
abbrev aJ5:aE:=.reg 27
abbrev aNt:aE:=.reg 28
abbrev bBf:aE:=.reg 29
abbrev bBg:aE:=.reg 30
abbrev bBh:aE:=.reg 31
abbrev bJj:aE:=.reg 32
abbrev bJk:aE:=.reg 33
abbrev bK7:aE:=.reg 34
abbrev bL5:aE:=.reg 35
abbrev bL6:aE:=.reg 36
abbrev bL7:aE:=.reg 37
abbrev bL8:aE:=.reg 38
abbrev bL9:aE:=.reg 39
abbrev bMa:aE:=.reg 40
abbrev bMb:aE:=.reg 41
abbrev bMc:aE:=.reg 42
abbrev bMd:aE:=.reg 43
abbrev bMe:aE:=.reg 44
abbrev bMf:aE:=.reg 45
abbrev l_0:aE:=.loc 0
abbrev l_1:aE:=.loc 1
abbrev l_2:aE:=.loc 2
abbrev l_3:aE:=.loc 3
abbrev l_4:aE:=.loc 4
abbrev l_5:aE:=.loc 5
abbrev l_6:aE:=.loc 6
abbrev l_7:aE:=.loc 7
abbrev l_8:aE:=.loc 8
abbrev l_9:aE:=.loc 9
abbrev gA:aE:=.loc 10
abbrev iG:aE:=.loc 11
abbrev lG:aE:=.loc 12
abbrev pF:aE:=.loc 13
abbrev oU:aE:=.loc 14
abbrev wQ:aE:=.loc 15
abbrev vH:aE:=.loc 16
abbrev aJ6:aE:=.loc 17
abbrev aCs:aE:=.loc 18
abbrev bBi:aE:=.loc 19
abbrev bBj:aE:=.loc 20
abbrev aNu:aE:=.loc 21
abbrev bK8:aE:=.loc 22
abbrev bMg:aE:=.loc 23
abbrev bMh:aE:=.loc 24
abbrev bJl:aE:=.loc 25
abbrev bMi:aE:=.loc 26
abbrev bMj:aE:=.loc 27
abbrev T_:aE:=.cst (.bool true)
abbrev F_:aE:=.cst (.bool false)
abbrev N_:aE:=.cst (.sl .nil [])
abbrev y_ (n:Nat) (x:TOp):aI:=⟨x, none, some (n, true)⟩
abbrev x_ (n:Nat) (x:TOp):aI:=⟨x, none, some (n, false)⟩
abbrev c_ (n:Nat) (l:List aE):aI:=⟨.call true false n l, none, none⟩
abbrev g_ (l:List aI):aJ:=.region l
abbrev h_ (l:List aI) (b:aJ):aJ:=.seq (.region l) b
abbrev v_ (x:aE):aI:=⟨.mov x, none, none⟩
abbrev w_ (n:Nat) (x:aE):aI:=⟨.mov x, some n, none⟩
abbrev d_ (x:aE):aI:=⟨.load1 x, none, none⟩
abbrev f_ (n:Nat) (x:aE):aI:=⟨.fieldAddr n x, none, none⟩
abbrev o_ (x:TOp):aI:=⟨x,none,none⟩
abbrev s_ (n:Nat) (x:TOp):aI:=⟨x,some n,none⟩
abbrev i_ (n:Int):aE:=.cst (.int .i64 n)
def opts:cT:=⟨fun f=>([13,14,18,19,20,21,22,23,25,27,28,29,30,31,32,40,41,42,43,44,45,48,51,52,53,55,57,59,60,61,62,63,64,65,71,74,77,78,79,81,83,84,89,90,91,92,93,94,95,97,98,101,102,103,104,105,106,107,108,114,116,117,118,119,120,121,123,131,132,147,148,149,150,151,152,153]:List Nat).contains f,fun f=>([61,64]:List Nat).contains f⟩
def a3:Ann:=⟨[0,1,2,3,4,5,6,7,16,22,32],[6,4,1],[],[],[]⟩
def t3L0:aJ:=(.seq (.seq (g_ [v_ l_3,f_ 6 l_1,d_ r_1,o_ (.len .sl r_2),s_ 9 (.bin .lss r_0 r_3)])
(.cond l_9
.skip
(.exit 0)))
(.seq (.block 1
(h_ [f_ 6 l_1,d_ r_0,v_ l_3,o_ (.indexAddrS 8 r_1 r_2),f_ 6 r_3,d_ r_4,o_ (.len .sl r_5),s_ 10 (.bin .gtr r_6 (i_ 10))]
(.cond gA
(h_ [c_ 4 [],w_ 2 r_0]
.ret)
.skip)))
(g_ [v_ l_3,o_ (.bin .add r_0 (i_ 1)),w_ 3 r_1])))
def t3:aR:=⟨1,11,[.loc 2],
(h_ [o_ (.boxL 1 l_0),w_ 2 F_]
(.seq (.seq (g_ [f_ 6 l_1,d_ r_0,o_ (.len .sl r_1),o_ (.bin .gtr r_2 (i_ 60)),v_ r_3,x_ 4 (.fieldAddr 1 l_1),x_ 4 (.load1 r_5),x_ 4 (.bin .gtr r_6 (i_ 60)),s_ 8 (.pick r_4 T_ r_7)])
(.cond l_8
(h_ [c_ 4 [],w_ 2 r_0]
.ret)
.skip))
(.seq (.seq (g_ [w_ 3 (i_ 0)])
(.block 0
(.loop t3L0)))
(h_ [o_ (.loadN 7 l_1),c_ 5 [r_0],v_ r_1,o_ (.extract 0 r_2),o_ (.extract 1 r_2),o_ (.allocL 4 [(.int .i64 0),(.sl .nil []),(.sl .nil [])]),o_ (.store 3 r_5 r_3),w_ 5 r_4]
(h_ [o_ (.loadN 7 l_1),c_ 6 [r_0],v_ r_1,o_ (.extract 0 r_2),o_ (.extract 1 r_2),o_ (.allocL 6 [(.int .i64 0),(.sl .nil []),(.sl .nil [])]),o_ (.store 3 r_5 r_3),w_ 7 r_4]
(h_ [v_ l_5,v_ l_7,o_ (.bin .eql r_0 r_1),v_ r_2,y_ 3 (.fieldAddr 0 l_4),y_ 3 (.load1 r_4),y_ 3 (.fieldAddr 0 l_6),y_ 3 (.load1 r_6),y_ 3 (.bin .eql r_5 r_7),o_ (.pick r_3 r_8 F_),v_ r_9,y_ 10 (.fieldAddr 1 l_4),y_ 10 (.load1 dQ),y_ 10 (.fieldAddr 1 l_6),y_ 10 (.load1 gK),y_ 10 (.call true false 7 [eT,gL]),o_ (.pick dH gY F_),v_ iF,y_ 17 (.fieldAddr 2 l_4),y_ 17 (.load1 mN),y_ 17 (.fieldAddr 2 l_6),y_ 17 (.load1 pC),y_ 17 (.call true false 7 [pB,pE]),o_ (.pick lF rM F_),v_ wO,y_ 24 (.call true false 4 []),o_ (.pick wP aBz F_),w_ 2 aGn]
.ret))))))⟩
def a4:Ann:=⟨[0,1],[],[],[],[(2,⟨[0,1,3,7,15,31,63,15,143,399,1023,2047,4095,8191,16383,32767,65535,131071,262143,524287,1048575,2097151,4194303,8388607,16777215,33554431,67108863,134217727,268435455,536870911,1073741823,2147483647,4294967295,8589934591,17179869183,34359738367],[0,1,2,3,4,5,6,7,8,9,10,11,12,13,14,15,16,17,18,19,20,21,22,23,24,25,26,27,28,29,30,31],[(32,[],[33,34,35])]⟩)]⟩
def t4:aR:=⟨0,2,[.loc 0],
(h_ [w_ 0 F_]
(h_ [o_ (.build [(.int .i64 0),(.int .i64 0)] [(0,1,(i_ 32)),(1,1,(i_ 33))]),o_ (.lit false [(.int .i64 0),(.int .i64 0)] 1 [(0,r_0)]),o_ (.build [(.int .i64 0),(.sl .nil []),(.sl .nil [])] [(0,1,(i_ 34)),(1,1,r_1)]),c_ 8 [r_2],w_ 1 r_3]
(.seq (.draw [0,1,2,3,4,5,6,7,8,9,10,11,12,13,14,15,16,17,18,19,20,21,22,23,24,25,26,27,28,29,30,31] [(32,[],[33,34,35])] [v_ l_1,o_ (.len .sl r_0),o_ (.bin .eql r_1 (i_ 34)),v_ r_2,y_ 3 (.mov l_1),y_ 3 (.indexAddrS 1 r_4 (i_ 32)),y_ 3 (.load1 r_5),y_ 3 (.mov l_1),y_ 3 (.indexAddrS 1 r_7 (i_ 33)),y_ 3 (.load1 r_8),y_ 3 (.bin .neq r_6 r_9),o_ (.pick r_3 dH F_),v_ dQ,y_ 12 (.mov l_1),y_ 12 (.indexAddrS 1 gK (i_ 32)),y_ 12 (.load1 gL),y_ 12 (.bin .geq gY (i_ 1)),o_ (.pick eT iF F_),v_ lF,y_ 18 (.mov l_1),y_ 18 (.indexAddrS 1 pB (i_ 33)),y_ 18 (.load1 pC),y_ 18 (.bin .geq pE (i_ 1)),o_ (.pick mN rM F_),v_ wO,y_ 24 (.mov l_1),y_ 24 (.indexAddrS 1 aBz (i_ 5)),y_ 24 (.load1 aGn),y_ 24 (.bin .eql aJ5 (i_ 5)),o_ (.pick wP aNt F_),v_ bBf,y_ 30 (.build [(.int .i64 0),(.sl .nil []),(.sl .nil [])] [(0,1,(i_ 34))]),y_ 30 (.call true false 9 [bBh,N_]),y_ 30 (.un .not bJj),o_ (.pick bBg bJk F_),w_ 0 bK7])
.ret)))⟩
def a5:Ann:=⟨[0,1,2,3,4,5,6,7,8,9,10,12,14,21,27,28,29,30,53,66,67,68,69,78,79,80,81,102],[9,2,1],[],[],[(9,⟨[0,0,2,0,8,30,63,127,63,319,1023],[0,1,2,3,4],[(5,[],[6,7]),(8,[6],[9]),(10,[],[])]⟩),(17,⟨[0,0,3,7,15,31,63,127,255,255,1023,255,2303,255,8447,32767,65535,131071,262143],[0,1,2,3,4,5,6,7,8,9,11,12,13,14],[(10,[12,14],[]),(15,[],[16,17,18])]⟩),(18,⟨[0,0,0,6,15,31,15,79,255],[0,1,2],[(3,[],[4,5]),(6,[4],[7]),(8,[],[])]⟩),(22,⟨[0,1,0,4,0,28,63,127,255],[0,1,2,4],[(3,[1],[]),(5,[1],[6]),(7,[],[8])]⟩)]⟩
def t5L0:aJ:=(.seq (g_ [s_ 26 (.bin .lss bJl bMh)])
(.seq (.cond bMi
.skip
(.exit 4))
(.seq (.block 5
(h_ [o_ (.indexAddrS 1 bMg bJl),d_ r_0,w_ 12 r_1]
(.seq (.seq (.draw [0,1,2,3,4,5,6,7,8,9,11,12,13,14] [(10,[12,14],[]),(15,[],[16,17,18])] [v_ lG,v_ iG,o_ (.bin .eql r_0 r_1),v_ r_2,x_ 3 (.fieldAddr 0 l_9),x_ 3 (.load1 r_4),x_ 3 (.bin .eql r_5 (i_ 64)),x_ 3 (.mov r_6),y_ 7 (.mov iG),y_ 7 (.mov lG),y_ 7 (.call true false 11 [r_8,r_9]),y_ 7 (.fieldAddr 2 l_9),y_ 7 (.load1 dQ),y_ 7 (.fieldAddr 1 l_9),y_ 7 (.load1 gK),y_ 7 (.call true false 11 [eT,gL]),y_ 7 (.eqAgg false [(0,.int),(1,.int)] dH gY),x_ 3 (.pick r_7 iF F_),s_ 27 (.pick r_3 T_ lF)])
(.cond bMj
(.exit 5)
.skip))
(.draw [0,1,2] [(3,[],[4,5]),(6,[4],[7]),(8,[],[])] [v_ l_6,v_ iG,v_ lG,c_ 11 [r_1,r_2],o_ (.lookup (.agg [(0,.int),(1,.int)]) (.int .i64 0) false r_0 r_3),o_ (.bin .add r_4 (i_ 1)),o_ (.entry (.agg [(0,.int),(1,.int)]) (.int .i64 0) r_0 r_3),o_ (.extract 1 r_6),o_ (.entryStore r_0 r_7 r_5)]))))
(g_ [o_ (.bin .add bJl (i_ 1)),w_ 25 r_0]))))
def t5L1:aJ:=(.seq (g_ [s_ 22 (.bin .lss aNu bBj)])
(.seq (.cond bK8
.skip
(.exit 2))
(.seq (.block 3
(h_ [o_ (.indexAddrS 1 bBi aNu),d_ r_0,w_ 11 r_1]
(h_ [v_ l_4,v_ l_8,o_ (.indexAddrS 1 r_0 r_1),d_ r_2,v_ gA,o_ (.lit false [(.sl .nil [])] 2 [(0,r_3),(1,r_4)]),s_ 23 (.call false false 13 [r_5]),s_ 24 (.len .sl r_6),w_ 25 (i_ 0)]
(.block 4
(.loop t5L0)))))
(g_ [o_ (.bin .add aNu (i_ 1)),w_ 21 r_0]))))
def t5L2:aJ:=(.seq (g_ [s_ 17 (.bin .lss vH wQ)])
(.seq (.cond aJ6
.skip
(.exit 0))
(.seq (.block 1
(h_ [v_ vH,o_ (.indexAddrS 8 oU vH),o_ (.loadN 8 r_1),o_ (.allocL 9 [(.int .i64 0),(.int .i64 0),(.int .i64 0),(.int .i64 0),(.int .i64 0),(.int .i64 0),(.sl .nil []),(.sl .nil [])]),w_ 8 r_0,o_ (.store 8 r_3 r_2)]
(.seq (.seq (g_ [f_ 0 l_9,d_ r_0,o_ (.bin .eql r_1 (i_ 64)),v_ r_2,y_ 3 (.fieldAddr 2 l_9),y_ 3 (.load1 r_4),y_ 3 (.fieldAddr 1 l_9),y_ 3 (.load1 r_6),y_ 3 (.bin .neq r_5 r_7),o_ (.pick r_3 r_8 F_),v_ r_9,y_ 10 (.fieldAddr 2 l_9),y_ 10 (.load1 dQ),y_ 10 (.bin .neq eT (i_ 0)),o_ (.pick dH gK F_),v_ gL,y_ 15 (.fieldAddr 1 l_9),y_ 15 (.load1 iF),y_ 15 (.bin .neq lF (i_ 0)),s_ 18 (.pick gY mN F_)])
(.cond aCs
(.draw [0,1,2,3,4] [(5,[],[6,7]),(8,[6],[9]),(10,[],[])] [v_ l_7,f_ 2 l_9,d_ r_1,f_ 1 l_9,d_ r_3,c_ 11 [r_2,r_4],o_ (.lookup (.agg [(0,.int),(1,.int)]) (.int .i64 0) false r_0 r_5),o_ (.bin .add r_6 (i_ 1)),o_ (.entry (.agg [(0,.int),(1,.int)]) (.int .i64 0) r_0 r_5),o_ (.extract 1 r_8),o_ (.entryStore r_0 r_9 r_7)])
.skip))
(h_ [o_ (.loadN 8 l_9),c_ 12 [r_0],w_ 10 r_1]
(h_ [w_ 19 gA,s_ 20 (.len .sl r_0),w_ 21 (i_ 0)]
(.block 2
(.loop t5L1)))))))
(g_ [o_ (.bin .add vH (i_ 1)),w_ 16 r_0]))))
def t5:aR:=⟨1,28,[.cell 2 3 true,.loc 3],
(h_ [o_ (.boxL 1 l_0),o_ (.allocL 2 [(.int .i64 0),(.sl .nil []),(.sl .nil [])]),w_ 3 (i_ 0)]
(h_ [o_ (.loadN 7 l_1),c_ 10 [r_0],v_ r_1,o_ (.extract 0 r_2),o_ (.extract 1 r_2),w_ 4 r_3,w_ 5 r_4]
(.seq (.seq (g_ [v_ l_5,s_ 13 (.bin .neq r_0 (i_ 0))])
(.cond pF
(h_ [o_ (.build [(.int .i64 0),(.sl .nil []),(.sl .nil [])] []),v_ l_5,o_ (.store 3 l_2 r_0),w_ 3 r_1]
.ret)
.skip))
(h_ [o_ (.mkMap),o_ (.mkMap),w_ 6 r_0,w_ 7 r_1]
(.seq (.seq (g_ [f_ 6 l_1,s_ 14 (.load1 r_0),s_ 15 (.len .sl r_1),w_ 16 (i_ 0)])
(.block 0
(.loop t5L2)))
(.seq (.draw [0,1,2,4] [(3,[1],[]),(5,[1],[6]),(7,[],[8])] [f_ 1 l_1,d_ r_0,v_ l_6,o_ (.call false false 14 [r_2]),v_ l_7,o_ (.call false false 14 [r_4]),o_ (.build [(.int .i64 0),(.sl .nil []),(.sl .nil [])] [(0,1,r_1),(1,1,r_3),(2,1,r_5)]),o_ (.store 3 l_2 r_6),w_ 3 (i_ 0)])
.ret))))))⟩
def a6:Ann:=⟨[0,1,2,3,4,5,6,7,8,9,10,11,18,27,35,42,55,93],[11,6,2,1],[],[],[]⟩
def t6L0:aJ:=(.seq (.seq (g_ [v_ gA, f_ 6 l_1, d_ r_1, o_ (.len .sl r_2), s_ 16 (.bin .lss r_0 r_3)])
(.cond vH
.skip
(.exit 4)))
(.seq (.block 5
(h_ [f_ 6 l_1,d_ r_0,v_ gA,o_ (.indexAddrS 8 r_1 r_2),o_ (.loadN 8 r_3),o_ (.allocL 11 [(.int .i64 0),(.int .i64 0),(.int .i64 0),(.int .i64 0),(.int .i64 0),(.int .i64 0),(.sl .nil []),(.sl .nil [])]),o_ (.store 8 r_5 r_4)]
(g_ [v_ l_9,v_ r_0,x_ 1 (.fieldAddr 0 iG),x_ 1 (.load1 r_2),x_ 1 (.bin .eql r_3 (i_ 64)),x_ 1 (.mov r_4),y_ 5 (.fieldAddr 2 iG),y_ 5 (.load1 r_6),y_ 5 (.mov l_7),y_ 5 (.bin .eql r_7 r_8),y_ 5 (.mov r_9),y_ 10 (.fieldAddr 1 iG),y_ 10 (.load1 dQ),y_ 10 (.mov l_8),y_ 10 (.bin .eql eT gK),y_ 5 (.pick dH gL F_),y_ 5 (.mov gY),x_ 16 (.fieldAddr 2 iG),x_ 16 (.load1 lF),x_ 16 (.mov l_8),x_ 16 (.bin .eql mN pB),x_ 16 (.mov pC),y_ 21 (.fieldAddr 1 iG),y_ 21 (.load1 rM),y_ 21 (.mov l_7),y_ 21 (.bin .eql wO wP),x_ 16 (.pick pE aBz F_),y_ 5 (.pick iF T_ aGn),x_ 1 (.pick r_5 aJ5 F_),o_ (.pick r_1 T_ aNt),w_ 9 bBf])))
(g_ [v_ gA,o_ (.bin .add r_0 (i_ 1)),w_ 10 r_1])))
def t6L1:aJ:=(.seq (.seq (g_ [v_ l_8, f_ 1 l_1, d_ r_1, s_ 14 (.bin .lss r_0 r_2)])
(.cond oU
.skip
(.exit 2)))
(.seq (.block 3
(.seq (.seq (g_ [o_ (.loadN 7 l_1),v_ l_4,v_ l_7,v_ l_8,s_ 15 (.call true false 16 [r_0,r_1,r_2,r_3])])
(.cond wQ
(g_ [f_ 1 l_6,d_ r_0,v_ l_7,v_ l_8,o_ (.build [(.int .i64 0),(.int .i64 0)] [(0,1,r_2),(1,1,r_3)]),o_ (.lit false [(.int .i64 0),(.int .i64 0)] 1 [(0,r_4)]),o_ (.append false 2 16 41 r_1 r_5),f_ 1 l_6,o_ (.store 1 r_7 r_6)])
.skip))
(h_ [w_ 9 F_]
(.seq (.seq (g_ [w_ 10 (i_ 0)])
(.block 4
(.loop t6L0)))
(h_ [w_ 17 l_9]
(.cond aJ6
(g_ [f_ 2 l_6,d_ r_0,v_ l_7,v_ l_8,o_ (.build [(.int .i64 0),(.int .i64 0)] [(0,1,r_2),(1,1,r_3)]),o_ (.lit false [(.int .i64 0),(.int .i64 0)] 1 [(0,r_4)]),o_ (.append false 2 16 41 r_1 r_5),f_ 2 l_6,o_ (.store 1 r_7 r_6)])
.skip))))))
(g_ [v_ l_8,o_ (.bin .add r_0 (i_ 1)),w_ 8 r_1])))
def t6L2:aJ:=(.seq (.seq (g_ [v_ l_7,f_ 1 l_1,d_ r_1,s_ 13 (.bin .lss r_0 r_2)])
(.cond pF
.skip
(.exit 0)))
(.seq (.block 1
(h_ [v_ l_7,o_ (.bin .add r_0 (i_ 1)),w_ 8 r_1]
(.block 2
(.loop t6L1))))
(g_ [v_ l_7,o_ (.bin .add r_0 (i_ 1)),w_ 7 r_1])))
def t6:aR:=⟨1,18,[.cell 2 3 true,.loc 3],
(h_ [o_ (.boxL 1 l_0),o_ (.allocL 2 [(.int .i64 0),(.sl .nil []),(.sl .nil [])]),w_ 3 (i_ 0)]
(h_ [o_ (.loadN 7 l_1),c_ 15 [r_0],v_ r_1,o_ (.extract 0 r_2),o_ (.extract 1 r_2),w_ 4 r_3,w_ 5 r_4]
(.seq (.seq (g_ [v_ l_5,s_ 12 (.bin .neq r_0 (i_ 0))])
(.cond lG
(h_ [o_ (.build [(.int .i64 0),(.sl .nil []),(.sl .nil [])] []),v_ l_5,o_ (.store 3 l_2 r_0),w_ 3 r_1]
.ret)
.skip))
(h_ [f_ 1 l_1,d_ r_0,o_ (.build [(.int .i64 0),(.sl .nil []),(.sl .nil [])] [(0,1,r_1)]),o_ (.allocL 6 [(.int .i64 0),(.sl .nil []),(.sl .nil [])]),o_ (.store 3 r_3 r_2)]
(.seq (.seq (g_ [w_ 7 (i_ 1)])
(.block 0
(.loop t6L2)))
(h_ [o_ (.loadN 3 l_6),o_ (.store 3 l_2 r_0),w_ 3 (i_ 0)]
.ret))))))⟩
def a7:Ann:=⟨[0,1,4,5,10,14,25],[],[],[],[(6,⟨[0,0,3,7,0,0,48,112,255],[0,1,2,3,4,5,6,7,8],[]⟩)]⟩
def t7L0:aJ:=(.seq (.seq (g_ [v_ l_3,v_ l_0,o_ (.len .sl r_1),s_ 5 (.bin .lss r_0 r_2)])
(.cond l_5
.skip
(.exit 0)))
(.seq (.block 1
(.seq (.draw [0,1,2,3,4,5,6,7,8] [] [v_ l_0,v_ l_3,o_ (.indexAddrS 2 r_0 r_1),o_ (.loadN 2 r_2),v_ l_1,v_ l_3,o_ (.indexAddrS 2 r_4 r_5),o_ (.loadN 2 r_6),s_ 6 (.eqAgg true [(0,.int),(1,.int)] r_3 r_7)])
(.cond l_6
(h_ [w_ 2 F_]
.ret)
.skip)))
(g_ [v_ l_3,o_ (.bin .add r_0 (i_ 1)),w_ 3 r_1])))
def t7:aR:=⟨2,7,[.loc 2],
(h_ [w_ 2 F_]
(.seq (.seq (g_ [v_ l_0,o_ (.len .sl r_0),v_ l_1,o_ (.len .sl r_2),s_ 4 (.bin .neq r_1 r_3)])
(.cond l_4
(h_ [w_ 2 F_]
.ret)
.skip))
(.seq (.seq (g_ [w_ 3 (i_ 0)])
(.block 0
(.loop t7L0)))
(h_ [w_ 2 T_]
.ret))))⟩
def a8:Ann:=⟨[0,1,2,3,4,6,8,11,16,17,28,29,30,31,45,46,47],[1],[],[],[(17,⟨[0,0,0,6,15],[0,1,2],[(3,[0],[]),(4,[],[])]⟩)]⟩
def t8L0:aJ:=(.seq (g_ [s_ 13 (.bin .lss lG iG)])
(.seq (.cond pF
.skip
(.exit 2))
(.seq (.block 3
(h_ [o_ (.indexAddrS 1 gA lG),d_ r_0,w_ 5 r_1]
(g_ [d_ l_3,o_ (.nilCheck r_0),f_ 6 r_1,d_ r_2,v_ l_5,v_ l_4,o_ (.indexAddrS 1 r_3 r_4),o_ (.store 1 r_6 r_5)])))
(g_ [o_ (.bin .add lG (i_ 1)),w_ 12 r_0]))))
def t8L1:aJ:=(.seq (g_ [s_ 9 (.bin .lss l_8 (i_ 32))])
(.seq (.cond l_9
.skip
(.exit 0))
(.seq (.block 1
(h_ [v_ l_8,w_ 4 r_0]
(h_ [d_ l_3,o_ (.nilCheck r_0),f_ 6 r_1,d_ r_2,v_ l_4,v_ l_4,o_ (.indexAddrS 1 r_3 r_4),o_ (.store 1 r_6 r_5)]
(h_ [d_ l_3,v_ l_4,s_ 10 (.call false false 20 [r_0,r_1]),s_ 11 (.len .sl r_2),w_ 12 (i_ 0)]
(.block 2
(.loop t8L0))))))
(g_ [o_ (.bin .add l_8 (i_ 1)),w_ 8 r_0]))))
def t8:aR:=⟨1,17,[.loc 2],
(h_ [o_ (.boxL 1 l_0),w_ 2 N_]
(.seq (.seq (g_ [o_ (.loadN 3 l_1),c_ 17 [r_0],s_ 7 (.un .not r_1)])
(.cond l_7
(h_ [w_ 2 N_]
.ret)
.skip))
(h_ [o_ (.loadN 3 l_1),o_ (.call false false 18 [r_0]),s_ 3 (.allocH 55 [.nilp]),o_ (.store 1 r_2 r_1)]
(h_ [d_ l_3,o_ (.call false false 19 [r_0])]
(.seq (.seq (g_ [w_ 8 (i_ 0)])
(.block 0
(.loop t8L1)))
(.seq (.seq (g_ [d_ l_3,o_ (.call false false 22 [r_0]),s_ 14 (.call false false 21 [r_1])])
(.block 4
(.rangeFunc oU [15,16]
(g_ [w_ 6 vH])
(.block 5
(.draw [0,1,2] [(3,[0],[]),(4,[],[])] [d_ l_3,d_ l_3,v_ l_6,o_ (.call false false 20 [r_1,r_2]),o_ (.call false false 23 [r_0,r_3])])))))
(h_ [d_ l_3,o_ (.nilCheck r_0),f_ 6 r_1,d_ r_2,w_ 2 r_3]
.ret)))))))⟩
def a9:Ann:=⟨[0,1,2,3,4,5,6,16,17,18,19,20,43],[2],[],[],[]⟩
def t9L0:aJ:=(.seq (g_ [s_ 11 (.bin .lss gA l_9)])
(.seq (.cond iG
.skip
(.exit 0))
(.seq (.block 1
(h_ [v_ gA,o_ (.indexAddrS 1 l_8 gA),d_ r_1,w_ 5 r_0,w_ 6 r_2]
(h_ [v_ l_5,o_ (.bin .lss r_0 (i_ 32)),v_ r_1,y_ 2 (.mov l_6),y_ 2 (.mov l_5),y_ 2 (.bin .neq r_3 r_4),o_ (.pick r_2 r_5 F_),v_ r_6,x_ 7 (.mov l_5),x_ 7 (.bin .geq r_8 (i_ 32)),x_ 7 (.mov r_9),y_ 10 (.mov l_6),y_ 10 (.bin .neq dQ (i_ (-1))),x_ 7 (.pick dH eT F_),x_ 7 (.mov gK),y_ 14 (.mov l_6),y_ 14 (.call true false 24 [gY]),y_ 14 (.un .not iF),x_ 7 (.pick gL lF F_),s_ 12 (.pick r_7 T_ mN)]
(.cond lG
(h_ [w_ 4 F_]
.ret)
.skip))))
(g_ [o_ (.bin .add gA (i_ 1)),w_ 10 r_0]))))
def t9:aR:=⟨2,13,[.loc 4],
(h_ [o_ (.boxL 2 l_0),s_ 3 (.boxH 27 l_1),w_ 4 F_]
(.seq (.seq (g_ [o_ (.loadN 3 l_2),c_ 17 [r_0],o_ (.un .not r_1),v_ r_2,x_ 3 (.load1 l_3),x_ 3 (.len .sl r_4),x_ 3 (.fieldAddr 0 l_2),x_ 3 (.load1 r_6),x_ 3 (.bin .neq r_5 r_7),s_ 7 (.pick r_3 T_ r_8)])
(.cond l_7
(h_ [w_ 4 F_]
.ret)
.skip))
(.seq (.seq (g_ [s_ 8 (.load1 l_3),s_ 9 (.len .sl r_0),w_ 10 (i_ 0)])
(.block 0
(.loop t9L0)))
(h_ [f_ 1 l_2,d_ r_0,o_ (.mkFn 26 [] [l_3]),o_ (.call false false 25 [r_1,r_2]),o_ (.un .not r_3),w_ 4 r_4]
.ret))))⟩
def a10:Ann:=⟨[0,1,2,3,4,5,12],[1],[],[],[]⟩
def t10:aR:=⟨1,7,[.loc 2,.loc 3],
(h_ [o_ (.boxL 1 l_0),w_ 2 N_,w_ 3 (i_ 0)]
(h_ [o_ (.loadN 7 l_1),o_ (.call false false 27 [r_0]),v_ r_1,o_ (.extract 0 r_2),o_ (.extract 1 r_2),w_ 4 r_3,w_ 5 r_4]
(.seq (.seq (g_ [v_ l_5,s_ 6 (.bin .neq r_0 (i_ 0))])
(.cond l_6
(h_ [v_ l_5,w_ 2 N_,w_ 3 r_0]
.ret)
.skip))
(h_ [v_ l_4,o_ (.nilCheck r_0),f_ 9 r_1,d_ r_2,o_ (.call false false 28 [r_3]),w_ 2 r_4,w_ 3 (i_ 0)]
.ret))))⟩
def a11:Ann:=⟨[0,1,4],[4],[],[],[]⟩
def t11:aR:=⟨2,3,[.cell 2 2 true],
(h_ [o_ (.allocL 2 [(.int .i64 0),(.int .i64 0)])]
(h_ [v_ l_0,v_ l_1,o_ (.minmax false [r_0,r_1]),v_ l_0,v_ l_1,o_ (.minmax true [r_3,r_4]),o_ (.build [(.int .i64 0),(.int .i64 0)] [(0,1,r_2),(1,1,r_5)]),o_ (.store 2 l_2 r_6)]
.ret))⟩
def a12:Ann:=⟨[0,1,2,3,4,5,18,37,44,45],[1],[(2,2),(6,2),(8,2)],[],[]⟩
def t12L0:aJ:=(.seq (g_ [s_ 9 (.bin .lss l_8 (i_ 25))])
(.seq (.cond l_9
.skip
(.exit 1))
(.seq (.block 2
(h_ [v_ l_8,w_ 4 r_0]
(g_ [v_ l_3,v_ l_4,o_ (.bin .add r_1 (i_ 1)),o_ (.lit false [(.int .i64 0)] 1 [(0,r_2)]),o_ (.append false 1 8 3 r_0 r_3),w_ 3 r_4])))
(g_ [o_ (.bin .add l_8 (i_ 1)),w_ 8 r_0]))))
def t12:aR:=⟨1,10,[.loc 2],
(h_ [o_ (.boxL 1 l_0),w_ 2 N_]
(.seq (.block 0
(h_ [f_ 0 l_1,d_ r_0,o_ (.bin .geq r_1 (i_ 1)),v_ r_2,y_ 3 (.fieldAddr 0 l_1),y_ 3 (.load1 r_4),y_ 3 (.bin .leq r_5 (i_ 24)),o_ (.pick r_3 r_6 F_),w_ 5 r_7]
(.cond l_5
(h_ [f_ 1 l_1,d_ r_0,o_ (.lit true [(.int .i64 0)] 1 [(0,r_1)]),o_ (.call false false 29 [r_2]),w_ 2 r_3]
.ret)
(.seq (.seq (g_ [f_ 0 l_1,d_ r_0,o_ (.bin .eql r_1 (i_ 64)),w_ 6 r_2])
(.cond l_6
.skip
(h_ [f_ 0 l_1,d_ r_0,o_ (.bin .geq r_1 (i_ 69)),v_ r_2,y_ 3 (.fieldAddr 0 l_1),y_ 3 (.load1 r_4),y_ 3 (.bin .leq r_5 (i_ 71)),o_ (.pick r_3 r_6 F_),w_ 6 r_7]
(.cond l_6
.skip
(g_ [f_ 0 l_1,d_ r_0,o_ (.bin .eql r_1 (i_ 73)),w_ 6 r_2])))))
(.cond l_6
(h_ [f_ 1 l_1,d_ r_0,o_ (.lit true [(.int .i64 0)] 1 [(0,r_1)]),o_ (.call false false 29 [r_2]),w_ 2 r_3]
.ret)
(h_ [f_ 0 l_1,d_ r_0,o_ (.bin .eql r_1 (i_ 67)),w_ 7 r_2]
(.cond l_7
(h_ [f_ 1 l_1,d_ r_0,o_ (.lit true [(.int .i64 0)] 3 [(0,r_1),(1,(i_ 26)),(2,(i_ 31))]),w_ 3 r_2]
(.seq (.seq (g_ [w_ 8 (i_ 0)])
(.block 1
(.loop t12L0)))
(h_ [v_ l_3,o_ (.call false false 29 [r_0]),w_ 2 r_1]
.ret)))
.skip)))))))
(h_ [w_ 2 N_]
.ret)))⟩
def a13:Ann:=⟨[0,2,3,5,6,8,9,10,11,12,20,25,26,27,28],[],[],[],[]⟩
def t13L0:aJ:=(.seq (g_ [s_ 14 (.bin .lss pF lG)])
(.seq (.cond oU
.skip
(.exit 2))
(.seq (.block 3
(h_ [o_ (.indexAddrS 1 iG pF),d_ r_0,w_ 5 r_1]
(g_ [v_ l_4,v_ l_5,o_ (.append false 1 8 3 r_0 r_1),w_ 4 r_2])))
(g_ [o_ (.bin .add pF (i_ 1)),w_ 13 r_0]))))
def t13L1:aJ:=(.seq (g_ [s_ 9 (.bin .lss l_8 l_7)])
(.seq (.cond l_9
.skip
(.exit 0))
(.seq (.block 1
(h_ [o_ (.indexAddrS 1 l_6 l_8),d_ r_0,w_ 3 r_1]
(h_ [v_ l_2,v_ l_3,o_ (.len .sl r_1),o_ (.bin .add r_0 r_2),w_ 2 r_3]
(h_ [v_ l_2,s_ 10 (.bin .lss r_0 (i_ 0))]
(.cond gA
(g_ [o_ (.bad),o_ (.bad)])
.skip)))))
(g_ [o_ (.bin .add l_8 (i_ 1)),w_ 8 r_0]))))
def t13:aR:=⟨1,15,[.loc 1],
(h_ [w_ 1 N_]
(h_ [w_ 2 (i_ 0)]
(.seq (.seq (g_ [w_ 6 l_0,s_ 7 (.len .sl r_0),w_ 8 (i_ 0)])
(.block 0
(.loop t13L1)))
(h_ [v_ l_2,o_ (.call false false 30 [N_,r_0]),w_ 4 r_1]
(.seq (.seq (g_ [w_ 11 l_0,s_ 12 (.len .sl r_0),w_ 13 (i_ 0)])
(.block 2
(.loop t13L0)))
(h_ [v_ l_4,w_ 1 r_0]
.ret))))))⟩
def a14:Ann:=⟨[0,2],[],[],[],[]⟩
def t14:aR:=⟨1,2,[.loc 1],
(h_ [w_ 1 N_]
(h_ [v_ l_0,o_ (.call false false 32 [r_0]),o_ (.call false false 31 [r_1,(.fn 33)]),w_ 1 r_2]
.ret))⟩
def a15:Ann:=⟨[0,1,2,3,4,5,6,7,8,9,10,17,27,36,48],[1],[],[],[(15,⟨[0,0,0,0,12,28,0,0,0,384,896,1984,4032,0,16320,32704,65532,131071,262143],[0,1,2,3,4,5,6,7,8,9,10,11,12,13,14,15],[(16,[],[17]),(18,[],[])]⟩)]⟩
def t15L0:aJ:=(.seq (.seq (g_ [v_ gA, v_ l_4, v_ l_8, v_ l_9, o_ (.indexAddrS 1 r_2 r_3), d_ r_4, o_ (.indexAddrS 1 r_1 r_5), d_ r_6, o_ (.len .sl r_7), s_ 14 (.bin .lss r_0 r_8)])
(.cond oU
.skip
(.exit 4)))
(.seq (.block 5
(.draw [0,1,2,3,4,5,6,7,8,9,10,11,12,13,14,15] [(16,[],[17]),(18,[],[])] [v_ l_6,v_ l_7,v_ l_6,v_ l_7,o_ (.indexAddrS 1 r_2 r_3),d_ r_4,v_ l_4,v_ l_8,v_ l_9,o_ (.indexAddrS 1 r_7 r_8),d_ r_9,o_ (.indexAddrS 1 r_6 dH),d_ dQ,v_ gA,o_ (.indexAddrS 1 eT gK),d_ gL,c_ 36 [r_5,gY],o_ (.indexAddrS 1 r_0 r_1),o_ (.store 1 lF iF)]))
(g_ [v_ gA,o_ (.bin .add r_0 (i_ 1)),w_ 10 r_1])))
def t15L1:aJ:=(.seq (.seq (g_ [v_ l_9, v_ l_8, o_ (.len .sl r_1), s_ 13 (.bin .lss r_0 r_2)])
(.cond pF
.skip
(.exit 2)))
(.seq (.block 3
(h_ [w_ 10 (i_ 0)]
(.block 4
(.loop t15L0))))
(g_ [v_ l_9,o_ (.bin .add r_0 (i_ 1)),w_ 9 r_1])))
def t15L2:aJ:=(.seq (.seq (g_ [v_ l_7,f_ 6 l_1,d_ r_1,o_ (.len .sl r_2),s_ 12 (.bin .lss r_0 r_3)])
(.cond lG
.skip
(.exit 0)))
(.seq (.block 1
(h_ [o_ (.loadN 7 l_1),v_ l_7,c_ 35 [r_0,r_1],w_ 8 r_2]
(h_ [w_ 9 (i_ 0)]
(.block 2
(.loop t15L1)))))
(g_ [v_ l_7,o_ (.bin .add r_0 (i_ 1)),w_ 7 r_1])))
def t15:aR:=⟨1,15,[.loc 2,.loc 3],
(h_ [o_ (.boxL 1 l_0),w_ 2 N_,w_ 3 (i_ 0)]
(h_ [o_ (.loadN 7 l_1),c_ 34 [r_0],v_ r_1,o_ (.extract 0 r_2),o_ (.extract 1 r_2),w_ 4 r_3,w_ 5 r_4]
(.seq (.seq (g_ [v_ l_5,s_ 11 (.bin .neq r_0 (i_ 0))])
(.cond iG
(h_ [v_ l_5,w_ 2 N_,w_ 3 r_0]
.ret)
.skip))
(h_ [f_ 6 l_1,d_ r_0,o_ (.len .sl r_1),o_ (.mkSlice [(.sl .nil [])] 24 r_2 r_2),w_ 6 r_3]
(.seq (.seq (g_ [w_ 7 (i_ 0)])
(.block 0
(.loop t15L2)))
(h_ [v_ l_6,w_ 2 r_0,w_ 3 (i_ 0)]
.ret))))))⟩
def a16:Ann:=⟨[0,1,2,3,4,8,9,10,11,12,17,54,83],[10,4],[],[],[]⟩
def t16L0:aJ:=(.seq (.seq (g_ [v_ l_6,f_ 6 l_4,d_ r_1,o_ (.len .sl r_2),s_ 10 (.bin .lss r_0 r_3)])
(.cond gA
.skip
(.exit 0)))
(.seq (.block 1
(h_ [f_ 6 l_4,d_ r_0,v_ l_6,o_ (.indexAddrS 8 r_1 r_2),o_ (.loadN 8 r_3),o_ (.allocL 7 [(.int .i64 0),(.int .i64 0),(.int .i64 0),(.int .i64 0),(.int .i64 0),(.int .i64 0),(.sl .nil []),(.sl .nil [])]),o_ (.store 8 r_5 r_4)]
(h_ [o_ (.loadN 8 l_7),c_ 37 [r_0],w_ 8 r_1]
(h_ [f_ 0 l_7,d_ r_0,o_ (.bin .eql r_1 (i_ 64)),v_ r_2,y_ 3 (.fieldAddr 2 l_7),y_ 3 (.load1 r_4),y_ 3 (.mov l_2),y_ 3 (.bin .eql r_5 r_6),y_ 3 (.mov r_7),y_ 8 (.fieldAddr 1 l_7),y_ 8 (.load1 r_9),y_ 8 (.mov l_3),y_ 8 (.bin .eql dH dQ),y_ 3 (.pick r_8 eT F_),y_ 3 (.mov gK),x_ 14 (.fieldAddr 2 l_7),x_ 14 (.load1 gY),x_ 14 (.mov l_3),x_ 14 (.bin .eql iF lF),x_ 14 (.mov mN),y_ 19 (.fieldAddr 1 l_7),y_ 19 (.load1 pC),y_ 19 (.mov l_2),y_ 19 (.bin .eql pE rM),x_ 14 (.pick pB wO F_),y_ 3 (.pick gL T_ wP),o_ (.pick r_3 aBz F_),w_ 9 aGn]
(.seq (.seq (g_ [w_ 11 l_9])
(.cond iG
(.exit 1)
.skip))
(h_ [v_ l_8,v_ l_2,c_ 38 [r_0,r_1],v_ r_2,y_ 3 (.mov l_1),y_ 3 (.mov l_6),y_ 3 (.indexAddrS 1 r_4 r_5),y_ 3 (.load1 r_6),y_ 3 (.mov l_3),y_ 3 (.call true false 38 [r_7,r_8]),y_ 3 (.mov r_9),x_ 10 (.mov l_8),x_ 10 (.mov l_3),x_ 10 (.call true false 38 [dQ,eT]),y_ 3 (.pick dH T_ gK),o_ (.pick r_3 gL F_),v_ gY,x_ 16 (.mov l_8),x_ 16 (.mov l_3),x_ 16 (.call true false 38 [lF,mN]),x_ 16 (.mov pB),y_ 20 (.mov l_1),y_ 20 (.mov l_6),y_ 20 (.indexAddrS 1 pE rM),y_ 20 (.load1 wO),y_ 20 (.mov l_2),y_ 20 (.call true false 38 [wP,aBz]),x_ 16 (.pick pC aGn F_),s_ 12 (.pick iF T_ aJ5)]
(.cond lG
(h_ [w_ 5 T_]
.ret)
.skip)))))))
(g_ [v_ l_6,o_ (.bin .add r_0 (i_ 1)),w_ 6 r_1])))
def t16:aR:=⟨4,13,[.loc 5],
(h_ [o_ (.boxL 4 l_0),w_ 5 F_]
(.seq (.seq (g_ [w_ 6 (i_ 0)])
(.block 0
(.loop t16L0)))
(h_ [w_ 5 F_]
.ret)))⟩
def a17:Ann:=⟨[0,1,2,3],[],[],[],[]⟩
def t17:aR:=⟨1,4,[.loc 2],
(h_ [s_ 1 (.boxH 32 l_0),w_ 2 F_]
(h_ [o_ (.mkFn 39 [] [l_1]),w_ 3 r_0]
(h_ [f_ 0 l_1,d_ r_0,o_ (.bin .geq r_1 (i_ 32)),v_ r_2,y_ 3 (.fieldAddr 1 l_1),y_ 3 (.load1 r_4),y_ 3 (.mov l_3),y_ 3 (.call false false 25 [r_5,r_6]),y_ 3 (.un .not r_7),o_ (.pick r_3 r_8 F_),v_ r_9,y_ 10 (.fieldAddr 2 l_1),y_ 10 (.load1 dQ),y_ 10 (.mov l_3),y_ 10 (.call false false 25 [eT,gK]),y_ 10 (.un .not gL),o_ (.pick dH gY F_),w_ 2 iF]
.ret)))⟩
def a18:Ann:=⟨[0,1,2,3,4,6,14,15,16,50,51,52,53,73],[6,1],[(5,23)],[],[(1,⟨[0,0,2,6,15,31,63],[0,1,2,3,4,5,6],[]⟩),(5,⟨[0,0,0,0,8,24,56,0,128,504,0,1024,3072,7168,0,16384,65528,0,131072,393216,917504,0,2097152,8388600,16777209,33554425,67108857,134217723,268435451,536870907,1073741823,2147483647,4294967295],[0,1,2,3,4,5,6,7,8,10,11,12,13,14,15,17,18,19,20,21,22],[(9,[13,20],[]),(16,[20],[]),(23,[],[24,25]),(26,[],[27,28]),(29,[],[30,31]),(32,[],[])]⟩),(12,⟨[0,1,3,7,0,16,63,127,0,256,1023,2047,4095],[0,1,2,3,4,5,6,7,8,9,10,11],[(12,[],[])]⟩),(13,⟨[0,1,3,7,0,16,63,127,0,256,1023,2047,4095],[0,1,2,3,4,5,6,7,8,9,10,11],[(12,[],[])]⟩)]⟩
def t18L0:aJ:=(.seq (g_ [s_ 12 (.bin .lss iG gA)])
(.seq (.cond lG
.skip
(.exit 2))
(.seq (.block 3
(h_ [o_ (.indexAddrS 2 l_9 iG),o_ (.loadN 2 r_0),o_ (.allocL 5 [(.int .i64 0),(.int .i64 0)]),o_ (.store 2 r_2 r_1)]
(h_ [o_ (.indexAddrA 2 1 l_5 (i_ 0)),d_ r_0,c_ 24 [r_1],v_ r_2,x_ 3 (.indexAddrA 2 1 l_5 (i_ 0)),x_ 3 (.load1 r_4),x_ 3 (.bin .geq r_5 (i_ 32)),o_ (.pick r_3 T_ r_6),v_ r_7,y_ 8 (.indexAddrA 2 1 l_5 (i_ 1)),y_ 8 (.load1 r_9),y_ 8 (.call true false 24 [dH]),y_ 8 (.mov dQ),x_ 12 (.indexAddrA 2 1 l_5 (i_ 1)),x_ 12 (.load1 gK),x_ 12 (.bin .geq gL (i_ 32)),y_ 8 (.pick eT T_ gY),s_ 13 (.pick r_8 iF F_)]
(.cond pF
(h_ [v_ l_3,o_ (.indexAddrA 2 1 l_5 (i_ 0)),d_ r_1,o_ (.indexAddrA 2 1 l_5 (i_ 1)),d_ r_3,o_ (.call false false 40 [r_0,r_2,r_4])]
(.seq (.draw [0,1,2,3,4,5,6,7,8,9,10,11] [(12,[],[])] [v_ l_3,o_ (.nilCheck r_0),f_ 4 r_1,d_ r_2,o_ (.indexAddrA 2 1 l_5 (i_ 0)),d_ r_4,o_ (.indexAddrS 1 r_3 r_5),d_ r_6,o_ (.indexAddrA 2 1 l_5 (i_ 1)),d_ r_8,o_ (.lookup (.leaf .int) (.int .i64 0) false r_7 r_9),o_ (.bin .add dH (i_ 1)),o_ (.update (.leaf .int) r_7 r_9 dQ)])
(.draw [0,1,2,3,4,5,6,7,8,9,10,11] [(12,[],[])] [v_ l_3,o_ (.nilCheck r_0),f_ 4 r_1,d_ r_2,o_ (.indexAddrA 2 1 l_5 (i_ 1)),d_ r_4,o_ (.indexAddrS 1 r_3 r_5),d_ r_6,o_ (.indexAddrA 2 1 l_5 (i_ 0)),d_ r_8,o_ (.lookup (.leaf .int) (.int .i64 0) false r_7 r_9),o_ (.bin .add dH (i_ 1)),o_ (.update (.leaf .int) r_7 r_9 dQ)])))
.skip))))
(g_ [o_ (.bin .add iG (i_ 1)),w_ 11 r_0]))))
def t18L1:aJ:=(.seq (g_ [s_ 8 (.bin .lss l_7 l_6)])
(.seq (.cond l_8
.skip
(.exit 0))
(.seq (.block 1
(h_ [v_ l_7,w_ 4 r_0]
(.draw [0,1,2,3,4,5,6,7,8,10,11,12,13,14,15,17,18,19,20,21,22] [(9,[13,20],[]),(16,[20],[]),(23,[],[24,25]),(26,[],[27,28]),(29,[],[30,31]),(32,[],[])] [v_ l_3,v_ l_3,v_ l_3,v_ l_3,o_ (.nilCheck r_3),f_ 3 r_4,d_ r_5,o_ (.mkMap),o_ (.lit false [.nilm] 1 [(0,r_7)]),o_ (.append false 1 8 85 r_6 r_8),v_ l_3,o_ (.nilCheck dH),f_ 4 dQ,d_ eT,o_ (.mkMap),o_ (.lit false [.nilm] 1 [(0,gL)]),o_ (.append false 1 8 85 gK gY),v_ l_3,o_ (.nilCheck lF),f_ 5 mN,d_ pB,v_ l_4,o_ (.lit false [(.int .i64 0)] 1 [(0,pE)]),o_ (.append true 1 8 3 pC rM),o_ (.nilCheck r_0),f_ 3 wP,o_ (.store 1 aBz r_9),o_ (.nilCheck r_1),f_ 4 aJ5,o_ (.store 1 aNt iF),o_ (.nilCheck r_2),f_ 5 bBg,o_ (.store 1 bBh wO)])))
(g_ [o_ (.bin .add l_7 (i_ 1)),w_ 7 r_0]))))
def t18:aR:=⟨1,14,[.loc 2],
(h_ [o_ (.boxL 1 l_0),s_ 2 (.mov (.cst .nilp))]
(.seq (.draw [0,1,2,3,4,5,6] [] [o_ (.loadN 3 l_1),f_ 0 l_1,d_ r_1,o_ (.mkSlice [(.int .i64 0)] 8 r_2 r_2),o_ (.build [(.int .i64 0),(.sl .nil []),(.sl .nil []),(.sl .nil []),(.sl .nil []),(.sl .nil []),(.sl .nil [])] [(0,3,r_0),(6,1,r_3)]),o_ (.boxH 59 r_4),w_ 3 r_5])
(.seq (.seq (g_ [f_ 0 l_1,s_ 6 (.load1 r_0),w_ 7 (i_ 0)])
(.block 0
(.loop t18L1)))
(.seq (.seq (g_ [f_ 1 l_1,s_ 9 (.load1 r_0),s_ 10 (.len .sl r_1),w_ 11 (i_ 0)])
(.block 2
(.loop t18L0)))
(h_ [v_ l_3,w_ 2 r_0]
.ret)))))⟩
def a19:Ann:=⟨[0,2,4,5,6,8,9,14,15,16,17,30,70],[4],[],[],[(6,⟨[0,0,2,7,0,0,32,127,255,511],[0,1,2,4,5,6],[(3,[6],[]),(7,[],[8,9])]⟩)]⟩
def t19L0:aJ:=(.seq (g_ [s_ 10 (.bin .lss l_9 l_8)])
(.seq (.cond gA
.skip
(.exit 2))
(.seq (.block 3
(h_ [o_ (.indexAddrS 2 l_7 l_9),o_ (.loadN 2 r_0),o_ (.allocL 2 [(.int .i64 0),(.int .i64 0)]),o_ (.store 2 r_2 r_1)]
(.seq (.draw [0,1,2,4,5,6] [(3,[6],[]),(7,[],[8,9])] [v_ l_0,o_ (.indexAddrA 2 1 l_2 (i_ 0)),d_ r_1,o_ (.call false false 41 [r_0,r_2]),v_ l_0,o_ (.indexAddrA 2 1 l_2 (i_ 1)),d_ r_5,o_ (.call false false 41 [r_4,r_6]),w_ 3 r_3,w_ 4 r_7])
(.seq (.seq (g_ [v_ l_3,v_ l_4,s_ 11 (.bin .gtr r_0 r_1)])
(.cond iG
(g_ [v_ l_4,v_ l_3,w_ 3 r_0,w_ 4 r_1])
.skip))
(h_ [v_ l_0,o_ (.nilCheck r_0),f_ 3 r_1,d_ r_2,v_ l_3,o_ (.indexAddrS 1 r_3 r_4),d_ r_5,v_ l_4,o_ (.lookup (.leaf .int) (.int .i64 0) true r_6 r_7),v_ r_8,o_ (.extract 0 r_9),o_ (.extract 1 r_9),v_ dH,w_ 5 dQ]
(.seq (.seq (g_ [v_ l_3,v_ l_4,o_ (.bin .eql r_0 r_1),v_ r_2,x_ 3 (.mov l_4),x_ 3 (.bin .lss r_4 (i_ 32)),o_ (.pick r_3 T_ r_5),v_ r_6,x_ 7 (.mov l_3),x_ 7 (.bin .lss r_8 (i_ 32)),x_ 7 (.mov r_9),y_ 10 (.mov l_3),y_ 10 (.call true false 24 [dQ]),y_ 10 (.un .not eT),x_ 7 (.pick dH gK F_),o_ (.pick r_7 T_ gL),v_ gY,x_ 16 (.mov l_5),o_ (.pick iF T_ lF),v_ mN,x_ 19 (.mov l_0),x_ 19 (.mov l_3),x_ 19 (.mov l_4),x_ 19 (.call false false 42 [pC,pE,rM]),x_ 19 (.un .not wO),s_ 12 (.pick pB T_ wP)])
(.cond lG
(.exit 3)
.skip))
(h_ [v_ l_0,v_ l_3,v_ l_4,o_ (.call false false 43 [r_0,r_1,r_2])]
(g_ [w_ 1 T_]))))))))
(g_ [o_ (.bin .add l_9 (i_ 1)),w_ 9 r_0]))))
def t19L1:aJ:=(.seq (.seq (g_ [w_ 6 l_1])
(.cond l_6
.skip
(.exit 0)))
(.block 1
(h_ [w_ 1 F_]
(h_ [v_ l_0,o_ (.nilCheck r_0),f_ 0 r_1,f_ 2 r_2,s_ 7 (.load1 r_3),s_ 8 (.len .sl r_4),w_ 9 (i_ 0)]
(.block 2
(.loop t19L0))))))
def t19:aR:=⟨1,13,[],
(h_ [w_ 1 T_]
(.block 0
(.loop t19L1)))⟩
def a20:Ann:=⟨[0,1,4,5,6,13,20],[],[],[],[]⟩
def t20L0:aJ:=(.seq (.seq (g_ [v_ l_4,v_ l_0,o_ (.nilCheck r_1),f_ 0 r_2,f_ 0 r_3,d_ r_4,s_ 5 (.bin .lss r_0 r_5)])
(.cond l_5
.skip
(.exit 0)))
(.seq (.block 1
(h_ [v_ l_0,v_ l_4,o_ (.call false false 41 [r_0,r_1]),v_ l_1,s_ 6 (.bin .eql r_2 r_3)]
(.cond l_6
(g_ [v_ l_3,v_ l_4,o_ (.lit false [(.int .i64 0)] 1 [(0,r_1)]),o_ (.append false 1 8 3 r_0 r_2),w_ 3 r_3])
.skip)))
(g_ [v_ l_4,o_ (.bin .add r_0 (i_ 1)),w_ 4 r_1])))
def t20:aR:=⟨2,7,[.loc 2],
(h_ [w_ 2 N_]
(h_ [w_ 3 N_]
(.seq (.seq (g_ [w_ 4 (i_ 32)])
(.block 0
(.loop t20L0)))
(h_ [v_ l_3,w_ 2 r_0]
.ret))))⟩
def a21:Ann:=⟨[0,1,2],[],[],[],[]⟩
def t21:aR:=⟨1,3,[.loc 2],
(h_ [s_ 1 (.boxH 27 l_0),s_ 2 (.mov (.cst .nilf))]
(h_ [o_ (.mkFn 44 [] [l_1]),w_ 2 r_0]
.ret))⟩
def a22:Ann:=⟨[0,2,3,4,5,6,7,8,9,10,29,40,58,63,92,94,101],[],[(9,3)],[],[(10,⟨[0,0,0,4,12,28,0,124,252,508,1023,2047],[0,1,2,3,4,5,6,7,8,9,10],[(11,[],[])]⟩)]⟩
def t22L0:aJ:=(.seq (g_ [o_ (.nextM oU), s_ 15 (.extract 0 r_0)])
(.seq (.cond wQ
.skip
(.exit 4))
(.block 5
(h_ [o_ (.entryM oU),o_ (.extract 0 r_0),w_ 9 r_1]
(h_ [v_ l_3,v_ l_9,o_ (.indexAddrS 1 r_0 r_1),d_ r_2,s_ 16 (.un .not r_3)]
(.cond vH
(g_ [d_ l_4,v_ l_9,o_ (.indexAddrS 1 r_0 r_1),d_ r_2,o_ (.bin .sub r_3 (i_ 1)),o_ (.indexAddrS 1 r_0 r_1),o_ (.store 1 r_5 r_4)])
.skip))))))
def t22L1:aJ:=(.seq (.seq (g_ [v_ l_5,o_ (.len .sl r_0),s_ 12 (.bin .gtr r_1 (i_ 0))])
(.cond lG
.skip
(.exit 2)))
(.block 3
(h_ [v_ l_5,o_ (.mkFn 46 [] [l_4]),o_ (.call false false 45 [r_0,r_1]),w_ 7 r_2]
(.seq (.seq (g_ [v_ l_7,s_ 13 (.bin .lss r_0 (i_ 0))])
(.cond pF
(g_ [v_ l_5,v_ l_5,o_ (.mkFn 49 [] [l_4]),o_ (.call false false 48 [r_1,r_2]),c_ 47 [r_0,r_3],w_ 7 r_4])
.skip))
(h_ [v_ l_5,v_ l_7,o_ (.indexAddrS 1 r_0 r_1),d_ r_2,w_ 8 r_3]
(h_ [v_ l_5,v_ l_7,v_ l_7,o_ (.bin .add r_2 (i_ 1)),o_ (.call false false 51 [r_0,r_1,r_3]),w_ 5 r_4]
(h_ [v_ l_3,v_ l_8,o_ (.indexAddrS 1 r_0 r_1),o_ (.store 1 r_2 T_)]
(h_ [v_ l_2,v_ l_8,o_ (.lit false [(.int .i64 0)] 1 [(0,r_1)]),o_ (.append false 1 8 3 r_0 r_2),w_ 2 r_3]
(h_ [v_ l_0,o_ (.nilCheck r_0),f_ 3 r_1,d_ r_2,v_ l_8,o_ (.indexAddrS 1 r_3 r_4),d_ r_5,s_ 14 (.range false r_6)]
(.block 4
(.loop t22L0)))))))))))
def t22L2:aJ:=(.seq (.seq (g_ [v_ l_6,v_ l_0,o_ (.nilCheck r_1),f_ 0 r_2,f_ 0 r_3,d_ r_4,s_ 10 (.bin .lss r_0 r_5)])
(.cond gA
.skip
(.exit 0)))
(.seq (.block 1
(h_ [v_ l_0,o_ (.nilCheck r_0),f_ 5 r_1,d_ r_2,v_ l_6,o_ (.indexAddrS 1 r_3 r_4),d_ r_5,v_ l_6,s_ 11 (.bin .eql r_6 r_7)]
(.cond iG
(h_ [v_ l_5,v_ l_6,o_ (.lit false [(.int .i64 0)] 1 [(0,r_1)]),o_ (.append true 1 8 3 r_0 r_2),w_ 5 r_3]
(.draw [0,1,2,3,4,5,6,7,8,9,10] [(11,[],[])] [d_ l_4,v_ l_6,v_ l_0,o_ (.nilCheck r_2),f_ 3 r_3,d_ r_4,v_ l_6,o_ (.indexAddrS 1 r_5 r_6),d_ r_7,o_ (.len .mp r_8),o_ (.indexAddrS 1 r_0 r_1),o_ (.store 1 dH r_9)]))
.skip)))
(g_ [v_ l_6,o_ (.bin .add r_0 (i_ 1)),w_ 6 r_1])))
def t22:aR:=⟨1,17,[.loc 1],
(h_ [w_ 1 N_]
(h_ [w_ 2 N_]
(h_ [v_ l_0,o_ (.nilCheck r_0),f_ 0 r_1,f_ 0 r_2,d_ r_3,o_ (.mkSlice [(.bool false)] 1 r_4 r_4),w_ 3 r_5]
(h_ [v_ l_0,o_ (.nilCheck r_0),f_ 0 r_1,f_ 0 r_2,d_ r_3,o_ (.mkSlice [(.int .i64 0)] 8 r_4 r_4),s_ 4 (.allocH 27 [(.sl .nil [])]),o_ (.store 1 r_6 r_5)]
(h_ [w_ 5 N_]
(.seq (.seq (g_ [w_ 6 (i_ 32)])
(.block 0
(.loop t22L2)))
(.seq (.block 2
(.loop t22L1))
(h_ [v_ l_2,w_ 1 r_0]
.ret))))))))⟩
def a23:Ann:=⟨[0,1,4,6,10,11,12,13,17],[],[],[],[(5,⟨[0,1,3,7,0,0,0,64,224,511,1023],[0,1,2,3,4,5,6,7],[(8,[3],[9]),(10,[],[])]⟩)]⟩
def t23L0:aJ:=(.seq (g_ [s_ 7 (.bin .lss l_6 l_5)])
(.seq (.cond l_7
.skip
(.exit 0))
(.seq (.block 1
(h_ [o_ (.indexAddrS 1 l_4 l_6),d_ r_0,w_ 3 r_1]
(h_ [v_ l_2,s_ 8 (.bin .eql r_0 (i_ (-1)))]
(.cond l_8
(.draw [0,1,2,3,4,5,6,7] [(8,[3],[9]),(10,[],[])] [v_ l_0,o_ (.nilCheck r_0),f_ 6 r_1,d_ r_2,v_ l_3,v_ l_0,v_ l_3,o_ (.lit false [(.int .i64 0)] 1 [(0,r_6)]),o_ (.call false false 52 [r_5,r_7]),o_ (.indexAddrS 1 r_3 r_4),o_ (.store 1 r_9 r_8)])
(g_ [v_ l_0,o_ (.nilCheck r_0),f_ 6 r_1,d_ r_2,v_ l_3,v_ l_2,o_ (.indexAddrS 1 r_3 r_4),o_ (.store 1 r_6 r_5)])))))
(g_ [o_ (.bin .add l_6 (i_ 1)),w_ 6 r_0]))))
def t23:aR:=⟨2,9,[],
(h_ [v_ l_0,v_ l_1,o_ (.call false false 52 [r_0,r_1]),w_ 2 r_2]
(h_ [w_ 4 l_1,s_ 5 (.len .sl r_0),w_ 6 (i_ 0)]
(.block 0
(.loop t23L0))))⟩
def a24:Ann:=⟨[0,2],[],[],[],[]⟩
def t24:aR:=⟨1,2,[.loc 1],
(h_ [w_ 1 F_]
(h_ [v_ l_0,o_ (.bin .geq r_0 (i_ 1)),v_ r_1,y_ 2 (.mov l_0),y_ 2 (.bin .leq r_3 (i_ 24)),o_ (.pick r_2 r_4 F_),w_ 1 r_5]
.ret))⟩
def a25:Ann:=⟨[0,1,4],[],[],[],[]⟩
def t25:aR:=⟨2,3,[.loc 2],
(h_ [w_ 2 F_]
(h_ [v_ l_0,v_ l_1,o_ (.call false false 53 [r_0,r_1]),o_ (.bin .geq r_2 (i_ 0)),w_ 2 r_3]
.ret))⟩
def a26:Ann:=⟨[0,1,2,3],[2],[],[],[(1,⟨[0,0,2,7,15,0,0,64,224,480,1023,2047,4095,4095,12287,32767,65535,131071,262143,524287],[0,1,2,3,4,5,6,7,8,9,10,11,12,13,14,15,16,17,18,19],[]⟩)]⟩
def t26:aR:=⟨2,4,[.loc 3],
(h_ [o_ (.boxL 2 l_0),w_ 3 F_]
(.seq (.draw [0,1,2,3,4,5,6,7,8,9,10,11,12,13,14,15,16,17,18,19] [] [d_ l_1,o_ (.indexAddrA 2 1 l_2 (i_ 0)),d_ r_1,o_ (.indexAddrS 1 r_0 r_2),d_ r_3,d_ l_1,o_ (.indexAddrA 2 1 l_2 (i_ 1)),d_ r_6,o_ (.indexAddrS 1 r_5 r_7),d_ r_8,o_ (.bin .eql r_4 r_9),v_ dH,y_ 11 (.load1 l_1),y_ 11 (.indexAddrA 2 1 l_2 (i_ 0)),y_ 11 (.load1 gK),y_ 11 (.indexAddrS 1 eT gL),y_ 11 (.load1 gY),y_ 11 (.bin .neq iF (i_ (-1))),o_ (.pick dQ lF F_),w_ 3 mN])
.ret))⟩
def a27:Ann:=⟨[0,1,2,3,4,5,6,7,8,9,10,11,12,13,14,18,36,37,38,39,59,103,107],[11,10,1],[],[],[(5,⟨[0,0,0,4,0,16,63,127,255],[0,1,2,3,4,5,6,7,8],[]⟩),(6,⟨[0,1,0,4,3,31],[0,1,2,3,4,5],[]⟩),(10,⟨[0,1,3,7,0,16,63,127,255,255,0,1535,4095],[0,1,2,3,4,5,6,7,8,9,10],[(11,[],[12])]⟩),(12,⟨[0,1,3,7,0,16,0,64,255],[0,1,2,3,4,5,6,7],[(8,[],[])]⟩),(13,⟨[0,0,0,0,0,16,0,64,240,0,512,0,2544,8176,16371,32755,65535,131071],[0,1,2,3,4,5,6,9,10,11],[(7,[5,10,11],[]),(8,[10,11],[]),(12,[10],[]),(13,[],[14]),(15,[],[16]),(17,[],[])]⟩),(14,⟨[0,1,3,7,0,0,32,96,224,0,0,1024,3072,0,8192,31744,65023,130559,262143,524287],[0,1,2,3,4,5,6,7,8,9,10,11,13,14],[(12,[3,8,14],[]),(15,[3,8],[16]),(17,[],[18]),(19,[],[])]⟩),(22,⟨[0,0,0,0,12,28,0,0,192,448,1023,2047,4095,8191,16383],[0,1,2,3,4,5,6,7,8,9],[(10,[],[11,12,13,14])]⟩)]⟩
def t27L0:aJ:=(.seq (.seq (g_ [v_ oU, s_ 22 (.bin .geq r_0 (i_ 0))])
(.cond bK8
.skip
(.exit 4)))
(.seq (.block 5
(.draw [0,1,2,3,4,5,6,7,8,9] [(10,[],[11,12,13,14])] [v_ l_6,v_ oU,v_ l_7,v_ oU,o_ (.indexAddrS 1 r_2 r_3),d_ r_4,v_ l_8,v_ oU,o_ (.indexAddrS 1 r_6 r_7),d_ r_8,o_ (.call false false 57 [r_0,r_1,r_5,r_9]),v_ dH,x_ 11 (.mov pF),o_ (.pick dQ T_ eT),w_ 13 gK]))
(g_ [v_ oU,o_ (.bin .sub r_0 (i_ 1)),w_ 14 r_1])))
def t27L1:aJ:=(.seq (.seq (g_ [w_ 21 pF])
(.cond aNu
.skip
(.exit 2)))
(.block 3
(h_ [w_ 13 F_]
(h_ [v_ l_5,o_ (.bin .sub r_0 (i_ 1)),w_ 14 r_1]
(.block 4
(.loop t27L0))))))
def t27L2:aJ:=(.seq (g_ [s_ 19 (.bin .lss aCs aJ6)])
(.seq (.cond bBi
.skip
(.exit 0))
(.seq (.block 1
(h_ [v_ aCs,o_ (.indexAddrS 8 vH aCs),o_ (.loadN 8 r_1),o_ (.allocL 10 [(.int .i64 0),(.int .i64 0),(.int .i64 0),(.int .i64 0),(.int .i64 0),(.int .i64 0),(.sl .nil []),(.sl .nil [])]),w_ 9 r_0,o_ (.store 8 r_3 r_2)]
(.seq (.seq (.draw [0,1,2,3,4,5,6,7,8,9,10] [(11,[],[12])] [v_ l_6,o_ (.nilCheck r_0),f_ 7 r_1,d_ r_2,f_ 5 gA,d_ r_4,o_ (.lookup (.leaf .int) (.agg [(.int .i64 0)]) true r_3 r_5),v_ r_6,o_ (.extract 0 r_7),o_ (.extract 1 r_7),s_ 11 (.allocH 101 [(.int .i64 0)]),o_ (.store 1 dH r_8),w_ 12 r_9])
(h_ [f_ 0 gA,d_ r_0,o_ (.bin .eql r_1 (i_ 65)),v_ r_2,y_ 3 (.mov lG),y_ 3 (.un .not r_4),s_ 20 (.pick r_3 r_5 F_)]
(.cond bBj
(.draw [0,1,2,3,4,5,6,7] [(8,[],[])] [v_ l_6,o_ (.nilCheck r_0),f_ 7 r_1,d_ r_2,f_ 5 gA,d_ r_4,v_ l_9,o_ (.build [(.int .i64 0)] [(0,1,r_6)]),o_ (.update (.leaf .int) r_3 r_5 r_7)])
.skip)))
(.seq (.draw [0,1,2,3,4,5,6,9,10,11] [(7,[5,10,11],[]),(8,[10,11],[]),(12,[10],[]),(13,[],[14]),(15,[],[16]),(17,[],[])] [v_ l_7,v_ l_9,v_ l_8,v_ l_9,f_ 1 l_1,d_ r_4,o_ (.loadN 8 gA),c_ 56 [r_6],o_ (.call false false 55 [r_5,r_7]),f_ 1 l_1,d_ r_9,o_ (.loadN 8 gA),c_ 12 [dQ],o_ (.call false false 55 [dH,eT]),o_ (.indexAddrS 1 r_0 r_1),o_ (.store 1 gL r_8),o_ (.indexAddrS 1 r_2 r_3),o_ (.store 1 iF gK)])
(.draw [0,1,2,3,4,5,6,7,8,9,10,11,13,14] [(12,[3,8,14],[]),(15,[3,8],[16]),(17,[],[18]),(19,[],[])] [v_ l_6,o_ (.nilCheck r_0),f_ 8 r_1,d_ r_2,v_ l_9,v_ l_6,o_ (.nilCheck r_5),f_ 9 r_6,d_ r_7,v_ l_9,f_ 1 l_1,d_ dH,o_ (.call false false 55 [dQ,N_]),f_ 1 l_1,d_ gK,o_ (.call false false 55 [gL,N_]),o_ (.indexAddrS 1 r_3 r_4),o_ (.store 1 iF eT),o_ (.indexAddrS 1 r_8 r_9),o_ (.store 1 mN gY)])))))
(g_ [o_ (.bin .add aCs (i_ 1)),w_ 18 r_0]))))
def t27:aR:=⟨1,23,[.loc 2,.loc 3],
(h_ [o_ (.boxL 1 l_0),s_ 2 (.mov (.cst .nilp)),w_ 3 (i_ 0)]
(.seq (.seq (g_ [o_ (.loadN 7 l_1),c_ 54 [r_0],w_ 4 r_1])
(h_ [v_ l_4,s_ 15 (.bin .neq r_0 (i_ 0))]
(.cond wQ
(h_ [v_ l_4,s_ 2 (.mov (.cst .nilp)),w_ 3 r_0]
.ret)
.skip)))
(h_ [f_ 6 l_1,d_ r_0,o_ (.len .sl r_1),w_ 5 r_2]
(.seq (.draw [0,1,2,3,4,5,6,7,8] [] [o_ (.loadN 7 l_1),o_ (.mkMap),v_ l_5,o_ (.mkSlice [(.sl .nil [])] 24 r_2 r_2),v_ l_5,o_ (.mkSlice [(.sl .nil [])] 24 r_4 r_4),o_ (.build [(.int .i64 0),(.int .i64 0),(.int .i64 0),(.int .i64 0),(.int .i64 0),(.bool false),(.sl .nil []),.nilm,(.sl .nil []),(.sl .nil [])] [(0,7,r_0),(7,1,r_1),(8,1,r_3),(9,1,r_5)]),o_ (.boxH 76 r_6),w_ 6 r_7])
(.seq (.draw [0,1,2,3,4,5] [] [v_ l_5,o_ (.mkSlice [(.sl .nil [])] 24 r_0 r_0),v_ l_5,o_ (.mkSlice [(.sl .nil [])] 24 r_2 r_2),w_ 7 r_1,w_ 8 r_3])
(.seq (.seq (g_ [f_ 6 l_1,s_ 16 (.load1 r_0),s_ 17 (.len .sl r_1),w_ 18 (i_ 0)])
(.block 0
(.loop t27L2)))
(.seq (.seq (g_ [w_ 13 T_])
(.block 2
(.loop t27L1)))
(h_ [v_ l_6,w_ 2 r_0,w_ 3 (i_ 0)]
.ret))))))))⟩
def a28:Ann:=⟨[0,2,4,5,6,7,8],[],[],[],[]⟩
def t28L0:aJ:=(.seq (g_ [s_ 6 (.bin .lss l_5 l_4)])
(.seq (.cond l_6
.skip
(.exit 0))
(.seq (.block 1
(h_ [o_ (.indexAddrS 1 l_3 l_5),d_ r_0,w_ 2 r_1]
(g_ [v_ l_1,v_ l_2,c_ 58 [r_1],o_ (.lit false [(.sl .nil [])] 1 [(0,r_2)]),o_ (.append false 1 24 26 r_0 r_3),w_ 1 r_4])))
(g_ [o_ (.bin .add l_5 (i_ 1)),w_ 5 r_0]))))
def t28:aR:=⟨1,7,[.loc 1],
(h_ [w_ 1 N_]
(.seq (.seq (g_ [w_ 3 l_0,s_ 4 (.len .sl r_0),w_ 5 (i_ 0)])
(.block 0
(.loop t28L0)))
(h_ [v_ l_1,w_ 1 r_0]
.ret)))⟩
def a29:Ann:=⟨[0,2],[],[],[],[]⟩
def t29:aR:=⟨1,2,[.loc 1],
(h_ [w_ 1 N_]
(h_ [v_ l_0,o_ (.call false false 59 [r_0,(.fn 60)]),w_ 0 r_1]
(h_ [v_ l_0,o_ (.prim 61 [r_0])]
(h_ [v_ l_0,o_ (.call false false 62 [r_0]),w_ 1 r_1]
.ret))))⟩
def a30:Ann:=⟨[0,1,4,6,16],[],[],[],[]⟩
def t30:aR:=⟨2,5,[.loc 2],
(h_ [w_ 2 N_]
(.seq (.seq (g_ [v_ l_1,s_ 3 (.bin .lss r_0 (i_ 0))])
(.cond l_3
(g_ [o_ (.bad),o_ (.bad)])
.skip))
(.seq (.seq (g_ [v_ l_1,v_ l_0,o_ (.cap r_1),v_ l_0,o_ (.len .sl r_3),o_ (.bin .sub r_2 r_4),o_ (.bin .sub r_0 r_5),w_ 1 r_6])
(h_ [v_ l_1,s_ 4 (.bin .gtr r_0 (i_ 0))]
(.cond l_4
(g_ [v_ l_0,v_ l_0,o_ (.cap r_1),o_ (.slice (.sl 1) r_0 none (some r_2) none),v_ l_1,o_ (.grow 1 8 3 r_3 r_4),v_ l_0,o_ (.len .sl r_6),o_ (.slice (.sl 1) r_5 none (some r_7) none),w_ 0 r_8])
.skip)))
(h_ [v_ l_0,w_ 2 r_0]
.ret))))⟩
def a31:Ann:=⟨[0,1,4,5],[],[],[],[]⟩
def t31:aR:=⟨2,4,[.loc 2],
(h_ [w_ 2 N_]
(h_ [v_ l_0,o_ (.call false false 63 [r_0]),w_ 3 r_1]
(h_ [v_ l_3,v_ l_1,o_ (.prim 64 [r_0,r_1])]
(h_ [v_ l_3,w_ 2 r_0]
.ret))))⟩
def a32:Ann:=⟨[0,1,2],[],[],[],[]⟩
def t32:aR:=⟨1,3,[.loc 2],
(h_ [s_ 1 (.boxH 47 l_0),s_ 2 (.mov (.cst .nilf))]
(h_ [o_ (.mkFn 65 [] [l_1]),w_ 2 r_0]
.ret))⟩
def a33:Ann:=⟨[0,1,2,3,4],[3,2],[],[],[(1,⟨[0,1,0,4,15,0,32,0,128,511,1023,2047,4095],[0,1,2,3,5,6,7,8],[(4,[6,8],[]),(9,[],[10]),(11,[],[12])]⟩)]⟩
def t33:aR:=⟨2,5,[.loc 4],
(h_ [o_ (.boxL 2 l_0),o_ (.boxL 3 l_1),w_ 4 (i_ 0)]
(.seq (.draw [0,1,2,3,5,6,7,8] [(4,[6,8],[]),(9,[],[10]),(11,[],[12])] [o_ (.indexAddrA 2 1 l_2 (i_ 0)),d_ r_0,o_ (.indexAddrA 2 1 l_3 (i_ 0)),d_ r_2,c_ 50 [r_1,r_3],o_ (.indexAddrA 2 1 l_2 (i_ 1)),d_ r_5,o_ (.indexAddrA 2 1 l_3 (i_ 1)),d_ r_7,c_ 50 [r_6,r_8],o_ (.lit false [(.int .i64 0)] 2 [(0,r_4),(1,r_9)]),c_ 66 [dH],w_ 4 dQ])
.ret))⟩
def a34:Ann:=⟨[0,1,2,3,4,5,6,7,8,12,21,30,36],[1],[],[],[]⟩
def t34L0:aJ:=(.seq (.seq (g_ [v_ l_8, v_ l_7, o_ (.len .sl r_1), s_ 11 (.bin .lss r_0 r_2)])
(.cond iG
.skip
(.exit 2)))
(.seq (.block 3
(h_ [v_ l_7,v_ l_8,o_ (.indexAddrS 1 r_0 r_1),s_ 12 (.load1 r_2)]
(.cond lG
(g_ [v_ l_5,v_ l_8,v_ l_5,v_ l_8,o_ (.indexAddrS 1 r_2 r_3),d_ r_4,v_ l_6,o_ (.lit false [(.int .i64 0)] 1 [(0,r_6)]),o_ (.append false 1 8 3 r_5 r_7),o_ (.indexAddrS 1 r_0 r_1),o_ (.store 1 r_9 r_8)])
.skip)))
(g_ [v_ l_8,o_ (.bin .add r_0 (i_ 1)),w_ 8 r_1])))
def t34L1:aJ:=(.seq (.seq (g_ [v_ l_6,f_ 1 l_1,d_ r_1,s_ 10 (.bin .lss r_0 r_2)])
(.cond gA
.skip
(.exit 0)))
(.seq (.block 1
(h_ [o_ (.loadN 7 l_1),v_ l_6,c_ 68 [r_0,r_1],w_ 7 r_2]
(h_ [w_ 8 (i_ 0)]
(.block 2
(.loop t34L0)))))
(g_ [v_ l_6,o_ (.bin .add r_0 (i_ 1)),w_ 6 r_1])))
def t34:aR:=⟨1,13,[.loc 2,.loc 3],
(h_ [o_ (.boxL 1 l_0),w_ 2 N_,w_ 3 (i_ 0)]
(h_ [o_ (.loadN 7 l_1),c_ 67 [r_0],w_ 4 r_1]
(.seq (.seq (g_ [v_ l_4,s_ 9 (.bin .neq r_0 (i_ 0))])
(.cond l_9
(h_ [v_ l_4,w_ 2 N_,w_ 3 r_0]
.ret)
.skip))
(h_ [f_ 6 l_1,d_ r_0,o_ (.len .sl r_1),o_ (.mkSlice [(.sl .nil [])] 24 r_2 r_2),w_ 5 r_3]
(.seq (.seq (g_ [w_ 6 (i_ 1)])
(.block 0
(.loop t34L1)))
(h_ [v_ l_5,w_ 2 r_0,w_ 3 (i_ 0)]
.ret))))))⟩
def a35:Ann:=⟨[0,1,2,4,5,6,19,32,50],[5,2],[],[],[]⟩
def t35:aR:=⟨2,9,[.loc 3],
(h_ [o_ (.boxL 2 l_0),w_ 3 N_]
(h_ [f_ 6 l_2,d_ r_0,v_ l_1,o_ (.indexAddrS 8 r_1 r_2),o_ (.loadN 8 r_3),o_ (.allocL 4 [(.int .i64 0),(.int .i64 0),(.int .i64 0),(.int .i64 0),(.int .i64 0),(.int .i64 0),(.sl .nil []),(.sl .nil [])]),o_ (.store 8 r_5 r_4)]
(h_ [w_ 5 N_]
(.seq (.seq (g_ [f_ 0 l_4,d_ r_0,o_ (.bin .eql r_1 (i_ 68)),v_ r_2,x_ 3 (.fieldAddr 0 l_4),x_ 3 (.load1 r_4),x_ 3 (.bin .eql r_5 (i_ 72)),s_ 6 (.pick r_3 T_ r_6)])
(.cond l_6
(h_ [w_ 3 N_]
.ret)
.skip))
(.seq (.seq (g_ [f_ 0 l_4,d_ r_0,o_ (.bin .eql r_1 (i_ 66)),v_ r_2,x_ 3 (.fieldAddr 0 l_4),x_ 3 (.load1 r_4),x_ 3 (.bin .geq r_5 (i_ 26)),x_ 3 (.mov r_6),y_ 7 (.fieldAddr 0 l_4),y_ 7 (.load1 r_8),y_ 7 (.bin .leq r_9 (i_ 31)),x_ 3 (.pick r_7 dH F_),s_ 7 (.pick r_3 T_ dQ)])
(.cond l_7
(g_ [v_ l_5,o_ (.loadN 7 l_2),f_ 5 l_4,d_ r_2,c_ 69 [r_1,r_3],o_ (.lit false [(.int .i64 0)] 1 [(0,r_4)]),o_ (.append false 1 8 3 r_0 r_5),w_ 5 r_6])
.skip))
(.seq (.seq (g_ [f_ 0 l_4,d_ r_0,o_ (.bin .neq r_1 (i_ 66)),v_ r_2,y_ 3 (.mov l_1),y_ 3 (.bin .add r_4 (i_ 1)),y_ 3 (.fieldAddr 6 l_2),y_ 3 (.load1 r_6),y_ 3 (.len .sl r_7),y_ 3 (.bin .lss r_5 r_8),s_ 8 (.pick r_3 r_9 F_)])
(.cond l_8
(g_ [v_ l_5,v_ l_1,o_ (.bin .add r_1 (i_ 1)),o_ (.lit false [(.int .i64 0)] 1 [(0,r_2)]),o_ (.append false 1 8 3 r_0 r_3),w_ 5 r_4])
.skip))
(h_ [v_ l_5,w_ 3 r_0]
.ret)))))))⟩
def a36:Ann:=⟨[0,1,4,6],[],[],[],[]⟩
def t36:aR:=⟨2,4,[.loc 2],
(h_ [w_ 2 N_]
(.seq (.seq (g_ [v_ l_1,s_ 3 (.bin .leq r_0 (i_ 0))])
(.cond l_3
(h_ [v_ l_0,w_ 2 r_0]
.ret)
.skip))
(h_ [v_ l_0,v_ l_1,c_ 70 [r_0,r_1],w_ 2 r_2]
.ret)))⟩
def a37:Ann:=⟨[0,1,2,3,4,37,44,46],[1],[],[],[]⟩
def t37L0:aJ:=(.seq (.seq (g_ [v_ l_4,s_ 7 (.bin .leq r_0 (i_ 26))])
(.cond l_7
.skip
(.exit 0)))
(.seq (.block 1
(g_ [v_ l_3,v_ l_4,c_ 36 [r_0,r_1],w_ 3 r_2]))
(g_ [v_ l_4,o_ (.bin .add r_0 (i_ 1)),w_ 4 r_1])))
def t37:aR:=⟨1,8,[.loc 2],
(h_ [o_ (.boxL 1 l_0),w_ 2 N_]
(h_ [w_ 3 N_]
(.seq (.seq (g_ [f_ 0 l_1,d_ r_0,o_ (.bin .geq r_1 (i_ 1)),v_ r_2,y_ 3 (.fieldAddr 0 l_1),y_ 3 (.load1 r_4),y_ 3 (.bin .leq r_5 (i_ 24)),o_ (.pick r_3 r_6 F_),v_ r_7,x_ 8 (.fieldAddr 0 l_1),x_ 8 (.load1 r_9),x_ 8 (.bin .eql dH (i_ 64)),o_ (.pick r_8 T_ dQ),v_ eT,x_ 13 (.fieldAddr 0 l_1),x_ 13 (.load1 gL),x_ 13 (.bin .eql gY (i_ 69)),o_ (.pick gK T_ iF),v_ lF,x_ 18 (.fieldAddr 0 l_1),x_ 18 (.load1 pB),x_ 18 (.bin .eql pC (i_ 70)),o_ (.pick mN T_ pE),v_ rM,x_ 23 (.fieldAddr 0 l_1),x_ 23 (.load1 wP),x_ 23 (.bin .eql aBz (i_ 71)),o_ (.pick wO T_ aGn),v_ aJ5,x_ 28 (.fieldAddr 0 l_1),x_ 28 (.load1 bBf),x_ 28 (.bin .eql bBg (i_ 73)),s_ 5 (.pick aNt T_ bBh)])
(.cond l_5
(h_ [v_ l_3,f_ 1 l_1,d_ r_1,c_ 36 [r_0,r_2],w_ 2 r_3]
.ret)
.skip))
(.seq (.seq (g_ [f_ 0 l_1,d_ r_0,s_ 6 (.bin .eql r_1 (i_ 67))])
(.cond l_6
(.seq (.seq (g_ [w_ 4 (i_ 1)])
(.block 0
(.loop t37L0)))
(h_ [v_ l_3,c_ 36 [r_0,(i_ 31)],w_ 3 r_1]
(h_ [v_ l_3,f_ 1 l_1,d_ r_1,c_ 36 [r_0,r_2],w_ 2 r_3]
.ret)))
.skip))
(h_ [w_ 2 N_]
.ret)))))⟩
def a38:Ann:=⟨[0,1,4,5,9,17],[],[],[],[]⟩
def t38L0:aJ:=(.seq (.seq (g_ [v_ l_3,v_ l_0,o_ (.len .sl r_1),s_ 4 (.bin .lss r_0 r_2)])
(.cond l_4
.skip
(.exit 0)))
(.seq (.block 1
(h_ [v_ l_0,v_ l_3,o_ (.indexAddrS 1 r_0 r_1),d_ r_2,v_ l_1,s_ 5 (.bin .eql r_3 r_4)]
(.cond l_5
(h_ [w_ 2 T_]
.ret)
.skip)))
(g_ [v_ l_3,o_ (.bin .add r_0 (i_ 1)),w_ 3 r_1])))
def t38:aR:=⟨2,6,[.loc 2],
(h_ [w_ 2 F_]
(.seq (.seq (g_ [w_ 3 (i_ 0)])
(.block 0
(.loop t38L0)))
(h_ [w_ 2 F_]
.ret)))⟩
def a39:Ann:=⟨[0,1,2,3],[2],[],[],[]⟩
def t39:aR:=⟨2,4,[.loc 3],
(h_ [o_ (.boxL 2 l_0),w_ 3 F_]
(h_ [o_ (.indexAddrA 2 1 l_2 (i_ 0)),d_ r_0,o_ (.bin .lss r_1 (i_ 1)),v_ r_2,x_ 3 (.indexAddrA 2 1 l_2 (i_ 1)),x_ 3 (.load1 r_4),x_ 3 (.bin .lss r_5 (i_ 1)),o_ (.pick r_3 T_ r_6),v_ r_7,x_ 8 (.indexAddrA 2 1 l_2 (i_ 0)),x_ 8 (.load1 r_9),x_ 8 (.fieldAddr 0 l_1),x_ 8 (.load1 dQ),x_ 8 (.bin .geq dH eT),o_ (.pick r_8 T_ gK),v_ gL,x_ 15 (.indexAddrA 2 1 l_2 (i_ 1)),x_ 15 (.load1 iF),x_ 15 (.fieldAddr 0 l_1),x_ 15 (.load1 mN),x_ 15 (.bin .geq lF pB),o_ (.pick gY T_ pC),v_ pE,x_ 22 (.indexAddrA 2 1 l_2 (i_ 0)),x_ 22 (.load1 wO),x_ 22 (.indexAddrA 2 1 l_2 (i_ 1)),x_ 22 (.load1 aBz),x_ 22 (.bin .eql wP aGn),o_ (.pick rM T_ aJ5),w_ 3 aNt]
.ret))⟩
def a40:Ann:=⟨[0,1,2],[],[],[],[]⟩
def t40:aR:=⟨3,3,[],
(h_ [v_ l_0,o_ (.nilCheck r_0),f_ 3 r_1,d_ r_2,v_ l_1,o_ (.indexAddrS 1 r_3 r_4),d_ r_5,v_ l_2,o_ (.lookup (.leaf .int) (.int .i64 0) false r_6 r_7),o_ (.bin .add r_8 (i_ 1)),o_ (.update (.leaf .int) r_6 r_7 r_9)]
(g_ [v_ l_0,o_ (.nilCheck r_0),f_ 3 r_1,d_ r_2,v_ l_2,o_ (.indexAddrS 1 r_3 r_4),d_ r_5,v_ l_1,o_ (.lookup (.leaf .int) (.int .i64 0) false r_6 r_7),o_ (.bin .add r_8 (i_ 1)),o_ (.update (.leaf .int) r_6 r_7 r_9)]))⟩
def a41:Ann:=⟨[0,1,4,13],[],[],[],[]⟩
def t41L0:aJ:=(.seq (.seq (g_ [v_ l_0,o_ (.nilCheck r_0),f_ 5 r_1,d_ r_2,v_ l_1,o_ (.indexAddrS 1 r_3 r_4),d_ r_5,v_ l_1,s_ 3 (.bin .neq r_6 r_7)])
(.cond l_3
.skip
(.exit 0)))
(.block 1
(g_ [v_ l_0,o_ (.nilCheck r_0),f_ 5 r_1,d_ r_2,v_ l_1,o_ (.indexAddrS 1 r_3 r_4),d_ r_5,w_ 1 r_6])))
def t41:aR:=⟨2,4,[.loc 2],
(h_ [w_ 2 (i_ 0)]
(.seq (.block 0
(.loop t41L0))
(h_ [v_ l_1,w_ 2 r_0]
.ret)))⟩
def a42:Ann:=⟨[0,1,2,6,7,9,10,11,12,14,16,24,26,47,55,57,62,72,74,95],[],[],[],[]⟩
def t42L0:aJ:=(.seq (g_ [o_ (.nextM aJ6),s_ 18 (.extract 0 r_0)])
(.seq (.cond aCs
.skip
(.exit 4))
(.block 5
(h_ [o_ (.entryM aJ6),o_ (.extract 0 r_0),w_ 8 r_1]
(h_ [v_ l_0,o_ (.nilCheck r_0),f_ 3 r_1,d_ r_2,v_ l_1,o_ (.indexAddrS 1 r_3 r_4),d_ r_5,v_ l_8,o_ (.lookup (.leaf .int) (.int .i64 0) true r_6 r_7),v_ r_8,o_ (.extract 0 r_9),o_ (.extract 1 r_9),v_ dH,w_ 9 dQ]
(h_ [v_ l_9,o_ (.un .not r_0),v_ r_1,y_ 2 (.mov l_0),y_ 2 (.mov l_8),y_ 2 (.call false false 71 [r_3,r_4]),s_ 19 (.pick r_2 r_5 F_)]
(.cond bBi
(g_ [v_ l_6,o_ (.bin .add r_0 (i_ 1)),w_ 6 r_1])
.skip)))))))
def t42L1:aJ:=(.seq (g_ [o_ (.nextM oU),s_ 15 (.extract 0 r_0)])
(.seq (.cond wQ
.skip
(.exit 2))
(.block 3
(h_ [o_ (.entryM oU),o_ (.extract 0 r_0),w_ 7 r_1]
(h_ [v_ l_0,v_ l_7,s_ 16 (.call false false 71 [r_0,r_1])]
(.cond vH
(g_ [v_ l_6,o_ (.bin .add r_0 (i_ 1)),w_ 6 r_1])
.skip))))))
def t42L2:aJ:=(.seq (g_ [o_ (.nextM iG),s_ 12 (.extract 0 r_0)])
(.seq (.cond lG
.skip
(.exit 0))
(.block 1
(h_ [o_ (.entryM iG),o_ (.extract 0 r_0),w_ 4 r_1]
(h_ [v_ l_0,o_ (.nilCheck r_0),f_ 3 r_1,d_ r_2,v_ l_1,o_ (.indexAddrS 1 r_3 r_4),d_ r_5,v_ l_4,o_ (.lookup (.leaf .int) (.int .i64 0) true r_6 r_7),v_ r_8,o_ (.extract 0 r_9),o_ (.extract 1 r_9),v_ dH,w_ 5 dQ]
(h_ [v_ l_5,o_ (.un .not r_0),v_ r_1,y_ 2 (.mov l_0),y_ 2 (.mov l_4),y_ 2 (.call false false 71 [r_3,r_4]),s_ 13 (.pick r_2 r_5 F_)]
(.cond pF
(h_ [w_ 3 F_]
.ret)
.skip)))))))
def t42:aR:=⟨3,20,[.loc 3],
(h_ [w_ 3 F_]
(.seq (.seq (g_ [v_ l_1,s_ 10 (.bin .lss r_0 (i_ 32))])
(.cond gA
(.seq (.seq (g_ [v_ l_0,o_ (.nilCheck r_0),f_ 3 r_1,d_ r_2,v_ l_2,o_ (.indexAddrS 1 r_3 r_4),d_ r_5,s_ 11 (.range false r_6)])
(.block 0
(.loop t42L2)))
(h_ [w_ 3 T_]
.ret))
.skip))
(h_ [w_ 6 (i_ 0)]
(.seq (.seq (g_ [v_ l_0,o_ (.nilCheck r_0),f_ 3 r_1,d_ r_2,v_ l_1,o_ (.indexAddrS 1 r_3 r_4),d_ r_5,s_ 14 (.range false r_6)])
(.block 2
(.loop t42L1)))
(.seq (.seq (g_ [v_ l_0,o_ (.nilCheck r_0),f_ 3 r_1,d_ r_2,v_ l_2,o_ (.indexAddrS 1 r_3 r_4),d_ r_5,s_ 17 (.range false r_6)])
(.block 4
(.loop t42L0)))
(h_ [v_ l_6,o_ (.bin .lss r_0 (i_ 24)),w_ 3 r_1]
.ret))))))⟩
def a43:Ann:=⟨[0,1,2,6,21,23],[],[],[],[]⟩
def t43L0:aJ:=(.seq (g_ [o_ (.nextM l_4),s_ 5 (.extract 0 r_0)])
(.seq (.cond l_5
.skip
(.exit 0))
(.block 1
(h_ [o_ (.entryM l_4),o_ (.extract 0 r_0),w_ 3 r_1]
(h_ [v_ l_0,o_ (.nilCheck r_0),f_ 3 r_1,d_ r_2,v_ l_3,o_ (.indexAddrS 1 r_3 r_4),d_ r_5,v_ l_2,o_ (.delete (.leaf .int) r_6 r_7)]
(g_ [v_ l_0,v_ l_1,v_ l_3,o_ (.call false false 40 [r_0,r_1,r_2])]))))))
def t43:aR:=⟨3,6,[],
(h_ [v_ l_0,o_ (.nilCheck r_0),f_ 5 r_1,d_ r_2,v_ l_2,v_ l_1,o_ (.indexAddrS 1 r_3 r_4),o_ (.store 1 r_6 r_5)]
(.seq (.seq (g_ [v_ l_0,o_ (.nilCheck r_0),f_ 3 r_1,d_ r_2,v_ l_2,o_ (.indexAddrS 1 r_3 r_4),d_ r_5,s_ 4 (.range false r_6)])
(.block 0
(.loop t43L0)))
(g_ [v_ l_0,o_ (.nilCheck r_0),f_ 3 r_1,d_ r_2,v_ l_2,o_ (.mkMap),o_ (.indexAddrS 1 r_3 r_4),o_ (.store 1 r_6 r_5)])))⟩
def a44:Ann:=⟨[0,1,3,8,18],[],[],[],[]⟩
def t44L0:aJ:=(.seq (.seq (g_ [v_ l_2,s_ 3 (.bin .geq r_0 (i_ 0))])
(.cond l_3
.skip
(.exit 0)))
(.seq (.block 1
(h_ [v_ l_0,v_ l_2,d_ l_1,v_ l_2,o_ (.indexAddrS 1 r_2 r_3),d_ r_4,o_ (.callv r_0 [r_1,r_5]),s_ 4 (.un .not r_6)]
(.cond l_4
.ret
.skip)))
(g_ [v_ l_2,o_ (.bin .sub r_0 (i_ 1)),w_ 2 r_1])))
def t44:aR:=⟨2,5,[],
(h_ [d_ l_1,o_ (.len .sl r_0),o_ (.bin .sub r_1 (i_ 1)),w_ 2 r_2]
(.block 0
(.loop t44L0)))⟩
def a45:Ann:=⟨[0,1,4,5,7,8,9,16],[],[],[],[]⟩
def t45L0:aJ:=(.seq (g_ [s_ 6 (.bin .lss l_5 l_4)])
(.seq (.cond l_6
.skip
(.exit 0))
(.seq (.block 1
(h_ [v_ l_5,w_ 3 r_0]
(h_ [v_ l_1,v_ l_0,v_ l_3,o_ (.indexAddrS 1 r_1 r_2),d_ r_3,s_ 7 (.callv r_0 [r_4])]
(.cond l_7
(h_ [v_ l_3,w_ 2 r_0]
.ret)
.skip))))
(g_ [o_ (.bin .add l_5 (i_ 1)),w_ 5 r_0]))))
def t45:aR:=⟨2,8,[.loc 2],
(h_ [w_ 2 (i_ 0)]
(.seq (.seq (g_ [v_ l_0,s_ 4 (.len .sl r_0),w_ 5 (i_ 0)])
(.block 0
(.loop t45L0)))
(h_ [s_ 2 (.mov (i_ (-1)))]
.ret)))⟩
def a46:Ann:=⟨[0,1,3],[],[],[],[]⟩
def t46:aR:=⟨2,3,[.loc 2],
(h_ [w_ 2 F_]
(h_ [d_ l_1,v_ l_0,o_ (.indexAddrS 1 r_0 r_1),d_ r_2,o_ (.bin .lss r_3 (i_ 24)),w_ 2 r_4]
.ret))⟩
def a47:Ann:=⟨[0,1,4,5,7,8,9,16],[],[],[],[]⟩
def t47L0:aJ:=(.seq (g_ [s_ 6 (.bin .lss l_5 l_4)])
(.seq (.cond l_6
.skip
(.exit 0))
(.seq (.block 1
(h_ [v_ l_5,w_ 3 r_0]
(h_ [v_ l_1,v_ l_0,v_ l_3,o_ (.indexAddrS 1 r_1 r_2),d_ r_3,s_ 7 (.bin .eql r_0 r_4)]
(.cond l_7
(h_ [v_ l_3,w_ 2 r_0]
.ret)
.skip))))
(g_ [o_ (.bin .add l_5 (i_ 1)),w_ 5 r_0]))))
def t47:aR:=⟨2,8,[.loc 2],
(h_ [w_ 2 (i_ 0)]
(.seq (.seq (g_ [v_ l_0,s_ 4 (.len .sl r_0),w_ 5 (i_ 0)])
(.block 0
(.loop t47L0)))
(h_ [s_ 2 (.mov (i_ (-1)))]
.ret)))⟩
def a48:Ann:=⟨[0,1,4,5,6,9,17,27],[],[],[],[]⟩
def t48L0:aJ:=(.seq (.seq (g_ [v_ l_4,v_ l_0,o_ (.len .sl r_1),s_ 6 (.bin .lss r_0 r_2)])
(.cond l_6
.skip
(.exit 0)))
(.seq (.block 1
(h_ [v_ l_1,v_ l_0,v_ l_4,o_ (.indexAddrS 1 r_1 r_2),d_ r_3,v_ l_3,o_ (.callv r_0 [r_4,r_5]),s_ 7 (.bin .gtr r_6 (i_ 0))]
(.cond l_7
(g_ [v_ l_0,v_ l_4,o_ (.indexAddrS 1 r_0 r_1),d_ r_2,w_ 3 r_3])
.skip)))
(g_ [v_ l_4,o_ (.bin .add r_0 (i_ 1)),w_ 4 r_1])))
def t48:aR:=⟨2,8,[.loc 2],
(h_ [w_ 2 (i_ 0)]
(.seq (.seq (g_ [v_ l_0,o_ (.len .sl r_0),s_ 5 (.bin .lss r_1 (i_ 1))])
(.cond l_5
(g_ [o_ (.bad),o_ (.bad)])
.skip))
(h_ [v_ l_0,o_ (.indexAddrS 1 r_0 (i_ 0)),d_ r_1,w_ 3 r_2]
(.seq (.seq (g_ [w_ 4 (i_ 1)])
(.block 0
(.loop t48L0)))
(h_ [v_ l_3,w_ 2 r_0]
.ret)))))⟩
def a49:Ann:=⟨[0,1,2,5],[],[],[],[(1,⟨[0,0,3,7,0,0,48,112,255,511],[0,1,2,3,4,5,6,7],[(8,[],[9])]⟩)]⟩
def t49:aR:=⟨3,4,[.loc 3],
(h_ [w_ 3 (i_ 0)]
(.seq (.draw [0,1,2,3,4,5,6,7] [(8,[],[9])] [d_ l_2,v_ l_0,o_ (.indexAddrS 1 r_0 r_1),d_ r_2,d_ l_2,v_ l_1,o_ (.indexAddrS 1 r_4 r_5),d_ r_6,c_ 50 [r_3,r_7],w_ 3 r_8])
.ret))⟩
def a50:Ann:=⟨[0,1,4,5,6,11,12,13,16,19],[],[],[],[]⟩
def t50:aR:=⟨2,10,[.loc 2],
(h_ [w_ 2 (i_ 0)]
(h_ [v_ l_0,c_ 72 [r_0],w_ 3 r_1]
(h_ [v_ l_1,c_ 72 [r_0],w_ 4 r_1]
(.seq (.seq (g_ [w_ 5 l_3])
(.cond l_5
(.seq (.seq (g_ [w_ 6 l_4])
(.cond l_6
(h_ [w_ 2 (i_ 0)]
.ret)
.skip))
(h_ [s_ 2 (.mov (i_ (-1)))]
.ret))
.skip))
(.seq (.seq (g_ [w_ 7 l_4])
(.cond l_7
(h_ [w_ 2 (i_ 1)]
.ret)
.skip))
(.seq (.seq (g_ [v_ l_0,v_ l_1,s_ 8 (.bin .lss r_0 r_1)])
(.cond l_8
(h_ [s_ 2 (.mov (i_ (-1)))]
.ret)
.skip))
(.seq (.seq (g_ [v_ l_0,v_ l_1,s_ 9 (.bin .gtr r_0 r_1)])
(.cond l_9
(h_ [w_ 2 (i_ 1)]
.ret)
.skip))
(h_ [w_ 2 (i_ 0)]
.ret))))))))⟩
def a51:Ann:=⟨[0,1,2,6,7,16],[],[],[],[(5,⟨[0,0,3,0,0,24,63,127],[0,1,2,3,4,5],[(6,[],[7])]⟩)]⟩
def t51:aR:=⟨3,6,[.loc 3],
(h_ [w_ 3 N_]
(h_ [v_ l_0,v_ l_1,v_ l_2,v_ l_0,o_ (.len .sl r_3),o_ (.slice (.sl 1) r_0 (some r_1) (some r_2) (some r_4))]
(.seq (.seq (g_ [v_ l_1,v_ l_2,s_ 5 (.bin .eql r_0 r_1)])
(.cond l_5
(h_ [v_ l_0,w_ 3 r_0]
.ret)
.skip))
(h_ [v_ l_0,o_ (.len .sl r_0),w_ 4 r_1]
(.seq (.draw [0,1,2,3,4,5] [(6,[],[7])] [v_ l_0,v_ l_1,o_ (.slice (.sl 1) r_0 none (some r_1) none),v_ l_0,v_ l_2,o_ (.slice (.sl 1) r_3 (some r_4) none none),o_ (.append false 1 8 3 r_2 r_5),w_ 0 r_6])
(h_ [v_ l_0,v_ l_0,o_ (.len .sl r_1),v_ l_4,o_ (.slice (.sl 1) r_0 (some r_2) (some r_3) none),o_ (.clear [(.int .i64 0)] r_4)]
(h_ [v_ l_0,w_ 3 r_0]
.ret)))))))⟩
def a52:Ann:=⟨[0,1,4,5,7,8,9,10,11,12,13,23,25,35,46,52],[5],[],[],[]⟩
def t52L0:aJ:=(.seq (.seq (g_ [v_ l_6,s_ 14 (.bin .leq r_0 (i_ 24))])
(.cond oU
.skip
(.exit 4)))
(.seq (.block 5
(h_ [v_ l_6,o_ (.indexAddrA 25 1 l_3 r_0),d_ r_1,s_ 15 (.un .not r_2)]
(.cond wQ
(h_ [v_ l_6,w_ 2 r_0]
.ret)
.skip)))
(g_ [v_ l_6,o_ (.bin .add r_0 (i_ 1)),w_ 6 r_1])))
def t52L1:aJ:=(.seq (g_ [o_ (.nextM iG), s_ 12 (.extract 0 r_0)])
(.seq (.cond lG
.skip
(.exit 2))
(.block 3
(h_ [o_ (.entryM iG),o_ (.extract 0 r_0),w_ 5 r_1]
(h_ [v_ l_0,o_ (.nilCheck r_0),f_ 6 r_1,d_ r_2,v_ l_5,o_ (.indexAddrS 1 r_3 r_4),d_ r_5,s_ 13 (.call true false 24 [r_6])]
(.cond pF
(g_ [v_ l_0,o_ (.nilCheck r_0),f_ 6 r_1,d_ r_2,v_ l_5,o_ (.indexAddrS 1 r_3 r_4),d_ r_5,o_ (.indexAddrA 25 1 l_3 r_6),o_ (.store 1 r_7 T_)])
.skip))))))
def t52L2:aJ:=(.seq (g_ [s_ 10 (.bin .lss l_9 l_8)])
(.seq (.cond gA
.skip
(.exit 0))
(.seq (.block 1
(h_ [o_ (.indexAddrS 1 l_7 l_9),d_ r_0,w_ 4 r_1]
(h_ [v_ l_0,o_ (.nilCheck r_0),f_ 4 r_1,d_ r_2,v_ l_4,o_ (.indexAddrS 1 r_3 r_4),d_ r_5,s_ 11 (.range false r_6)]
(.block 2
(.loop t52L1)))))
(g_ [o_ (.bin .add l_9 (i_ 1)),w_ 9 r_0]))))
def t52:aR:=⟨2,16,[.loc 2],
(h_ [w_ 2 (i_ 0)]
(h_ [o_ (.allocL 3 [(.bool false),(.bool false),(.bool false),(.bool false),(.bool false),(.bool false),(.bool false),(.bool false),(.bool false),(.bool false),(.bool false),(.bool false),(.bool false),(.bool false),(.bool false),(.bool false),(.bool false),(.bool false),(.bool false),(.bool false),(.bool false),(.bool false),(.bool false),(.bool false),(.bool false)])]
(.seq (.seq (g_ [w_ 7 l_1,s_ 8 (.len .sl r_0),w_ 9 (i_ 0)])
(.block 0
(.loop t52L2)))
(.seq (.seq (g_ [w_ 6 (i_ 1)])
(.block 4
(.loop t52L0)))
(h_ [s_ 2 (.mov (i_ (-1)))]
.ret)))))⟩
def a53:Ann:=⟨[0,1,4,5,7,8,9,16],[],[],[],[]⟩
def t53L0:aJ:=(.seq (g_ [s_ 6 (.bin .lss l_5 l_4)])
(.seq (.cond l_6
.skip
(.exit 0))
(.seq (.block 1
(h_ [v_ l_5,w_ 3 r_0]
(h_ [v_ l_1,v_ l_0,v_ l_3,o_ (.indexAddrS 2 r_1 r_2),o_ (.loadN 2 r_3),s_ 7 (.callv r_0 [r_4])]
(.cond l_7
(h_ [v_ l_3,w_ 2 r_0]
.ret)
.skip))))
(g_ [o_ (.bin .add l_5 (i_ 1)),w_ 5 r_0]))))
def t53:aR:=⟨2,8,[.loc 2],
(h_ [w_ 2 (i_ 0)]
(.seq (.seq (g_ [v_ l_0,s_ 4 (.len .sl r_0),w_ 5 (i_ 0)])
(.block 0
(.loop t53L0)))
(h_ [s_ 2 (.mov (i_ (-1)))]
.ret)))⟩
def a54:Ann:=⟨[0,1,2,3,5,7,8,9,33,36,37,38,39,44,52,53,54,55,74,115,125,126],[7,5],[],[],[]⟩
def t54L0:aJ:=(.seq (g_ [s_ 17 (.bin .lss vH wQ)])
(.seq (.cond aJ6
.skip
(.exit 2))
(.seq (.block 3
(h_ [o_ (.indexAddrS 8 oU vH),o_ (.loadN 8 r_0),o_ (.allocL 5 [(.int .i64 0),(.int .i64 0),(.int .i64 0),(.int .i64 0),(.int .i64 0),(.int .i64 0),(.sl .nil []),(.sl .nil [])]),o_ (.store 8 r_2 r_1)]
(h_ [f_ 2 l_5,d_ r_0,f_ 3 l_5,d_ r_2,o_ (.lit false [(.int .i64 0)] 2 [(0,r_1),(1,r_3)]),f_ 6 l_5,d_ r_5,o_ (.lit false [(.sl .nil [])] 2 [(0,r_4),(1,r_6)]),o_ (.call false false 13 [r_7]),w_ 6 r_8]
(.seq (.seq (g_ [f_ 0 l_5,d_ r_0,o_ (.bin .neq r_1 (i_ 67)),v_ r_2,x_ 3 (.fieldAddr 1 l_5),x_ 3 (.load1 r_4),x_ 3 (.bin .geq r_5 (i_ 0)),s_ 18 (.pick r_3 T_ r_6)])
(.cond aCs
(g_ [v_ l_6,f_ 1 l_5,d_ r_1,o_ (.lit false [(.int .i64 0)] 1 [(0,r_2)]),o_ (.append false 1 8 3 r_0 r_3),w_ 6 r_4])
.skip))
(h_ [f_ 0 l_5,d_ r_0,o_ (.bin .geq r_1 (i_ 26)),v_ r_2,y_ 3 (.fieldAddr 0 l_5),y_ 3 (.load1 r_4),y_ 3 (.bin .leq r_5 (i_ 31)),o_ (.pick r_3 r_6 F_),v_ r_7,x_ 8 (.fieldAddr 0 l_5),x_ 8 (.load1 r_9),x_ 8 (.bin .eql dH (i_ 66)),o_ (.pick r_8 T_ dQ),v_ eT,x_ 13 (.fieldAddr 0 l_5),x_ 13 (.load1 gL),x_ 13 (.bin .eql gY (i_ 65)),o_ (.pick gK T_ iF),w_ 7 lF]
(h_ [o_ (.loadN 8 l_5),c_ 73 [r_0],o_ (.un .not r_1),v_ r_2,x_ 3 (.mov l_6),x_ 3 (.mkFn 75 [] [l_1]),x_ 3 (.call false false 74 [r_4,r_5]),o_ (.pick r_3 T_ r_6),v_ r_7,x_ 8 (.mov l_7),x_ 8 (.mov r_9),y_ 10 (.mov l_3),y_ 10 (.fieldAddr 5 l_5),y_ 10 (.load1 eT),y_ 10 (.lookup (.leaf .int) (.int .i64 0) false dQ gK),y_ 10 (.bin .neq gL (i_ 1)),x_ 8 (.pick dH gY F_),s_ 19 (.pick r_8 T_ iF)]
(.cond bBi
(h_ [w_ 2 (i_ 2)]
.ret)
.skip)))))))
(g_ [o_ (.bin .add vH (i_ 1)),w_ 16 r_0]))))
def t54L1:aJ:=(.seq (g_ [s_ 12 (.bin .lss iG gA)])
(.seq (.cond lG
.skip
(.exit 0))
(.seq (.block 1
(h_ [o_ (.indexAddrS 8 l_9 iG),o_ (.loadN 8 r_0),o_ (.allocL 4 [(.int .i64 0),(.int .i64 0),(.int .i64 0),(.int .i64 0),(.int .i64 0),(.int .i64 0),(.sl .nil []),(.sl .nil [])]),o_ (.store 8 r_2 r_1)]
(h_ [f_ 0 l_4,d_ r_0,s_ 13 (.bin .eql r_1 (i_ 65))]
(.cond pF
(g_ [v_ l_3,f_ 5 l_4,d_ r_1,o_ (.lookup (.leaf .int) (.int .i64 0) false r_0 r_2),o_ (.bin .add r_3 (i_ 1)),o_ (.update (.leaf .int) r_0 r_2 r_4)])
.skip))))
(g_ [o_ (.bin .add iG (i_ 1)),w_ 11 r_0]))))
def t54:aR:=⟨1,22,[.loc 2],
(h_ [s_ 1 (.boxH 25 l_0),w_ 2 (i_ 0)]
(.seq (.seq (g_ [f_ 1 l_1,d_ r_0,o_ (.bin .lss r_1 (i_ 32)),v_ r_2,x_ 3 (.fieldAddr 3 l_1),x_ 3 (.load1 r_4),x_ 3 (.bin .lss r_5 (i_ 0)),o_ (.pick r_3 T_ r_6),v_ r_7,x_ 8 (.fieldAddr 2 l_1),x_ 8 (.load1 r_9),x_ 8 (.bin .lss dH (i_ 0)),o_ (.pick r_8 T_ dQ),v_ eT,x_ 13 (.fieldAddr 4 l_1),x_ 13 (.load1 gL),x_ 13 (.bin .lss gY (i_ 0)),o_ (.pick gK T_ iF),v_ lF,x_ 18 (.fieldAddr 6 l_1),x_ 18 (.load1 pB),x_ 18 (.len .sl pC),x_ 18 (.bin .eql pE (i_ 0)),s_ 8 (.pick mN T_ rM)])
(.cond l_8
(h_ [w_ 2 (i_ 2)]
.ret)
.skip))
(h_ [o_ (.mkMap),w_ 3 r_0]
(.seq (.seq (g_ [f_ 6 l_1,s_ 9 (.load1 r_0),s_ 10 (.len .sl r_1),w_ 11 (i_ 0)])
(.block 0
(.loop t54L1)))
(.seq (.seq (g_ [f_ 6 l_1,s_ 14 (.load1 r_0),s_ 15 (.len .sl r_1),w_ 16 (i_ 0)])
(.block 2
(.loop t54L0)))
(.seq (.seq (g_ [f_ 6 l_1,d_ r_0,f_ 6 l_1,d_ r_2,o_ (.len .sl r_3),o_ (.bin .sub r_4 (i_ 1)),o_ (.indexAddrS 8 r_1 r_5),f_ 0 r_6,s_ 20 (.load1 r_7)])
(.block 4
(.seq (.seq (g_ [o_ (.bin .eql bBj (i_ 66)),w_ 21 r_0])
(.cond aNu
.skip
(h_ [o_ (.bin .eql bBj (i_ 68)),w_ 21 r_0]
(.cond aNu
.skip
(g_ [o_ (.bin .eql bBj (i_ 72)),w_ 21 r_0])))))
(.cond aNu
(h_ [w_ 2 (i_ 0)]
.ret)
.skip))))
(h_ [w_ 2 (i_ 2)]
.ret)))))))⟩
def a55:Ann:=⟨[0,1,4,5,7,13,14,15,16,21],[],[],[],[(6,⟨[0,0,2,7,15,0,32,96,255,511,1023],[0,1,2,3,4,5,6,7,8,9],[(10,[],[])]⟩)]⟩
def t55L0:aJ:=(.seq (g_ [s_ 8 (.bin .lss l_7 l_6)])
(.seq (.cond l_8
.skip
(.exit 0))
(.seq (.block 1
(h_ [o_ (.indexAddrS 1 l_5 l_7),d_ r_0,w_ 4 r_1]
(h_ [v_ l_4,v_ l_0,s_ 9 (.bin .lss r_0 r_1)]
(.cond l_9
(.draw [0,1,2,3,4,5,6,7,8,9] [(10,[],[])] [v_ l_3,v_ l_4,o_ (.bin .quo r_1 (i_ 64)),o_ (.indexAddrS 1 r_0 r_2),d_ r_3,v_ l_4,o_ (.bin .rem r_5 (i_ 64)),o_ (.bin .shl (.cst (.int .u64 1)) r_6),o_ (.bin .or r_4 r_7),o_ (.indexAddrS 1 r_0 r_2),o_ (.store 1 r_9 r_8)])
.skip))))
(g_ [o_ (.bin .add l_7 (i_ 1)),w_ 7 r_0]))))
def t55:aR:=⟨2,10,[.loc 2],
(h_ [w_ 2 N_]
(h_ [v_ l_0,o_ (.bin .add r_0 (i_ 64)),o_ (.bin .sub r_1 (i_ 1)),o_ (.bin .quo r_2 (i_ 64)),o_ (.mkSlice [(.int .u64 0)] 8 r_3 r_3),w_ 3 r_4]
(.seq (.seq (g_ [w_ 5 l_1,s_ 6 (.len .sl r_0),w_ 7 (i_ 0)])
(.block 0
(.loop t55L0)))
(h_ [v_ l_3,w_ 2 r_0]
.ret))))⟩
def a56:Ann:=⟨[0,1,2,3,24,48],[1],[(4,4),(8,2),(12,4)],[],[]⟩
def t56:aR:=⟨1,6,[.loc 2],
(h_ [o_ (.boxL 1 l_0),w_ 2 N_]
(.seq (.block 0
(.seq (.seq (g_ [f_ 0 l_1,d_ r_0,o_ (.bin .geq r_1 (i_ 1)),v_ r_2,y_ 3 (.fieldAddr 0 l_1),y_ 3 (.load1 r_4),y_ 3 (.bin .leq r_5 (i_ 14)),o_ (.pick r_3 r_6 F_),w_ 3 r_7])
(.cond l_3
.skip
(h_ [f_ 0 l_1,d_ r_0,o_ (.bin .eql r_1 (i_ 25)),w_ 3 r_2]
(.cond l_3
.skip
(g_ [f_ 0 l_1,d_ r_0,c_ 76 [r_1],w_ 3 r_2])))))
(.cond l_3
(h_ [f_ 2 l_1,d_ r_0,f_ 3 l_1,d_ r_2,o_ (.lit true [(.int .i64 0)] 2 [(0,r_1),(1,r_3)]),o_ (.call false false 29 [r_4]),w_ 2 r_5]
.ret)
(.seq (.seq (g_ [f_ 0 l_1,d_ r_0,o_ (.bin .geq r_1 (i_ 15)),v_ r_2,y_ 3 (.fieldAddr 0 l_1),y_ 3 (.load1 r_4),y_ 3 (.bin .leq r_5 (i_ 24)),o_ (.pick r_3 r_6 F_),v_ r_7,y_ 8 (.fieldAddr 0 l_1),y_ 8 (.load1 r_9),y_ 8 (.bin .neq dH (i_ 23)),o_ (.pick r_8 dQ F_),w_ 4 eT])
(.cond l_4
.skip
(h_ [f_ 0 l_1,d_ r_0,o_ (.bin .eql r_1 (i_ 64)),w_ 4 r_2]
(.cond l_4
.skip
(g_ [f_ 0 l_1,d_ r_0,o_ (.bin .eql r_1 (i_ 74)),w_ 4 r_2])))))
(.cond l_4
(h_ [f_ 2 l_1,d_ r_0,o_ (.lit true [(.int .i64 0)] 1 [(0,r_1)]),o_ (.call false false 29 [r_2]),w_ 2 r_3]
.ret)
(.seq (.seq (g_ [f_ 0 l_1,d_ r_0,o_ (.bin .eql r_1 (i_ 67)),w_ 5 r_2])
(.cond l_5
.skip
(h_ [f_ 0 l_1,d_ r_0,o_ (.bin .eql r_1 (i_ 68)),w_ 5 r_2]
(.cond l_5
.skip
(g_ [f_ 0 l_1,d_ r_0,o_ (.bin .eql r_1 (i_ 72)),w_ 5 r_2])))))
(.cond l_5
(h_ [f_ 6 l_1,d_ r_0,o_ (.call false false 77 [r_1]),o_ (.lit false [(.int .i64 0)] 1 [(0,(i_ 26))]),o_ (.append true 1 8 3 r_2 r_3),o_ (.call false false 29 [r_4]),w_ 2 r_5]
.ret)
.skip)))))))
(h_ [w_ 2 N_]
.ret)))⟩
def a57:Ann:=⟨[0,1,2,3,4,8,9,10,11,12,13,14,23,24,26,27,28,54,55,56],[],[],[],[(7,⟨[0,0,3,7,0,16,48,112,0,496,1008,0,4080,8176,16383,32767,65535],[0,1,2,3,4,5,6,7,8,9,10,11,12,13,14,15],[(16,[],[])]⟩),(13,⟨[0,0,0,0,12,28,0,0,192,448,0,0,3072,7168,16320,32764,65535,131071],[0,1,2,3,4,5,6,7,8,9,10,11,12,13,14,15,16],[(17,[],[])]⟩),(16,⟨[0,1,3,7,0,0,32,96,224,0,0,0,1535,5631,16383,32767],[0,1,2,3,4,5,6,7,8,9,10,11,12],[(13,[11],[14]),(15,[],[])]⟩)]⟩
def t57L0:aJ:=(.seq (g_ [s_ 19 (.bin .lss aCs aJ6)])
(.seq (.cond bBi
.skip
(.exit 4))
(.seq (.block 5
(h_ [v_ aCs,w_ 10 r_0]
(.draw [0,1,2,3,4,5,6,7,8,9,10,11,12,13,14,15,16] [(17,[],[])] [v_ l_9,v_ gA,v_ l_2,v_ gA,o_ (.indexAddrS 1 r_2 r_3),d_ r_4,d_ l_6,v_ gA,o_ (.indexAddrS 1 r_6 r_7),d_ r_8,v_ l_3,v_ gA,o_ (.indexAddrS 1 dH dQ),d_ eT,o_ (.bin .andNot r_9 gK),o_ (.bin .or r_5 gL),o_ (.indexAddrS 1 r_0 r_1),o_ (.store 1 iF gY)])))
(g_ [o_ (.bin .add aCs (i_ 1)),w_ 18 r_0]))))
def t57L1:aJ:=(.seq (g_ [s_ 16 (.bin .lss wQ oU)])
(.seq (.cond vH
.skip
(.exit 2))
(.seq (.block 3
(h_ [v_ wQ,w_ 8 r_0]
(.draw [0,1,2,3,4,5,6,7,8,9,10,11,12,13,14,15] [(16,[],[])] [d_ l_6,v_ l_8,o_ (.indexAddrS 1 r_0 r_1),d_ r_2,d_ l_4,o_ (.nilCheck r_4),f_ 8 r_5,d_ r_6,v_ l_7,o_ (.indexAddrS 1 r_7 r_8),d_ r_9,v_ l_8,o_ (.indexAddrS 1 dH dQ),d_ eT,o_ (.bin .or r_3 gK),o_ (.indexAddrS 1 r_0 r_1),o_ (.store 1 gY gL)])))
(g_ [o_ (.bin .add wQ (i_ 1)),w_ 15 r_0]))))
def t57:aR:=⟨4,20,[.loc 5],
(h_ [s_ 4 (.boxH 69 l_0),w_ 5 F_]
(h_ [d_ l_4,o_ (.nilCheck r_0),f_ 0 r_1,f_ 1 r_2,d_ r_3,o_ (.call false false 55 [r_4,N_]),s_ 6 (.allocH 104 [(.sl .nil [])]),o_ (.store 1 r_6 r_5)]
(.seq (.seq (g_ [d_ l_4,v_ l_1,s_ 12 (.call false false 78 [r_0,r_1])])
(.block 0
(.rangeFunc lG [13]
(g_ [w_ 7 pF])
(.block 1
(h_ [d_ l_6,s_ 14 (.len .sl r_0),w_ 15 (i_ 0)]
(.block 2
(.loop t57L1)))))))
(h_ [d_ l_4,o_ (.nilCheck r_0),f_ 0 r_1,f_ 1 r_2,d_ r_3,o_ (.call false false 55 [r_4,N_]),w_ 9 r_5]
(.seq (.seq (g_ [v_ l_9,s_ 17 (.len .sl r_0),w_ 18 (i_ 0)])
(.block 4
(.loop t57L0)))
(h_ [v_ l_9,d_ l_4,o_ (.nilCheck r_1),f_ 8 r_2,d_ r_3,v_ l_1,o_ (.indexAddrS 1 r_4 r_5),d_ r_6,o_ (.call false false 79 [r_0,r_7]),o_ (.un .not r_8),w_ 11 r_9]
(.seq (.draw [0,1,2,3,4,5,6,7,8,9,10,11,12] [(13,[11],[14]),(15,[],[])] [d_ l_4,o_ (.nilCheck r_0),f_ 8 r_1,d_ r_2,v_ l_1,d_ l_4,o_ (.nilCheck r_5),f_ 9 r_6,d_ r_7,v_ l_1,v_ l_9,d_ l_6,o_ (.indexAddrS 1 r_3 r_4),o_ (.store 1 eT dH),o_ (.indexAddrS 1 r_8 r_9),o_ (.store 1 gL dQ)])
(h_ [v_ iG,w_ 5 r_0]
.ret))))))))⟩
def a58:Ann:=⟨[0,2,3,4,5,6,7,8,13],[],[],[],[]⟩
def t58L0:aJ:=(.seq (.seq (g_ [v_ l_3, s_ 8 (.bin .neq r_0 (.cst (.int .u64 0)))])
(.cond l_8
.skip
(.exit 2)))
(.seq (.block 3
(g_ [v_ l_1,v_ l_2,o_ (.bin .mul (i_ 64) r_1),v_ l_3,c_ 80 [r_3],o_ (.bin .add r_2 r_4),o_ (.lit false [(.int .i64 0)] 1 [(0,r_5)]),o_ (.append false 1 8 3 r_0 r_6),w_ 1 r_7]))
(g_ [v_ l_3,v_ l_3,o_ (.bin .sub r_1 (.cst (.int .u64 1))),o_ (.bin .and r_0 r_2),w_ 3 r_3])))
def t58L1:aJ:=(.seq (g_ [s_ 7 (.bin .lss l_6 l_5)])
(.seq (.cond l_7
.skip
(.exit 0))
(.seq (.block 1
(h_ [v_ l_6,o_ (.indexAddrS 1 l_4 l_6),d_ r_1,w_ 2 r_0,w_ 3 r_2]
(.block 2
(.loop t58L0))))
(g_ [o_ (.bin .add l_6 (i_ 1)),w_ 6 r_0]))))
def t58:aR:=⟨1,9,[.loc 1],
(h_ [w_ 1 N_]
(.seq (.seq (g_ [w_ 4 l_0,s_ 5 (.len .sl r_0),w_ 6 (i_ 0)])
(.block 0
(.loop t58L1)))
(h_ [v_ l_1,w_ 1 r_0]
.ret)))⟩
def a59:Ann:=⟨[0,1,4,5,6,7,12,19,29],[],[],[],[]⟩
def t59L0:aJ:=(.seq (.seq (g_ [v_ l_4,v_ l_0,o_ (.len .sl r_1),s_ 7 (.bin .lss r_0 r_2)])
(.cond l_7
.skip
(.exit 0)))
(.seq (.block 1
(h_ [v_ l_0,v_ l_4,o_ (.indexAddrS 1 r_0 r_1),d_ r_2,w_ 5 r_3]
(h_ [v_ l_1,v_ l_5,o_ (.callv r_0 [r_1]),s_ 8 (.un .not r_2)]
(.cond l_8
(h_ [v_ l_0,v_ l_3,v_ l_5,o_ (.indexAddrS 1 r_0 r_1),o_ (.store 1 r_3 r_2)]
(g_ [v_ l_3,o_ (.bin .add r_0 (i_ 1)),w_ 3 r_1]))
.skip))))
(g_ [v_ l_4,o_ (.bin .add r_0 (i_ 1)),w_ 4 r_1])))
def t59:aR:=⟨2,9,[.loc 2],
(h_ [w_ 2 N_]
(h_ [v_ l_0,v_ l_1,o_ (.call false false 45 [r_0,r_1]),w_ 3 r_2]
(.seq (.seq (g_ [v_ l_3,s_ 6 (.bin .eql r_0 (i_ (-1)))])
(.cond l_6
(h_ [v_ l_0,w_ 2 r_0]
.ret)
.skip))
(.seq (.seq (g_ [v_ l_3,o_ (.bin .add r_0 (i_ 1)),w_ 4 r_1])
(.block 0
(.loop t59L0)))
(h_ [v_ l_0,v_ l_3,o_ (.slice (.sl 1) r_0 (some r_1) none none),o_ (.clear [(.int .i64 0)] r_2)]
(h_ [v_ l_0,v_ l_3,o_ (.slice (.sl 1) r_0 none (some r_1) none),w_ 2 r_2]
.ret))))))⟩
def a60:Ann:=⟨[0,2],[],[],[],[]⟩
def t60:aR:=⟨1,2,[.loc 1],
(h_ [w_ 1 F_]
(h_ [v_ l_0,o_ (.bin .leq r_0 (i_ 0)),w_ 1 r_1]
.ret))⟩
def a62:Ann:=⟨[0,2,3,4,5,8,13,25,32,44],[],[],[],[(6,⟨[0,0,3,7,0,0,32,112,240,511],[0,1,2,3,4,5,6,7,8,9],[]⟩),(11,⟨[0,0,3,7,0,0,32,112,240,511],[0,1,2,3,4,5,6,7,8,9],[]⟩)]⟩
def t62L0:aJ:=(.seq (.seq (g_ [v_ l_4, v_ l_3, o_ (.len .sl r_1), s_ 8 (.bin .lss r_0 r_2)])
(.cond l_8
.skip
(.exit 2)))
(.seq (.block 3
(.seq (.draw [0,1,2,3,4,5,6,7,8,9] [] [v_ l_3,v_ l_4,o_ (.indexAddrS 1 r_0 r_1),d_ r_2,v_ l_3,v_ l_4,o_ (.bin .sub r_5 (i_ 1)),o_ (.indexAddrS 1 r_4 r_6),d_ r_7,s_ 9 (.bin .neq r_3 r_8)])
(.cond l_9
(h_ [v_ l_0,v_ l_2,v_ l_3,v_ l_4,o_ (.indexAddrS 1 r_2 r_3),d_ r_4,o_ (.indexAddrS 1 r_0 r_1),o_ (.store 1 r_6 r_5)]
(g_ [v_ l_2,o_ (.bin .add r_0 (i_ 1)),w_ 2 r_1]))
.skip)))
(g_ [v_ l_4,o_ (.bin .add r_0 (i_ 1)),w_ 4 r_1])))
def t62L1:aJ:=(.seq (.seq (g_ [v_ l_2,v_ l_0,o_ (.len .sl r_1),s_ 6 (.bin .lss r_0 r_2)])
(.cond l_6
.skip
(.exit 0)))
(.seq (.block 1
(.seq (.draw [0,1,2,3,4,5,6,7,8,9] [] [v_ l_0,v_ l_2,o_ (.indexAddrS 1 r_0 r_1),d_ r_2,v_ l_0,v_ l_2,o_ (.bin .sub r_5 (i_ 1)),o_ (.indexAddrS 1 r_4 r_6),d_ r_7,s_ 7 (.bin .eql r_3 r_8)])
(.cond l_7
(h_ [v_ l_0,v_ l_2,o_ (.slice (.sl 1) r_0 (some r_1) none none),w_ 3 r_2]
(.seq (.seq (g_ [w_ 4 (i_ 1)])
(.block 2
(.loop t62L0)))
(h_ [v_ l_0,v_ l_2,o_ (.slice (.sl 1) r_0 (some r_1) none none),o_ (.clear [(.int .i64 0)] r_2)]
(h_ [v_ l_0,v_ l_2,o_ (.slice (.sl 1) r_0 none (some r_1) none),w_ 1 r_2]
.ret))))
.skip)))
(g_ [v_ l_2,o_ (.bin .add r_0 (i_ 1)),w_ 2 r_1])))
def t62:aR:=⟨1,10,[.loc 1],
(h_ [w_ 1 N_]
(.seq (.seq (g_ [v_ l_0,o_ (.len .sl r_0),s_ 5 (.bin .lss r_1 (i_ 2))])
(.cond l_5
(h_ [v_ l_0,w_ 1 r_0]
.ret)
.skip))
(.seq (.seq (g_ [w_ 2 (i_ 1)])
(.block 0
(.loop t62L1)))
(h_ [v_ l_0,w_ 1 r_0]
.ret))))⟩
def a63:Ann:=⟨[0,2],[],[],[],[]⟩
def t63:aR:=⟨1,2,[.loc 1],
(h_ [w_ 1 N_]
(h_ [v_ l_0,o_ (.call false false 83 [N_,r_0]),w_ 1 r_1]
.ret))⟩
def a65:Ann:=⟨[0,1,3,5,7,13],[3],[],[],[]⟩
def t65L0:aJ:=(.seq (g_ [o_ (.nextM l_3),s_ 4 (.extract 0 r_0)])
(.seq (.cond l_4
.skip
(.exit 0))
(.block 1
(h_ [o_ (.entryM l_3),o_ (.extract 0 r_0),o_ (.allocL 2 [(.int .i64 0),(.int .i64 0)]),o_ (.store 2 r_2 r_1)]
(h_ [v_ l_0,o_ (.loadN 2 l_2),o_ (.callv r_0 [r_1]),s_ 5 (.un .not r_2)]
(.cond l_5
.ret
.skip))))))
def t65:aR:=⟨2,6,[],
(h_ [d_ l_1,s_ 3 (.range false r_0)]
(.block 0
(.loop t65L0)))⟩
def a66:Ann:=⟨[0,2,3,5,6,7,8,9,14],[],[],[],[]⟩
def t66L0:aJ:=(.seq (g_ [s_ 7 (.bin .lss l_6 l_5)])
(.seq (.cond l_7
.skip
(.exit 0))
(.seq (.block 1
(h_ [o_ (.indexAddrS 1 l_4 l_6),d_ r_0,w_ 3 r_1]
(h_ [v_ l_3,v_ l_2,s_ 8 (.bin .neq r_0 r_1)]
(.cond l_8
(h_ [v_ l_3,w_ 1 r_0]
.ret)
.skip))))
(g_ [o_ (.bin .add l_6 (i_ 1)),w_ 6 r_0]))))
def t66:aR:=⟨1,9,[.loc 1],
(h_ [w_ 1 (i_ 0)]
(h_ [w_ 2 (i_ 0)]
(.seq (.seq (g_ [w_ 4 l_0,s_ 5 (.len .sl r_0),w_ 6 (i_ 0)])
(.block 0
(.loop t66L0)))
(h_ [v_ l_2,w_ 1 r_0]
.ret))))⟩
def a67:Ann:=⟨[0,1,2,3,4,28,33,43,62],[1],[],[],[(6,⟨[0,0,2,0,14,30,63,127],[0,1,2,3,4,5],[(6,[],[7])]⟩)]⟩
def t67L0:aJ:=(.seq (.seq (g_ [v_ l_3,f_ 6 l_1,d_ r_1,o_ (.len .sl r_2),s_ 6 (.bin .lss r_0 r_3)])
(.cond l_6
.skip
(.exit 0)))
(.seq (.block 1
(.seq (.draw [0,1,2,3,4,5] [(6,[],[7])] [o_ (.loadN 7 l_1),f_ 6 l_1,d_ r_1,v_ l_3,o_ (.indexAddrS 8 r_2 r_3),o_ (.loadN 8 r_4),c_ 85 [r_0,r_5],s_ 7 (.un .not r_6)])
(.cond l_7
(h_ [w_ 2 (i_ 2)]
.ret)
.skip)))
(g_ [v_ l_3,o_ (.bin .add r_0 (i_ 1)),w_ 3 r_1])))
def t67:aR:=⟨1,9,[.loc 2],
(h_ [o_ (.boxL 1 l_0),w_ 2 (i_ 0)]
(.seq (.seq (g_ [f_ 1 l_1,d_ r_0,o_ (.bin .lss r_1 (i_ 32)),v_ r_2,x_ 3 (.fieldAddr 3 l_1),x_ 3 (.load1 r_4),x_ 3 (.bin .lss r_5 (i_ 0)),o_ (.pick r_3 T_ r_6),v_ r_7,x_ 8 (.fieldAddr 2 l_1),x_ 8 (.load1 r_9),x_ 8 (.bin .lss dH (i_ 0)),o_ (.pick r_8 T_ dQ),v_ eT,x_ 13 (.fieldAddr 4 l_1),x_ 13 (.load1 gL),x_ 13 (.bin .lss gY (i_ 0)),o_ (.pick gK T_ iF),v_ lF,x_ 18 (.fieldAddr 6 l_1),x_ 18 (.load1 pB),x_ 18 (.len .sl pC),x_ 18 (.bin .eql pE (i_ 0)),s_ 5 (.pick mN T_ rM)])
(.cond l_5
(h_ [w_ 2 (i_ 2)]
.ret)
.skip))
(.seq (.seq (g_ [w_ 3 (i_ 0)])
(.block 0
(.loop t67L0)))
(h_ [f_ 6 l_1,d_ r_0,f_ 6 l_1,d_ r_2,o_ (.len .sl r_3),o_ (.bin .sub r_4 (i_ 1)),o_ (.indexAddrS 8 r_1 r_5),f_ 0 r_6,d_ r_7,w_ 4 r_8]
(.seq (.seq (g_ [v_ l_4,o_ (.bin .neq r_0 (i_ 66)),v_ r_1,y_ 2 (.mov l_4),y_ 2 (.bin .neq r_3 (i_ 68)),o_ (.pick r_2 r_4 F_),v_ r_5,y_ 6 (.mov l_4),y_ 6 (.bin .neq r_7 (i_ 72)),s_ 8 (.pick r_6 r_8 F_)])
(.cond l_8
(h_ [w_ 2 (i_ 2)]
.ret)
.skip))
(h_ [w_ 2 (i_ 0)]
.ret))))))⟩
def a68:Ann:=⟨[0,1,2,4,5,6,7,8,9,10,20,43,50,70,75],[2],[],[],[]⟩
def t68L0:aJ:=(.seq (.seq (g_ [v_ l_9, v_ l_8, o_ (.len .sl r_1), s_ 12 (.bin .lss r_0 r_2)])
(.cond lG
.skip
(.exit 4)))
(.seq (.block 5
(g_ [v_ l_7,v_ r_0,x_ 1 (.mov l_4),x_ 1 (.mov l_8),x_ 1 (.mov l_9),x_ 1 (.indexAddrS 1 r_3 r_4),x_ 1 (.load1 r_5),x_ 1 (.indexAddrS 1 r_2 r_6),x_ 1 (.load1 r_7),o_ (.pick r_1 T_ r_8),w_ 7 r_9]))
(g_ [v_ l_9,o_ (.bin .add r_0 (i_ 1)),w_ 9 r_1])))
def t68L1:aJ:=(.seq (.seq (g_ [v_ l_6, s_ 10 (.bin .geq r_0 (i_ 0))])
(.cond gA
.skip
(.exit 2)))
(.seq (.block 3
(h_ [f_ 6 l_2,d_ r_0,v_ l_6,o_ (.indexAddrS 8 r_1 r_2),o_ (.loadN 8 r_3),c_ 87 [r_4],v_ l_1,c_ 86 [r_5,r_6],w_ 7 r_7]
(.seq (.seq (g_ [v_ l_7,o_ (.un .not r_0),v_ r_1,y_ 2 (.fieldAddr 6 l_2),y_ 2 (.load1 r_3),y_ 2 (.mov l_6),y_ 2 (.indexAddrS 8 r_4 r_5),y_ 2 (.loadN 8 r_6),y_ 2 (.call true false 37 [r_7]),y_ 2 (.mov l_1),y_ 2 (.call true false 86 [r_8,r_9]),y_ 2 (.un .not dH),s_ 11 (.pick r_2 dQ F_)])
(.cond iG
(h_ [o_ (.loadN 7 l_2),v_ l_6,c_ 35 [r_0,r_1],w_ 8 r_2]
(h_ [w_ 9 (i_ 0)]
(.block 4
(.loop t68L0))))
.skip))
(h_ [v_ l_7,v_ r_0,y_ 1 (.mov l_4),y_ 1 (.mov l_6),y_ 1 (.indexAddrS 1 r_2 r_3),y_ 1 (.load1 r_4),y_ 1 (.un .not r_5),s_ 13 (.pick r_1 r_6 F_)]
(.cond pF
(h_ [v_ l_4,v_ l_6,o_ (.indexAddrS 1 r_0 r_1),o_ (.store 1 r_2 T_)]
(g_ [w_ 5 T_]))
.skip)))))
(g_ [v_ l_6,o_ (.bin .sub r_0 (i_ 1)),w_ 6 r_1])))
def t68L2:aJ:=(.block 1
(h_ [w_ 5 F_]
(.seq (.seq (g_ [f_ 6 l_2,d_ r_0,o_ (.len .sl r_1),o_ (.bin .sub r_2 (i_ 1)),w_ 6 r_3])
(.block 2
(.loop t68L1)))
(h_ [v_ l_5,s_ 14 (.un .not r_0)]
(.cond oU
(h_ [v_ l_4,w_ 3 r_0]
.ret)
.skip)))))
def t68:aR:=⟨2,15,[.loc 3],
(h_ [o_ (.boxL 2 l_0),w_ 3 N_]
(h_ [f_ 6 l_2,d_ r_0,o_ (.len .sl r_1),o_ (.mkSlice [(.bool false)] 1 r_2 r_2),w_ 4 r_3]
(.block 0
(.loop t68L2))))⟩
def a69:Ann:=⟨[0,1,2,4,5,10,29],[2],[],[],[]⟩
def t69L0:aJ:=(.seq (.seq (g_ [v_ l_4,f_ 6 l_2,d_ r_1,o_ (.len .sl r_2),s_ 5 (.bin .lss r_0 r_3)])
(.cond l_5
.skip
(.exit 0)))
(.seq (.block 1
(h_ [f_ 6 l_2,d_ r_0,v_ l_4,o_ (.indexAddrS 8 r_1 r_2),f_ 0 r_3,d_ r_4,o_ (.bin .eql r_5 (i_ 65)),v_ r_6,y_ 7 (.fieldAddr 6 l_2),y_ 7 (.load1 r_8),y_ 7 (.mov l_4),y_ 7 (.indexAddrS 8 r_9 dH),y_ 7 (.fieldAddr 5 dQ),y_ 7 (.load1 eT),y_ 7 (.mov l_1),y_ 7 (.bin .eql gK gL),s_ 6 (.pick r_7 gY F_)]
(.cond l_6
(h_ [v_ l_4,w_ 3 r_0]
.ret)
.skip)))
(g_ [v_ l_4,o_ (.bin .add r_0 (i_ 1)),w_ 4 r_1])))
def t69:aR:=⟨2,7,[.loc 3],
(h_ [o_ (.boxL 2 l_0),w_ 3 (i_ 0)]
(.seq (.seq (g_ [w_ 4 (i_ 0)])
(.block 0
(.loop t69L0)))
(h_ [s_ 3 (.mov (i_ (-1)))]
.ret)))⟩
def a70:Ann:=⟨[0,1,4,5,6,9,22],[],[],[],[]⟩
def t70L0:aJ:=(.seq (.seq (g_ [v_ l_3,v_ l_0,o_ (.len .sl r_1),o_ (.bin .lss r_0 r_2),v_ r_3,y_ 4 (.mov l_0),y_ 4 (.mov l_3),y_ 4 (.indexAddrS 1 r_5 r_6),y_ 4 (.load1 r_7),y_ 4 (.mov l_1),y_ 4 (.bin .lss r_8 r_9),s_ 6 (.pick r_4 dH F_)])
(.cond l_6
.skip
(.exit 0)))
(.block 1
(g_ [v_ l_3,o_ (.bin .add r_0 (i_ 1)),w_ 3 r_1])))
def t70:aR:=⟨2,7,[.loc 2],
(h_ [w_ 2 N_]
(.seq (.seq (g_ [v_ l_0,v_ l_1,s_ 5 (.call true false 86 [r_0,r_1])])
(.cond l_5
(h_ [v_ l_0,w_ 2 r_0]
.ret)
.skip))
(h_ [w_ 3 (i_ 0)]
(.seq (.block 0
(.loop t70L0))
(h_ [w_ 4 N_]
(h_ [v_ l_4,v_ l_0,v_ l_3,o_ (.slice (.sl 1) r_1 none (some r_2) none),o_ (.append false 1 8 3 r_0 r_3),w_ 4 r_4]
(h_ [v_ l_4,v_ l_1,o_ (.lit false [(.int .i64 0)] 1 [(0,r_1)]),o_ (.append false 1 8 3 r_0 r_2),w_ 4 r_3]
(h_ [v_ l_4,v_ l_0,v_ l_3,o_ (.slice (.sl 1) r_1 (some r_2) none none),o_ (.append false 1 8 3 r_0 r_3),w_ 2 r_4]
.ret))))))))⟩
def a71:Ann:=⟨[0,1,4],[],[],[],[]⟩
def t71:aR:=⟨2,3,[.loc 2],
(h_ [w_ 2 F_]
(h_ [v_ l_1,o_ (.bin .lss r_0 (i_ 32)),v_ r_1,x_ 2 (.mov l_0),x_ 2 (.nilCheck r_3),x_ 2 (.fieldAddr 3 r_4),x_ 2 (.load1 r_5),x_ 2 (.mov l_1),x_ 2 (.indexAddrS 1 r_6 r_7),x_ 2 (.load1 r_8),x_ 2 (.len .mp r_9),x_ 2 (.bin .geq dH (i_ 24)),o_ (.pick r_2 T_ dQ),w_ 2 eT]
.ret))⟩
def a72:Ann:=⟨[0,2],[],[],[],[]⟩
def t72:aR:=⟨1,2,[.loc 1],
(h_ [w_ 1 F_]
(h_ [v_ l_0,v_ l_0,o_ (.bin .neq r_0 r_1),w_ 1 r_2]
.ret))⟩
def a73:Ann:=⟨[0,1,2],[1],[],[],[]⟩
def t73:aR:=⟨1,3,[.loc 2],
(h_ [o_ (.boxL 1 l_0),w_ 2 F_]
(h_ [o_ (.loadN 8 l_1),c_ 88 [r_0],v_ r_1,x_ 2 (.fieldAddr 0 l_1),x_ 2 (.load1 r_3),x_ 2 (.bin .geq r_4 (i_ 26)),x_ 2 (.mov r_5),y_ 6 (.fieldAddr 0 l_1),y_ 6 (.load1 r_7),y_ 6 (.bin .leq r_8 (i_ 31)),x_ 2 (.pick r_6 r_9 F_),o_ (.pick r_2 T_ dH),v_ dQ,x_ 12 (.fieldAddr 0 l_1),x_ 12 (.load1 gK),x_ 12 (.bin .geq gL (i_ 64)),x_ 12 (.mov gY),y_ 16 (.fieldAddr 0 l_1),y_ 16 (.load1 lF),y_ 16 (.bin .leq mN (i_ 72)),x_ 12 (.pick iF pB F_),o_ (.pick eT T_ pC),w_ 2 pE]
.ret))⟩
def a74:Ann:=⟨[0,1,4],[],[],[],[]⟩
def t74:aR:=⟨2,3,[.loc 2],
(h_ [w_ 2 F_]
(h_ [v_ l_0,v_ l_1,o_ (.call false false 45 [r_0,r_1]),o_ (.bin .geq r_2 (i_ 0)),w_ 2 r_3]
.ret))⟩
def a75:Ann:=⟨[0,1,3],[],[],[],[]⟩
def t75:aR:=⟨2,3,[.loc 2],
(h_ [w_ 2 F_]
(h_ [v_ l_0,o_ (.bin .lss r_0 (i_ 0)),v_ r_1,x_ 2 (.mov l_0),x_ 2 (.fieldAddr 1 l_1),x_ 2 (.load1 r_4),x_ 2 (.bin .geq r_3 r_5),o_ (.pick r_2 T_ r_6),w_ 2 r_7]
.ret))⟩
def a76:Ann:=⟨[0,2],[],[],[],[]⟩
def t76:aR:=⟨1,2,[.loc 1],
(h_ [w_ 1 F_]
(h_ [v_ l_0,o_ (.bin .geq r_0 (i_ 26)),v_ r_1,y_ 2 (.mov l_0),y_ 2 (.bin .leq r_3 (i_ 31)),o_ (.pick r_2 r_4 F_),w_ 1 r_5]
.ret))⟩
def a77:Ann:=⟨[0,2,4],[],[(3,2)],[],[]⟩
def t77:aR:=⟨1,3,[.loc 1],
(h_ [w_ 1 N_]
(.seq (.seq (g_ [v_ l_0,s_ 2 (.eqB false .sl r_0 N_)])
(.cond l_2
(h_ [w_ 1 N_]
.ret)
.skip))
(h_ [o_ (.lit false [(.int .i64 0)] 0 []),v_ l_0,o_ (.append true 1 8 3 r_0 r_1),w_ 1 r_2]
.ret)))⟩
def a78:Ann:=⟨[0,1,2,3,4],[],[],[],[]⟩
def t78:aR:=⟨2,5,[.loc 4],
(h_ [s_ 2 (.boxH 69 l_0),s_ 3 (.boxH 4 l_1),s_ 4 (.mov (.cst .nilf))]
(h_ [o_ (.mkFn 89 [] [l_2,l_3]),w_ 4 r_0]
.ret))⟩
def a79:Ann:=⟨[0,1,4,5,10,12,13,14,24],[],[],[],[(6,⟨[0,0,3,7,0,0,48,112,255],[0,1,2,3,4,5,6,7,8],[]⟩)]⟩
def t79L0:aJ:=(.seq (g_ [s_ 7 (.bin .lss l_6 l_5)])
(.seq (.cond l_7
.skip
(.exit 0))
(.seq (.block 1
(h_ [v_ l_6,w_ 3 r_0]
(.seq (.draw [0,1,2,3,4,5,6,7,8] [] [v_ l_0,v_ l_3,o_ (.indexAddrS 1 r_0 r_1),d_ r_2,v_ l_1,v_ l_3,o_ (.indexAddrS 1 r_4 r_5),d_ r_6,s_ 8 (.bin .neq r_3 r_7)])
(.cond l_8
(h_ [w_ 2 F_]
.ret)
.skip))))
(g_ [o_ (.bin .add l_6 (i_ 1)),w_ 6 r_0]))))
def t79:aR:=⟨2,9,[.loc 2],
(h_ [w_ 2 F_]
(.seq (.seq (g_ [v_ l_0,o_ (.len .sl r_0),v_ l_1,o_ (.len .sl r_2),s_ 4 (.bin .neq r_1 r_3)])
(.cond l_4
(h_ [w_ 2 F_]
.ret)
.skip))
(.seq (.seq (g_ [v_ l_0,s_ 5 (.len .sl r_0),w_ 6 (i_ 0)])
(.block 0
(.loop t79L0)))
(h_ [w_ 2 T_]
.ret))))⟩
def a80:Ann:=⟨[0,2,4],[],[],[],[]⟩
def t80:aR:=⟨1,3,[.loc 1],
(h_ [w_ 1 (i_ 0)]
(.seq (.seq (g_ [v_ l_0,s_ 2 (.bin .eql r_0 (.cst (.int .u64 0)))])
(.cond l_2
(h_ [w_ 1 (i_ 64)]
.ret)
.skip))
(h_ [v_ l_0,v_ l_0,o_ (.un .neg r_1),o_ (.bin .and r_0 r_2),o_ (.bin .mul r_3 (.cst (.int .u64 285870213051353865))),o_ (.bin .shr r_4 (.cst (.int .u64 58))),o_ (.indexAddrA 64 1 (.glob 0) r_5),d_ r_6,o_ (.conv (.toInt .i64) r_7),w_ 1 r_8]
.ret)))⟩
def a83:Ann:=⟨[0,1,2,4,5,6,7],[],[(3,3)],[],[]⟩
def t83:aR:=⟨2,7,[.loc 3],
(h_ [s_ 2 (.boxH 30 l_0),w_ 3 N_]
(.seq (.seq (g_ [w_ 5 l_1])
(.block 0
(.rangeFunc l_5 [6]
(g_ [s_ 4 (.allocH 42 [(.int .i64 0),(.int .i64 0)]),o_ (.store 2 r_0 l_6)])
(.block 1
(g_ [d_ l_2,o_ (.loadN 2 l_4),o_ (.lit false [(.int .i64 0),(.int .i64 0)] 1 [(0,r_1)]),o_ (.append true 2 16 41 r_0 r_2),o_ (.store 1 l_2 r_3)])))))
(h_ [d_ l_2,w_ 3 r_0]
.ret)))⟩
def a85:Ann:=⟨[0,1,2,3,4,6,7,25,28,39,53,58,68],[3,2],[],[],[(12,⟨[0,0,2,0,14,30,63,127],[0,1,2,3,4,5],[(6,[],[7])]⟩)]⟩
def t85L0:aJ:=(.seq (.seq (g_ [v_ l_6,f_ 6 l_3,d_ r_1,o_ (.len .sl r_2),s_ 11 (.bin .lss r_0 r_3)])
(.cond iG
.skip
(.exit 0)))
(.seq (.block 1
(.seq (.draw [0,1,2,3,4,5] [(6,[],[7])] [o_ (.loadN 7 l_2),f_ 6 l_3,d_ r_1,v_ l_6,o_ (.indexAddrS 1 r_2 r_3),d_ r_4,c_ 112 [r_0,r_5],s_ 12 (.un .not r_6)])
(.cond lG
(h_ [w_ 4 F_]
.ret)
.skip)))
(g_ [v_ l_6,o_ (.bin .add r_0 (i_ 1)),w_ 6 r_1])))
def t85:aR:=⟨2,13,[.loc 4],
(h_ [o_ (.boxL 2 l_0),o_ (.boxL 3 l_1),w_ 4 F_]
(.seq (.seq (g_ [f_ 0 l_3,d_ r_0,o_ (.bin .lss r_1 (i_ 1)),v_ r_2,x_ 3 (.fieldAddr 0 l_3),x_ 3 (.load1 r_4),x_ 3 (.bin .gtr r_5 (i_ 31)),x_ 3 (.mov r_6),y_ 7 (.fieldAddr 0 l_3),y_ 7 (.load1 r_8),y_ 7 (.bin .lss r_9 (i_ 64)),x_ 3 (.pick r_7 dH F_),o_ (.pick r_3 T_ dQ),v_ eT,x_ 13 (.fieldAddr 0 l_3),x_ 13 (.load1 gL),x_ 13 (.bin .gtr gY (i_ 72)),s_ 7 (.pick gK T_ iF)])
(.cond l_7
(h_ [w_ 4 F_]
.ret)
.skip))
(.seq (.seq (g_ [f_ 0 l_3,d_ r_0,s_ 8 (.bin .leq r_1 (i_ 25))])
(.cond l_8
(h_ [f_ 0 l_3,d_ r_0,f_ 4 l_3,d_ r_2,o_ (.build [(.int .i64 0),(.int .i64 0),(.int .i64 0),(.int .i64 0),(.int .i64 0)] [(0,1,r_1),(4,1,r_3)]),c_ 109 [r_4],v_ r_5,o_ (.extract 0 r_6),o_ (.extract 1 r_6),v_ r_7,w_ 5 r_8]
(h_ [v_ l_5,s_ 9 (.bin .neq r_0 (i_ 0))]
(.cond l_9
(h_ [w_ 4 F_]
.ret)
.skip)))
.skip))
(.seq (.seq (g_ [o_ (.loadN 8 l_3),c_ 110 [r_0],v_ r_1,x_ 2 (.fieldAddr 0 l_3),x_ 2 (.load1 r_3),x_ 2 (.bin .eql r_4 (i_ 65)),o_ (.pick r_2 T_ r_5),v_ r_6,y_ 7 (.loadN 7 l_2),y_ 7 (.fieldAddr 5 l_3),y_ 7 (.load1 r_9),y_ 7 (.call true false 111 [r_8,dH]),y_ 7 (.bin .neq dQ (i_ 1)),s_ 10 (.pick r_7 eT F_)])
(.cond gA
(h_ [w_ 4 F_]
.ret)
.skip))
(.seq (.seq (g_ [w_ 6 (i_ 0)])
(.block 0
(.loop t85L0)))
(h_ [o_ (.loadN 7 l_2),f_ 2 l_3,d_ r_1,c_ 112 [r_0,r_2],v_ r_3,y_ 4 (.loadN 7 l_2),y_ 4 (.fieldAddr 3 l_3),y_ 4 (.load1 r_6),y_ 4 (.call true false 112 [r_5,r_7]),o_ (.pick r_4 r_8 F_),v_ r_9,y_ 10 (.loadN 7 l_2),y_ 10 (.fieldAddr 1 l_3),y_ 10 (.load1 eT),y_ 10 (.call true false 112 [dQ,gK]),y_ 10 (.mov gL),x_ 15 (.fieldAddr 0 l_3),x_ 15 (.load1 iF),x_ 15 (.bin .eql lF (i_ 67)),x_ 15 (.mov mN),y_ 19 (.fieldAddr 1 l_3),y_ 19 (.load1 pC),y_ 19 (.bin .lss pE (i_ 0)),x_ 15 (.pick pB rM F_),y_ 10 (.pick gY T_ wO),o_ (.pick dH wP F_),w_ 4 aBz]
.ret))))))⟩
def a86:Ann:=⟨[0,1,4,5,9,17],[],[],[],[]⟩
def t86L0:aJ:=(.seq (.seq (g_ [v_ l_3,v_ l_0,o_ (.len .sl r_1),s_ 4 (.bin .lss r_0 r_2)])
(.cond l_4
.skip
(.exit 0)))
(.seq (.block 1
(h_ [v_ l_0,v_ l_3,o_ (.indexAddrS 1 r_0 r_1),d_ r_2,v_ l_1,s_ 5 (.bin .eql r_3 r_4)]
(.cond l_5
(h_ [w_ 2 T_]
.ret)
.skip)))
(g_ [v_ l_3,o_ (.bin .add r_0 (i_ 1)),w_ 3 r_1])))
def t86:aR:=⟨2,6,[.loc 2],
(h_ [w_ 2 F_]
(.seq (.seq (g_ [w_ 3 (i_ 0)])
(.block 0
(.loop t86L0)))
(h_ [w_ 2 F_]
.ret)))⟩
def a87:Ann:=⟨[0,1,2,3,4,22,53,70,75],[1],[],[],[]⟩
def t87L0:aJ:=(.seq (.seq (g_ [v_ l_4,f_ 6 l_1,d_ r_1,o_ (.len .sl r_2),s_ 8 (.bin .lss r_0 r_3)])
(.cond l_8
.skip
(.exit 0)))
(.seq (.block 1
(g_ [v_ l_3,f_ 6 l_1,d_ r_1,v_ l_4,o_ (.indexAddrS 1 r_2 r_3),d_ r_4,c_ 36 [r_0,r_5],w_ 3 r_6]))
(g_ [v_ l_4,o_ (.bin .add r_0 (i_ 1)),w_ 4 r_1])))
def t87:aR:=⟨1,9,[.loc 2],
(h_ [o_ (.boxL 1 l_0),w_ 2 N_]
(h_ [w_ 3 N_]
(.seq (.seq (g_ [f_ 0 l_1,d_ r_0,o_ (.bin .geq r_1 (i_ 1)),v_ r_2,y_ 3 (.fieldAddr 0 l_1),y_ 3 (.load1 r_4),y_ 3 (.bin .leq r_5 (i_ 14)),o_ (.pick r_3 r_6 F_),v_ r_7,x_ 8 (.fieldAddr 0 l_1),x_ 8 (.load1 r_9),x_ 8 (.bin .geq dH (i_ 25)),x_ 8 (.mov dQ),y_ 12 (.fieldAddr 0 l_1),y_ 12 (.load1 gK),y_ 12 (.bin .leq gL (i_ 31)),x_ 8 (.pick eT gY F_),s_ 5 (.pick r_8 T_ iF)])
(.cond l_5
(h_ [v_ l_3,f_ 2 l_1,d_ r_1,c_ 36 [r_0,r_2],w_ 3 r_3]
(h_ [v_ l_3,f_ 3 l_1,d_ r_1,c_ 36 [r_0,r_2],w_ 2 r_3]
.ret))
.skip))
(.seq (.seq (g_ [f_ 0 l_1,d_ r_0,o_ (.bin .geq r_1 (i_ 15)),v_ r_2,y_ 3 (.fieldAddr 0 l_1),y_ 3 (.load1 r_4),y_ 3 (.bin .leq r_5 (i_ 24)),o_ (.pick r_3 r_6 F_),v_ r_7,y_ 8 (.fieldAddr 0 l_1),y_ 8 (.load1 r_9),y_ 8 (.bin .neq dH (i_ 23)),o_ (.pick r_8 dQ F_),v_ eT,x_ 13 (.fieldAddr 0 l_1),x_ 13 (.load1 gL),x_ 13 (.bin .eql gY (i_ 64)),o_ (.pick gK T_ iF),v_ lF,x_ 18 (.fieldAddr 0 l_1),x_ 18 (.load1 pB),x_ 18 (.bin .eql pC (i_ 74)),s_ 6 (.pick mN T_ pE)])
(.cond l_6
(h_ [v_ l_3,f_ 2 l_1,d_ r_1,c_ 36 [r_0,r_2],w_ 2 r_3]
.ret)
.skip))
(.seq (.seq (g_ [f_ 0 l_1,d_ r_0,o_ (.bin .eql r_1 (i_ 67)),v_ r_2,x_ 3 (.fieldAddr 0 l_1),x_ 3 (.load1 r_4),x_ 3 (.bin .eql r_5 (i_ 68)),o_ (.pick r_3 T_ r_6),v_ r_7,x_ 8 (.fieldAddr 0 l_1),x_ 8 (.load1 r_9),x_ 8 (.bin .eql dH (i_ 72)),s_ 7 (.pick r_8 T_ dQ)])
(.cond l_7
(.seq (.seq (g_ [w_ 4 (i_ 0)])
(.block 0
(.loop t87L0)))
(h_ [v_ l_3,c_ 36 [r_0,(i_ 26)],w_ 2 r_1]
.ret))
.skip))
(h_ [w_ 2 N_]
.ret))))))⟩
def a88:Ann:=⟨[0,1,2,4,12],[1],[],[],[]⟩
def t88:aR:=⟨1,5,[.loc 2],
(h_ [o_ (.boxL 1 l_0),w_ 2 F_]
(.seq (.seq (g_ [f_ 0 l_1,d_ r_0,o_ (.bin .lss r_1 (i_ 1)),v_ r_2,x_ 3 (.fieldAddr 0 l_1),x_ 3 (.load1 r_4),x_ 3 (.bin .gtr r_5 (i_ 25)),s_ 4 (.pick r_3 T_ r_6)])
(.cond l_4
(h_ [w_ 2 F_]
.ret)
.skip))
(h_ [f_ 0 l_1,d_ r_0,f_ 4 l_1,d_ r_2,o_ (.build [(.int .i64 0),(.int .i64 0),(.int .i64 0),(.int .i64 0),(.int .i64 0)] [(0,1,r_1),(4,1,r_3)]),c_ 113 [r_4],v_ r_5,o_ (.extract 0 r_6),o_ (.extract 1 r_6),v_ r_7,w_ 3 r_8]
(h_ [v_ l_3,o_ (.bin .eql r_0 (i_ 0)),w_ 2 r_1]
.ret))))⟩
def a89:Ann:=⟨[0,1,2,4,20,28,39,53],[4],[],[],[(0,⟨[0,1,3,7,15,0,63,127,0,511],[0,1,2,3,4,5,6,7,8],[(9,[],[])]⟩),(3,⟨[0,0,2,6,14,0,32,126,254,511,1023],[0,1,2,3,4,5,6,7,8],[(9,[],[10])]⟩),(4,⟨[0,1,3,7,15,31,15,79,207,463,975,1999,4095,8191],[0,1,2,3,4,5,6,7,8,9,10,11,12,13],[]⟩)]⟩
def t89:aR:=⟨3,8,[],
(.seq (.draw [0,1,2,3,4,5,6,7,8] [(9,[],[])] [d_ l_1,o_ (.nilCheck r_0),f_ 0 r_1,f_ 6 r_2,d_ r_3,d_ l_2,o_ (.indexAddrS 8 r_4 r_5),o_ (.loadN 8 r_6),s_ 3 (.allocH 29 [(.int .i64 0),(.int .i64 0),(.int .i64 0),(.int .i64 0),(.int .i64 0),(.int .i64 0),(.sl .nil []),(.sl .nil [])]),o_ (.store 8 r_8 r_7)])
(.seq (.seq (g_ [f_ 0 l_3,d_ r_0,o_ (.bin .eql r_1 (i_ 68)),v_ r_2,x_ 3 (.fieldAddr 0 l_3),x_ 3 (.load1 r_4),x_ 3 (.bin .eql r_5 (i_ 72)),s_ 4 (.pick r_3 T_ r_6)])
(.cond l_4
.ret
.skip))
(.seq (.seq (g_ [f_ 0 l_3,d_ r_0,c_ 76 [r_1],v_ r_2,x_ 3 (.fieldAddr 0 l_3),x_ 3 (.load1 r_4),x_ 3 (.bin .eql r_5 (i_ 66)),s_ 5 (.pick r_3 T_ r_6)])
(.cond l_5
(.seq (.draw [0,1,2,3,4,5,6,7,8] [(9,[],[10])] [v_ l_0,d_ l_1,o_ (.nilCheck r_1),f_ 7 r_2,d_ r_3,f_ 5 l_3,d_ r_5,o_ (.lookup (.leaf .int) (.agg [(.int .i64 0)]) false r_4 r_6),o_ (.field 0 1 false r_7),o_ (.callv r_0 [r_8]),s_ 6 (.un .not r_9)])
(.cond l_6
.ret
.skip))
.skip))
(.seq (.draw [0,1,2,3,4,5,6,7,8,9,10,11,12,13] [] [f_ 0 l_3,d_ r_0,o_ (.bin .neq r_1 (i_ 66)),v_ r_2,y_ 3 (.load1 l_2),y_ 3 (.bin .add r_4 (i_ 1)),y_ 3 (.load1 l_1),y_ 3 (.nilCheck r_6),y_ 3 (.fieldAddr 0 r_7),y_ 3 (.fieldAddr 6 r_8),y_ 3 (.load1 r_9),y_ 3 (.len .sl dH),y_ 3 (.bin .lss r_5 dQ),s_ 7 (.pick r_3 eT F_)])
(.cond l_7
(g_ [v_ l_0,d_ l_2,o_ (.bin .add r_1 (i_ 1)),o_ (.callv r_0 [r_2])])
.skip)))))⟩
def a109:Ann:=⟨[0,1,2,3,4,5,6,7,11,18,25,32,43,55],[1],[],[],[(13,⟨[0,0,2,0,8,24,63,127],[0,1,2,3,4],[(5,[2],[]),(6,[],[7])]⟩)]⟩
def t109L0:aJ:=(.seq (.seq (g_ [v_ l_7,s_ 13 (.bin .lss r_0 (i_ 32))])
(.cond pF
.skip
(.exit 2)))
(.seq (.block 3
(g_ [v_ l_6,o_ (.bin .mul (.cst (.int .u32 2)) r_0),v_ l_5,v_ l_7,o_ (.indexAddrS 1 r_2 r_3),d_ r_4,o_ (.conv (.toInt .u32) r_5),o_ (.bin .add r_1 r_6),w_ 6 r_7]))
(g_ [v_ l_7,o_ (.bin .add r_0 (i_ 1)),w_ 7 r_1])))
def t109L1:aJ:=(.seq (.seq (g_ [v_ l_5,o_ (.len .sl r_0),f_ 0 l_1,d_ r_2,c_ 127 [r_3],o_ (.bin .add r_1 r_4),s_ 12 (.bin .lss r_5 (i_ 32))])
(.cond lG
.skip
(.exit 0)))
(.block 1
(g_ [v_ l_5,o_ (.lit false [(.int .u8 0)] 1 [(0,(.cst (.int .u8 0)))]),o_ (.append false 1 1 5 r_0 r_1),w_ 5 r_2])))
def t109:aR:=⟨1,14,[.loc 2,.loc 3],
(h_ [o_ (.boxL 1 l_0),s_ 2 (.mov (.cst (.int .u32 0))),w_ 3 (i_ 0)]
(h_ [o_ (.loadN 5 l_1),c_ 122 [r_0],w_ 4 r_1]
(.seq (.seq (g_ [v_ l_4,s_ 8 (.bin .neq r_0 (i_ 0))])
(.cond l_8
(h_ [v_ l_4,s_ 2 (.mov (.cst (.int .u32 0))),w_ 3 r_0]
.ret)
.skip))
(h_ [f_ 0 l_1,d_ r_0,o_ (.call false false 123 [N_,r_1,(i_ 6)]),w_ 5 r_2]
(.seq (.seq (g_ [f_ 0 l_1,d_ r_0,s_ 9 (.call true false 124 [r_1])])
(.cond l_9
(g_ [v_ l_5,f_ 1 l_1,d_ r_1,o_ (.call false false 123 [r_0,r_2,(i_ 5)]),w_ 5 r_3])
.skip))
(.seq (.seq (g_ [f_ 0 l_1,d_ r_0,s_ 10 (.call true false 125 [r_1])])
(.cond gA
(g_ [v_ l_5,f_ 2 l_1,d_ r_1,o_ (.call false false 123 [r_0,r_2,(i_ 5)]),w_ 5 r_3])
.skip))
(.seq (.seq (g_ [f_ 0 l_1,d_ r_0,s_ 11 (.call true false 126 [r_1])])
(.cond iG
(g_ [v_ l_5,f_ 3 l_1,d_ r_1,o_ (.call false false 123 [r_0,r_2,(i_ 5)]),w_ 5 r_3])
.skip))
(.seq (.block 0
(.loop t109L1))
(.seq (.draw [0,1,2,3,4] [(5,[2],[]),(6,[],[7])] [v_ l_5,f_ 4 l_1,d_ r_1,f_ 0 l_1,d_ r_3,c_ 127 [r_4],o_ (.call false false 123 [r_0,r_2,r_5]),w_ 5 r_6])
(h_ [s_ 6 (.mov (.cst (.int .u32 0)))]
(.seq (.seq (g_ [w_ 7 (i_ 0)])
(.block 2
(.loop t109L0)))
(h_ [v_ l_6,w_ 2 r_0,w_ 3 (i_ 0)]
.ret))))))))))))⟩
def a110:Ann:=⟨[0,1,2],[1],[],[],[]⟩
def t110:aR:=⟨1,3,[.loc 2],
(h_ [o_ (.boxL 1 l_0),w_ 2 F_]
(h_ [f_ 0 l_1,d_ r_0,o_ (.bin .geq r_1 (i_ 26)),v_ r_2,y_ 3 (.fieldAddr 0 l_1),y_ 3 (.load1 r_4),y_ 3 (.bin .leq r_5 (i_ 31)),o_ (.pick r_3 r_6 F_),v_ r_7,x_ 8 (.fieldAddr 0 l_1),x_ 8 (.load1 r_9),x_ 8 (.bin .eql dH (i_ 66)),o_ (.pick r_8 T_ dQ),w_ 2 eT]
.ret))⟩
def a111:Ann:=⟨[0,1,2,4,5,6,11,30],[2],[],[],[]⟩
def t111L0:aJ:=(.seq (.seq (g_ [v_ l_5,f_ 6 l_2,d_ r_1,o_ (.len .sl r_2),s_ 6 (.bin .lss r_0 r_3)])
(.cond l_6
.skip
(.exit 0)))
(.seq (.block 1
(h_ [f_ 6 l_2,d_ r_0,v_ l_5,o_ (.indexAddrS 8 r_1 r_2),f_ 0 r_3,d_ r_4,o_ (.bin .eql r_5 (i_ 65)),v_ r_6,y_ 7 (.fieldAddr 6 l_2),y_ 7 (.load1 r_8),y_ 7 (.mov l_5),y_ 7 (.indexAddrS 8 r_9 dH),y_ 7 (.fieldAddr 5 dQ),y_ 7 (.load1 eT),y_ 7 (.mov l_1),y_ 7 (.bin .eql gK gL),s_ 7 (.pick r_7 gY F_)]
(.cond l_7
(g_ [v_ l_4,o_ (.bin .add r_0 (i_ 1)),w_ 4 r_1])
.skip)))
(g_ [v_ l_5,o_ (.bin .add r_0 (i_ 1)),w_ 5 r_1])))
def t111:aR:=⟨2,8,[.loc 3],
(h_ [o_ (.boxL 2 l_0),w_ 3 (i_ 0)]
(h_ [w_ 4 (i_ 0)]
(.seq (.seq (g_ [w_ 5 (i_ 0)])
(.block 0
(.loop t111L0)))
(h_ [v_ l_4,w_ 3 r_0]
.ret))))⟩
def a112:Ann:=⟨[0,1,2,4],[2],[],[],[]⟩
def t112:aR:=⟨2,4,[.loc 3],
(h_ [o_ (.boxL 2 l_0),w_ 3 F_]
(h_ [v_ l_1,o_ (.bin .geq r_0 (i_ 0)),v_ r_1,y_ 2 (.mov l_1),y_ 2 (.fieldAddr 1 l_2),y_ 2 (.load1 r_4),y_ 2 (.bin .lss r_3 r_5),o_ (.pick r_2 r_6 F_),w_ 3 r_7]
.ret))⟩
def a113:Ann:=⟨[0,1,2,3,4,5,6,7,8,9,10,12,16,43,44,45,46,50],[12,1],[],[],[(13,⟨[0,0,2,6,0,16,48,126,255,511,1023],[0,1,2,3,4,5,6,7,8,9,10],[]⟩)]⟩
def t113L0:aJ:=(.seq (g_ [s_ 16 (.bin .lss wQ oU)])
(.seq (.cond vH
.skip
(.exit 0))
(.seq (.block 1
(h_ [o_ (.indexAddrS 2 pF wQ),o_ (.loadN 2 r_0),o_ (.allocL 11 [(.bool false),(.int .i64 0)]),o_ (.store 2 r_2 r_1)]
(h_ [f_ 0 iG,s_ 17 (.load1 r_0)]
(.cond aJ6
(h_ [v_ l_9,f_ 1 iG,d_ r_1,o_ (.conv (.toInt .u32) r_2),v_ gA,o_ (.bin .shl r_3 r_4),o_ (.bin .or r_0 r_5),w_ 9 r_6]
(g_ [v_ gA,o_ (.bin .sub r_0 (i_ 5)),w_ 10 r_1]))
.skip))))
(g_ [o_ (.bin .add wQ (i_ 1)),w_ 15 r_0]))))
def t113:aR:=⟨1,18,[.loc 2,.loc 3],
(h_ [o_ (.boxL 1 l_0),s_ 2 (.mov (.cst (.int .u32 0))),w_ 3 (i_ 0)]
(.seq (.seq (g_ [o_ (.loadN 5 l_1),c_ 128 [r_0],w_ 4 r_1])
(h_ [v_ l_4,s_ 12 (.bin .neq r_0 (i_ 0))]
(.cond lG
(h_ [v_ l_4,s_ 2 (.mov (.cst (.int .u32 0))),w_ 3 r_0]
.ret)
.skip)))
(h_ [f_ 0 l_1,d_ r_0,c_ 130 [r_1],c_ 129 [r_2],v_ r_3,o_ (.extract 0 r_4),o_ (.extract 1 r_4),o_ (.extract 2 r_4),o_ (.extract 3 r_4),w_ 5 r_5,w_ 6 r_6,w_ 7 r_7,w_ 8 r_8]
(h_ [f_ 0 l_1,d_ r_0,o_ (.conv (.toInt .u32) r_1),o_ (.bin .shl r_2 (.cst (.int .u64 26))),w_ 9 r_3,w_ 10 (i_ 21)]
(.seq (.seq (g_ [v_ l_5,f_ 1 l_1,d_ r_1,o_ (.build [(.bool false),(.int .i64 0)] [(0,1,r_0),(1,1,r_2)]),v_ l_6,f_ 2 l_1,d_ r_5,o_ (.build [(.bool false),(.int .i64 0)] [(0,1,r_4),(1,1,r_6)]),v_ l_7,f_ 3 l_1,d_ r_9,o_ (.build [(.bool false),(.int .i64 0)] [(0,1,r_8),(1,1,dH)]),s_ 13 (.lit false [(.bool false),(.int .i64 0)] 3 [(0,r_3),(1,r_7),(2,dQ)]),s_ 14 (.len .sl eT),w_ 15 (i_ 0)])
(.block 0
(.loop t113L0)))
(.seq (.draw [0,1,2,3,4,5,6,7,8,9,10] [] [v_ l_9,f_ 4 l_1,d_ r_1,o_ (.conv (.toInt .u32) r_2),v_ l_8,o_ (.bin .shl (.cst (.int .u32 1)) r_4),o_ (.bin .sub r_5 (.cst (.int .u32 1))),o_ (.bin .and r_3 r_6),o_ (.bin .or r_0 r_7),w_ 2 r_8,w_ 3 (i_ 0)])
.ret))))))⟩
def a122:Ann:=⟨[0,1,2,49],[1],[],[],[(1,⟨[0,1,3,7,15,31,63,127,31,287,1023,2047,4095,8191,16383,32767,65535,16383,147455,524287,1048575,2097151,4194303,8388607,16777215,33554431,8388607,75497471,268435455,536870911,1073741823,2147483647,4294967295,8589934591,4294967295,21474836479,55834574847,137438953471,274877906943,549755813887,1099511627775,2199023255551,1099511627775,5497558138879,14293651161087,35184372088831,70368744177663],[0,1],[(2,[],[3,4,5,6,8,9]),(7,[9],[]),(10,[],[11,12,13,14,15,17,18]),(16,[18],[]),(19,[],[20,21,22,23,24,26,27]),(25,[27],[]),(28,[],[29,30,31,32,33,34,35]),(36,[33],[37,38,39,40,41,42,43]),(44,[41],[45,46])]⟩)]⟩
def t122:aR:=⟨1,4,[.loc 2],
(h_ [o_ (.boxL 1 l_0),w_ 2 (i_ 0)]
(.seq (.seq (.draw [0,1] [(2,[],[3,4,5,6,8,9]),(7,[9],[]),(10,[],[11,12,13,14,15,17,18]),(16,[18],[]),(19,[],[20,21,22,23,24,26,27]),(25,[27],[]),(28,[],[29,30,31,32,33,34,35]),(36,[33],[37,38,39,40,41,42,43]),(44,[41],[45,46])] [f_ 0 l_1,d_ r_0,c_ 133 [r_1],o_ (.bin .eql r_2 (i_ 0)),v_ r_3,x_ 4 (.fieldAddr 0 l_1),x_ 4 (.load1 r_5),x_ 4 (.call true false 124 [r_6]),x_ 4 (.fieldAddr 1 l_1),x_ 4 (.load1 r_8),x_ 4 (.call true false 134 [r_7,r_9]),x_ 4 (.un .not dH),o_ (.pick r_4 T_ dQ),v_ eT,x_ 13 (.fieldAddr 0 l_1),x_ 13 (.load1 gL),x_ 13 (.call true false 125 [gY]),x_ 13 (.fieldAddr 2 l_1),x_ 13 (.load1 lF),x_ 13 (.call true false 134 [iF,mN]),x_ 13 (.un .not pB),o_ (.pick gK T_ pC),v_ pE,x_ 22 (.fieldAddr 0 l_1),x_ 22 (.load1 wO),x_ 22 (.call true false 126 [wP]),x_ 22 (.fieldAddr 3 l_1),x_ 22 (.load1 aGn),x_ 22 (.call true false 134 [aBz,aJ5]),x_ 22 (.un .not aNt),o_ (.pick rM T_ bBf),v_ bBg,x_ 31 (.fieldAddr 4 l_1),x_ 31 (.load1 bJj),x_ 31 (.fieldAddr 0 l_1),x_ 31 (.load1 bK7),x_ 31 (.call true false 135 [bL5]),x_ 31 (.bin .lss bJk bL6),o_ (.pick bBh T_ bL7),v_ bL8,x_ 39 (.fieldAddr 4 l_1),x_ 39 (.load1 bMa),x_ 39 (.fieldAddr 0 l_1),x_ 39 (.load1 bMc),x_ 39 (.call true false 136 [bMd]),x_ 39 (.bin .gtr bMb bMe),s_ 3 (.pick bL9 T_ bMf)])
(.cond l_3
(h_ [w_ 2 (i_ 11)]
.ret)
.skip))
(h_ [w_ 2 (i_ 0)]
.ret)))⟩
def a123:Ann:=⟨[0,1,2,6,7,11],[],[],[],[]⟩
def t123L0:aJ:=(.seq (.seq (g_ [v_ l_4,s_ 5 (.bin .geq r_0 (i_ 0))])
(.cond l_5
.skip
(.exit 0)))
(.seq (.block 1
(g_ [v_ l_0,v_ l_1,v_ l_4,o_ (.conv (.toInt .u64) r_2),o_ (.bin .shr r_1 r_3),o_ (.bin .and r_4 (i_ 1)),o_ (.conv (.toInt .u8) r_5),o_ (.lit false [(.int .u8 0)] 1 [(0,r_6)]),o_ (.append false 1 1 5 r_0 r_7),w_ 0 r_8]))
(g_ [v_ l_4,o_ (.bin .sub r_0 (i_ 1)),w_ 4 r_1])))
def t123:aR:=⟨3,6,[.loc 3],
(h_ [w_ 3 N_]
(.seq (.seq (g_ [v_ l_2,o_ (.bin .sub r_0 (i_ 1)),w_ 4 r_1])
(.block 0
(.loop t123L0)))
(h_ [v_ l_0,w_ 3 r_0]
.ret)))⟩
def a124:Ann:=⟨[0,2],[],[],[],[]⟩
def t124:aR:=⟨1,2,[.loc 1],
(h_ [w_ 1 F_]
(h_ [v_ l_0,c_ 133 [r_0],o_ (.bin .eql r_1 (i_ 1)),v_ r_2,x_ 3 (.mov l_0),x_ 3 (.call true false 133 [r_4]),x_ 3 (.bin .eql r_5 (i_ 2)),o_ (.pick r_3 T_ r_6),v_ r_7,x_ 8 (.mov l_0),x_ 8 (.call true false 133 [r_9]),x_ 8 (.bin .eql dH (i_ 3)),o_ (.pick r_8 T_ dQ),v_ eT,x_ 13 (.mov l_0),x_ 13 (.call true false 133 [gL]),x_ 13 (.bin .eql gY (i_ 5)),o_ (.pick gK T_ iF),v_ lF,x_ 18 (.mov l_0),x_ 18 (.call true false 133 [pB]),x_ 18 (.bin .eql pC (i_ 6)),o_ (.pick mN T_ pE),w_ 1 rM]
.ret))⟩
def a125:Ann:=⟨[0,2],[],[],[],[]⟩
def t125:aR:=⟨1,2,[.loc 1],
(h_ [w_ 1 F_]
(h_ [v_ l_0,c_ 133 [r_0],o_ (.bin .eql r_1 (i_ 1)),v_ r_2,x_ 3 (.mov l_0),x_ 3 (.call true false 133 [r_4]),x_ 3 (.bin .eql r_5 (i_ 2)),o_ (.pick r_3 T_ r_6),v_ r_7,x_ 8 (.mov l_0),x_ 8 (.call true false 133 [r_9]),x_ 8 (.bin .eql dH (i_ 4)),o_ (.pick r_8 T_ dQ),v_ eT,x_ 13 (.mov l_0),x_ 13 (.call true false 133 [gL]),x_ 13 (.bin .eql gY (i_ 7)),o_ (.pick gK T_ iF),w_ 1 lF]
.ret))⟩
def a126:Ann:=⟨[0,2],[],[],[],[]⟩
def t126:aR:=⟨1,2,[.loc 1],
(h_ [w_ 1 F_]
(h_ [v_ l_0,c_ 133 [r_0],o_ (.bin .eql r_1 (i_ 1)),v_ r_2,x_ 3 (.mov l_0),x_ 3 (.call true false 133 [r_4]),x_ 3 (.bin .eql r_5 (i_ 4)),o_ (.pick r_3 T_ r_6),w_ 1 r_7]
.ret))⟩
def a127:Ann:=⟨[0,2,5,13],[],[],[],[]⟩
def t127:aR:=⟨1,4,[.loc 1],
(h_ [w_ 1 (i_ 0)]
(.seq (.seq (g_ [v_ l_0,c_ 133 [r_0],s_ 2 (.bin .eql r_1 (i_ 5))])
(.cond l_2
(h_ [w_ 1 (i_ 21)]
.ret)
.skip))
(.seq (.seq (g_ [v_ l_0,c_ 133 [r_0],o_ (.bin .geq r_1 (i_ 2)),v_ r_2,y_ 3 (.mov l_0),y_ 3 (.call true false 133 [r_4]),y_ 3 (.bin .leq r_5 (i_ 4)),s_ 3 (.pick r_3 r_6 F_)])
(.cond l_3
(h_ [w_ 1 (i_ 16)]
.ret)
.skip))
(h_ [w_ 1 (i_ 0)]
.ret))))⟩
def a128:Ann:=⟨[0,1,2,3,4,5,6,8,9,60],[1],[],[],[]⟩
def t128:aR:=⟨1,10,[.loc 2],
(h_ [o_ (.boxL 1 l_0),w_ 2 (i_ 0)]
(h_ [f_ 0 l_1,d_ r_0,c_ 130 [r_1],w_ 3 r_2]
(h_ [v_ l_3,c_ 129 [r_0],v_ r_1,o_ (.extract 0 r_2),o_ (.extract 1 r_2),o_ (.extract 2 r_2),o_ (.extract 3 r_2),w_ 4 r_3,w_ 5 r_4,w_ 6 r_5,v_ r_6]
(h_ [f_ 0 l_1,d_ r_0,c_ 137 [r_1],v_ r_2,o_ (.extract 0 r_3),o_ (.extract 1 r_3),w_ 7 r_4,w_ 8 r_5]
(.seq (.seq (g_ [v_ l_3,o_ (.bin .eql r_0 (i_ 0)),v_ r_1,x_ 2 (.mov l_4),x_ 2 (.fieldAddr 1 l_1),x_ 2 (.load1 r_4),x_ 2 (.call true false 138 [r_3,r_5]),x_ 2 (.un .not r_6),o_ (.pick r_2 T_ r_7),v_ r_8,x_ 9 (.mov l_5),x_ 9 (.fieldAddr 2 l_1),x_ 9 (.load1 dQ),x_ 9 (.call true false 138 [dH,eT]),x_ 9 (.un .not gK),o_ (.pick r_9 T_ gL),v_ gY,x_ 16 (.mov l_6),x_ 16 (.fieldAddr 3 l_1),x_ 16 (.load1 mN),x_ 16 (.call true false 138 [lF,pB]),x_ 16 (.un .not pC),o_ (.pick iF T_ pE),v_ rM,x_ 23 (.fieldAddr 4 l_1),x_ 23 (.load1 wP),x_ 23 (.mov l_7),x_ 23 (.bin .lss aBz aGn),o_ (.pick wO T_ aJ5),v_ aNt,x_ 29 (.fieldAddr 4 l_1),x_ 29 (.load1 bBg),x_ 29 (.mov l_8),x_ 29 (.bin .gtr bBh bJj),s_ 9 (.pick bBf T_ bJk)])
(.cond l_9
(h_ [w_ 2 (i_ 11)]
.ret)
.skip))
(h_ [w_ 2 (i_ 0)]
.ret))))))⟩
end Go.Proofs.YtmlhjdekfihdnaaGreatDoor
