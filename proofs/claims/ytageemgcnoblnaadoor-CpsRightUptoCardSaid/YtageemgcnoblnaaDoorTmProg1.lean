/- The functions of this seat, compiled for the evaluator TM; each held against the translation by the kernel. By program. Condition: none. -/
import Derived.Test.YtageemgcnoblnaaDoorPrim
set_option maxRecDepth 100000
set_option linter.unusedVariables false
namespace Go.Proofs.YtageemgcnoblnaaDoor
open Go Go.TM
abbrev r_0:aE:=.reg 0
abbrev r_1:aE:=.reg 1
abbrev r_2:aE:=.reg 2
abbrev r_3:aE:=.reg 3
abbrev r_4:aE:=.reg 4
abbrev r_5:aE:=.reg 5
abbrev r_6:aE:=.reg 6
abbrev r_7:aE:=.reg 7
abbrev r_8:aE:=.reg 8
abbrev r_9:aE:=.reg 9
abbrev eU:aE:=.reg 10
abbrev fQ:aE:=.reg 11
abbrev gV:aE:=.reg 12
abbrev jG:aE:=.reg 13
abbrev mJ:aE:=.reg 14
abbrev mN:aE:=.reg 15
abbrev nP:aE:=.reg 16
abbrev pE:aE:=.reg 17
abbrev tF:aE:=.reg 18
abbrev wI:aE:=.reg 19
abbrev wJ:aE:=.reg 20
abbrev wK:aE:=.reg 21
abbrev yI:aE:=.reg 22
abbrev yJ:aE:=.reg 23
abbrev aBr:aE:=.reg 24
abbrev aCh:aE:=.reg 25
abbrev aFs:aE:=.reg 26
abbrev aMc:aE:=.reg 27
abbrev aMd:aE:=.reg 28
abbrev aMe:aE:=.reg 29
abbrev aSd:aE:=.reg 30
abbrev aYu:aE:=.reg 31
abbrev aYv:aE:=.reg 32
abbrev aYw:aE:=.reg 33
abbrev aYx:aE:=.reg 34
abbrev aYy:aE:=.reg 35
abbrev aYz:aE:=.reg 36
abbrev bC7:aE:=.reg 37
abbrev bC8:aE:=.reg 38
abbrev bC9:aE:=.reg 39
abbrev bHz:aE:=.reg 40
abbrev bH0:aE:=.reg 41
abbrev bH1:aE:=.reg 42
abbrev bH2:aE:=.reg 43
abbrev bH3:aE:=.reg 44
abbrev bH4:aE:=.reg 45
abbrev bH5:aE:=.reg 46
abbrev bI3:aE:=.reg 47
abbrev bI4:aE:=.reg 48
abbrev bI5:aE:=.reg 49
abbrev bI6:aE:=.reg 50
abbrev bI7:aE:=.reg 51
abbrev bI8:aE:=.reg 52
abbrev bI9:aE:=.reg 53
abbrev bJa:aE:=.reg 54
abbrev bJb:aE:=.reg 55
abbrev l_0:aE:=.loc 0
abbrev l_1:aE:=.loc 1
abbrev l_2:aE:=.loc 2
abbrev l_3:aE:=.loc 3
abbrev l_4:aE:=.loc 4
abbrev l_5:aE:=.loc 5
abbrev l_6:aE:=.loc 6
abbrev l_7:aE:=.loc 7
abbrev l_8:aE:=.loc 8
abbrev l_9:aE:=.loc 9
abbrev iE:aE:=.loc 10
abbrev mK:aE:=.loc 11
abbrev rT:aE:=.loc 12
abbrev mL:aE:=.loc 13
abbrev qZ:aE:=.loc 14
abbrev aCi:aE:=.loc 15
abbrev aIy:aE:=.loc 16
abbrev aIz:aE:=.loc 17
abbrev aY0:aE:=.loc 18
abbrev aSe:aE:=.loc 19
abbrev bDa:aE:=.loc 20
abbrev bGj:aE:=.loc 21
abbrev bJc:aE:=.loc 22
abbrev bJd:aE:=.loc 23
abbrev bJe:aE:=.loc 24
abbrev bJf:aE:=.loc 25
abbrev bGk:aE:=.loc 26
abbrev bJg:aE:=.loc 27
abbrev T_:aE:=.cst (.bool true)
abbrev F_:aE:=.cst (.bool false)
abbrev N_:aE:=.cst (.sl .nil [])
abbrev y_ (n:Nat) (x:TOp):aG:=⟨x, none, some (n, true)⟩
abbrev x_ (n:Nat) (x:TOp):aG:=⟨x, none, some (n, false)⟩
abbrev c_ (n:Nat) (l:List aE):aG:=⟨.call true false n l, none, none⟩
abbrev g_ (l:List aG):aP:=.region l
abbrev h_ (l:List aG) (b:aP):aP:=.seq (.region l) b
abbrev v_ (x:aE):aG:=⟨.mov x, none, none⟩
abbrev w_ (n:Nat) (x:aE):aG:=⟨.mov x, some n, none⟩
abbrev d_ (x:aE):aG:=⟨.load1 x, none, none⟩
abbrev f_ (n:Nat) (x:aE):aG:=⟨.fieldAddr n x, none, none⟩
abbrev o_ (x:TOp):aG:=⟨x,none,none⟩
abbrev s_ (n:Nat) (x:TOp):aG:=⟨x,some n,none⟩
abbrev i_ (n:Int):aE:=.cst (.int .i64 n)
def opts:dB:=⟨fun f=>([3,4,6,7,12,13,16,18,19,20,21,22,23,24,27,28,29,30,31,33,36,37,38,39,40,41,42,43,44,45,46,47,48,49,50,53,54,55,56,57,58,60,61,64,65,66,68,69,70,71,72,73,74,75,76,77,84,90,93,94,95,96,101,106,107,108,112,115,116,117,118,119,120,122,123,129,131,133,134,135,137,146,147,148,149,150,151,152]:List Nat).contains f,fun f=>([42,94]:List Nat).contains f⟩
def a4:Ann:=⟨[0,1,2,3,4,5,6,7,8,9,10,11,14,22,30,37,92,101,106,145],[11,9,3,1],[],[],[(15,⟨[0,1,3,7,7,31,63,127,255,255,767,2047,4095,8191,16383,32767,65535,16383,16383,409599,933887,1982463,4079615,8273919,16777215,33554431,67108863,134217727,268435455,134217727,134217727,1744830463,3892314111,8187281407,17179869183,34359738367,68719476735,137438953471,274877906943,549755813887,137438953471,137438953471,3435973836799,7834020347903,16630113370111,35184372088831,70368744177663,140737488355327],[0,1,2,3,4],[(5,[],[6,7,8,9,10,11,12,13,14,15,16,17,18,19,20,21,22,23,24,25,26,27,28,29,30,31,32,33,34,35,36,37,38,39,40,41,42,43,44]),(45,[],[46,47])]⟩)]⟩
def t4L0:aP:=(.seq (.seq (g_ [v_ iE,f_ 0 l_3,d_ r_1,o_ (.len .sl r_2),s_ 18 (.bin .lss r_0 r_3)])
(.cond aY0
.skip
(.exit 4)))
(.seq (.block 5
(h_ [f_ 0 l_3,d_ r_0,v_ iE,o_ (.indexAddrS 11 r_1 r_2),o_ (.loadN 11 r_3),o_ (.allocL 11 [(.sl .nil []),(.bool false),(.bool false),(.sl .nil []),(.int .i64 0),(.int .i64 0),(.int .i64 0),(.int .i64 0),(.int .i64 0),(.sl .nil []),(.sl .nil [])]),o_ (.store 11 r_5 r_4)]
(h_ [f_ 2 mK,d_ r_0,o_ (.un .not r_1),v_ r_2,y_ 3 (.mov l_6),y_ 3 (.mov iE),y_ 3 (.call true false 14 [r_4,r_5]),y_ 3 (.un .not r_6),o_ (.pick r_3 r_7 F_),v_ r_8,y_ 9 (.mov iE),y_ 9 (.fieldAddr 1 l_3),y_ 9 (.load1 fQ),y_ 9 (.bin .neq eU gV),o_ (.pick r_9 jG F_),v_ mJ,y_ 15 (.fieldAddr 0 mK),y_ 15 (.load1 nP),y_ 15 (.len .sl pE),y_ 15 (.bin .neq tF (i_ 2)),y_ 15 (.mov wI),x_ 20 (.fieldAddr 1 mK),x_ 20 (.load1 wK),x_ 20 (.un .not yI),y_ 15 (.pick wJ T_ yJ),y_ 15 (.mov aBr),x_ 25 (.fieldAddr 4 mK),x_ 25 (.fieldAddr 0 aFs),x_ 25 (.load1 aMc),x_ 25 (.bin .neq aMd (i_ 6)),y_ 15 (.pick aCh T_ aMe),s_ 19 (.pick mN aSd F_)]
(.cond aSe
(h_ [w_ 2 F_]
.ret)
.skip))))
(g_ [v_ iE,o_ (.bin .add r_0 (i_ 1)),w_ 10 r_1])))
def t4L1:aP:=(.seq (.seq (g_ [v_ l_8, f_ 0 l_3, d_ r_1, o_ (.len .sl r_2), s_ 15 (.bin .lss r_0 r_3)])
(.cond aCi
.skip
(.exit 2)))
(.seq (.block 3
(h_ [f_ 0 l_3,d_ r_0,v_ l_8,o_ (.indexAddrS 11 r_1 r_2),o_ (.loadN 11 r_3),o_ (.allocL 9 [(.sl .nil []),(.bool false),(.bool false),(.sl .nil []),(.int .i64 0),(.int .i64 0),(.int .i64 0),(.int .i64 0),(.int .i64 0),(.sl .nil []),(.sl .nil [])]),o_ (.store 11 r_5 r_4)]
(.seq (.seq (.draw [0,1,2,3,4] [(5,[],[6,7,8,9,10,11,12,13,14,15,16,17,18,19,20,21,22,23,24,25,26,27,28,29,30,31,32,33,34,35,36,37,38,39,40,41,42,43,44]),(45,[],[46,47])] [f_ 2 l_9,d_ r_0,v_ r_1,x_ 2 (.mov l_6),x_ 2 (.mov l_8),x_ 2 (.call true false 14 [r_3,r_4]),o_ (.pick r_2 T_ r_5),v_ r_6,x_ 7 (.mov l_8),x_ 7 (.fieldAddr 1 l_3),x_ 7 (.load1 r_9),x_ 7 (.bin .eql r_8 eU),o_ (.pick r_7 T_ fQ),v_ gV,x_ 13 (.fieldAddr 0 l_9),x_ 13 (.load1 mJ),x_ 13 (.len .sl mN),x_ 13 (.mov l_5),x_ 13 (.mov l_7),x_ 13 (.indexAddrS 5 pE tF),x_ 13 (.fieldAddr 2 wI),x_ 13 (.load1 wJ),x_ 13 (.len .sl wK),x_ 13 (.bin .add yI (i_ 1)),x_ 13 (.bin .neq nP yJ),o_ (.pick jG T_ aBr),v_ aCh,x_ 26 (.fieldAddr 1 l_9),x_ 26 (.load1 aMc),x_ 26 (.mov l_5),x_ 26 (.mov l_7),x_ 26 (.indexAddrS 5 aMe aSd),x_ 26 (.fieldAddr 3 aYu),x_ 26 (.load1 aYv),x_ 26 (.eqB true .bool aMd aYw),o_ (.pick aFs T_ aYx),v_ aYy,x_ 36 (.fieldAddr 0 l_9),x_ 36 (.load1 bC7),x_ 36 (.slice (.sl 1) bC8 (some (i_ 1)) none none),x_ 36 (.mov l_5),x_ 36 (.mov l_7),x_ 36 (.indexAddrS 5 bHz bH0),x_ 36 (.fieldAddr 2 bH1),x_ 36 (.load1 bH2),x_ 36 (.call true false 15 [bC9,bH3]),x_ 36 (.un .not bH4),s_ 16 (.pick aYz T_ bH5)])
(.cond aIy
(.exit 3)
.skip))
(h_ [v_ l_6,v_ l_8,o_ (.lit false [(.int .i64 0)] 1 [(0,r_1)]),o_ (.append false 1 8 3 r_0 r_2),w_ 6 r_3]
(.exit 2)))))
(g_ [v_ l_8,o_ (.bin .add r_0 (i_ 1)),w_ 8 r_1])))
def t4L2:aP:=(.seq (.seq (g_ [v_ l_7,v_ l_5,o_ (.len .sl r_1),s_ 14 (.bin .lss r_0 r_2)])
(.cond qZ
.skip
(.exit 0)))
(.seq (.block 1
(h_ [w_ 8 (i_ 0)]
(.block 2
(.loop t4L1))))
(g_ [v_ l_7,o_ (.bin .add r_0 (i_ 1)),w_ 7 r_1])))
def t4:bH:=⟨1,20,[.loc 2],
(h_ [o_ (.boxL 1 l_0),w_ 2 F_]
(.seq (.seq (g_ [o_ (.loadN 8 l_1),o_ (.call false false 7 [r_0]),s_ 12 (.un .not r_1)])
(.cond rT
(h_ [c_ 8 [],w_ 2 r_0]
.ret)
.skip))
(h_ [o_ (.loadN 8 l_1),c_ 9 [r_0],v_ r_1,o_ (.extract 0 r_2),o_ (.extract 1 r_2),o_ (.allocL 3 [(.sl .nil []),(.int .i64 0),(.int .i64 0),(.int .i64 0),(.sl .nil [])]),o_ (.store 5 r_5 r_3),w_ 4 r_4]
(.seq (.seq (g_ [v_ l_4,s_ 13 (.bin .neq r_0 (i_ 0))])
(.cond mL
(h_ [c_ 8 [],w_ 2 r_0]
.ret)
.skip))
(h_ [f_ 0 l_1,o_ (.loadN 5 r_0),o_ (.call false false 13 [r_1,N_]),w_ 5 r_2]
(h_ [w_ 6 N_]
(.seq (.seq (g_ [w_ 7 (i_ 0)])
(.block 0
(.loop t4L2)))
(.seq (.seq (g_ [v_ l_6,o_ (.len .sl r_0),v_ l_5,o_ (.len .sl r_2),s_ 17 (.bin .lss r_1 r_3)])
(.cond aIz
(h_ [w_ 2 F_]
.ret)
.skip))
(.seq (.seq (g_ [w_ 10 (i_ 0)])
(.block 4
(.loop t4L0)))
(h_ [c_ 8 [],w_ 2 r_0]
.ret))))))))))⟩
def a6:Ann:=⟨[0,1,2,3,4,5,6,7,10,18,52,89,96,108],[3,1],[],[],[(9,⟨[0,0,2,0,8,30,62,127,255,511,1023,2047,4095,8191,16383,1023,33791,99327,262143,524287,1048575,2097151,4194303,2097151,10485759,33554431,67108863,134217727,268435455,536870911,1073741823],[0,1,2,3,4,5,6],[(7,[],[8,9,10,11,12,13,14,15,16,17,18,19,20,21,22,23,24,25,26,27,28,29,30])]⟩),(15,⟨[0,1,3,7,0,0,48,112,255,511],[0,1,2,3,4,5,6,7],[(8,[],[9])]⟩)]⟩
def t6L0:aP:=(.seq (.seq (g_ [v_ l_7,v_ l_6,o_ (.len .sl r_1),s_ 12 (.bin .lss r_0 r_2)])
(.cond rT
.skip
(.exit 0)))
(.seq (.block 1
(.seq (.draw [0,1,2,3,4,5,6,7] [(8,[],[9])] [v_ l_5,o_ (.nilCheck r_0),f_ 5 r_1,d_ r_2,v_ l_6,v_ l_7,o_ (.indexAddrS 1 r_4 r_5),d_ r_6,c_ 14 [r_3,r_7],s_ 13 (.un .not r_8)])
(.cond mL
(h_ [w_ 2 F_]
.ret)
.skip)))
(g_ [v_ l_7,o_ (.bin .add r_0 (i_ 1)),w_ 7 r_1])))
def t6:bH:=⟨1,14,[.loc 2],
(h_ [o_ (.boxL 1 l_0),w_ 2 F_]
(.seq (.seq (g_ [o_ (.loadN 8 l_1),o_ (.call false false 7 [r_0]),s_ 8 (.un .not r_1)])
(.cond l_8
(h_ [c_ 8 [],w_ 2 r_0]
.ret)
.skip))
(h_ [o_ (.loadN 8 l_1),c_ 9 [r_0],v_ r_1,o_ (.extract 0 r_2),o_ (.extract 1 r_2),o_ (.allocL 3 [(.sl .nil []),(.int .i64 0),(.int .i64 0),(.int .i64 0),(.sl .nil [])]),o_ (.store 5 r_5 r_3),w_ 4 r_4]
(.seq (.seq (g_ [v_ l_4,s_ 9 (.bin .neq r_0 (i_ 0))])
(.cond l_9
(h_ [f_ 0 l_3,d_ r_0,o_ (.len .sl r_1),o_ (.bin .eql r_2 (i_ 0)),v_ r_3,y_ 4 (.call true false 8 []),o_ (.pick r_4 r_5 F_),w_ 2 r_6]
.ret)
.skip))
(.seq (.seq (g_ [f_ 1 l_3,d_ r_0,o_ (.bin .lss r_1 (i_ 0)),v_ r_2,x_ 3 (.fieldAddr 1 l_3),x_ 3 (.load1 r_4),x_ 3 (.fieldAddr 0 l_3),x_ 3 (.load1 r_6),x_ 3 (.len .sl r_7),x_ 3 (.bin .geq r_5 r_8),o_ (.pick r_3 T_ r_9),v_ eU,x_ 11 (.fieldAddr 3 l_3),x_ 11 (.load1 gV),x_ 11 (.fieldAddr 5 l_1),x_ 11 (.load1 mJ),x_ 11 (.bin .neq jG mN),o_ (.pick fQ T_ nP),v_ pE,x_ 18 (.fieldAddr 4 l_3),x_ 18 (.load1 wI),x_ 18 (.len .sl wJ),x_ 18 (.fieldAddr 7 l_1),x_ 18 (.load1 yI),x_ 18 (.len .sl yJ),x_ 18 (.bin .neq wK aBr),s_ 10 (.pick tF T_ aCh)])
(.cond iE
(h_ [w_ 2 F_]
.ret)
.skip))
(h_ [o_ (.loadN 5 l_3),f_ 1 l_3,d_ r_1,o_ (.lit false [(.int .i64 0)] 1 [(0,r_2)]),o_ (.build [(.sl .nil []),(.int .i64 0),(.int .i64 0),(.int .i64 0),(.sl .nil []),(.sl .nil []),(.sl .nil [])] [(0,5,r_0),(6,1,r_3)]),o_ (.boxH 57 r_4),w_ 5 r_5]
(.seq (.seq (.draw [0,1,2,3,4,5,6] [(7,[],[8,9,10,11,12,13,14,15,16,17,18,19,20,21,22,23,24,25,26,27,28,29,30])] [v_ l_5,f_ 0 l_3,d_ r_1,f_ 1 l_3,d_ r_3,o_ (.indexAddrS 11 r_2 r_4),o_ (.loadN 11 r_5),o_ (.call false false 16 [r_0,r_6,N_]),o_ (.un .not r_7),v_ r_8,x_ 9 (.mov l_5),x_ 9 (.nilCheck eU),x_ 9 (.fieldAddr 6 fQ),x_ 9 (.load1 gV),x_ 9 (.len .sl jG),x_ 9 (.fieldAddr 0 l_3),x_ 9 (.load1 mN),x_ 9 (.len .sl nP),x_ 9 (.bin .neq mJ pE),o_ (.pick r_9 T_ tF),v_ wI,x_ 20 (.fieldAddr 0 l_3),x_ 20 (.load1 wK),x_ 20 (.fieldAddr 1 l_3),x_ 20 (.load1 yJ),x_ 20 (.indexAddrS 11 yI aBr),x_ 20 (.fieldAddr 0 aCh),x_ 20 (.load1 aFs),x_ 20 (.len .sl aMc),x_ 20 (.bin .neq aMd (i_ 0)),s_ 11 (.pick wJ T_ aMe)])
(.cond mK
(h_ [w_ 2 F_]
.ret)
.skip))
(h_ [f_ 0 l_1,o_ (.loadN 5 r_0),c_ 17 [r_1],w_ 6 r_2]
(.seq (.seq (g_ [w_ 7 (i_ 0)])
(.block 0
(.loop t6L0)))
(h_ [c_ 8 [],w_ 2 r_0]
.ret))))))))))⟩
def a7:Ann:=⟨[0,1,2],[1],[],[],[]⟩
def t7:bH:=⟨1,3,[.loc 2],
(h_ [o_ (.boxL 1 l_0),w_ 2 F_]
(h_ [f_ 0 l_1,o_ (.loadN 5 r_0),o_ (.call false false 18 [r_1,(i_ 2000)]),o_ (.bin .gtr r_2 (i_ 0)),v_ r_3,y_ 4 (.fieldAddr 7 l_1),y_ 4 (.load1 r_5),y_ 4 (.len .sl r_6),y_ 4 (.bin .leq r_7 (i_ 2000)),o_ (.pick r_4 r_8 F_),v_ r_9,y_ 10 (.fieldAddr 6 l_1),y_ 10 (.load1 fQ),y_ 10 (.bin .leq gV (i_ 1099511627776)),o_ (.pick eU jG F_),w_ 2 mJ]
.ret))⟩
def a8:Ann:=⟨[0,1,2,3,4,5,35,68],[5,4,2,1],[],[],[(9,⟨[0,1,3,7,15,31,63,127,255,511,1023,2047,4095,8191,1023,17407,50175,131071,262143,524287,1048575,2097151,4194303,8388607,1048575,33554431,67108863,134217727],[0,1,2,3,4,5,6,7,8,9,10,11,12,13,14,15,16,17,18,19,20,21,22,23,24,25,26,27],[]⟩)]⟩
def t8:bH:=⟨0,8,[.loc 0],
(h_ [w_ 0 F_]
(h_ [o_ (.build [(.int .i64 0),(.int .i64 0),(.sl .nil []),(.bool false),(.sl .nil [])] [(0,1,(i_ 3))]),o_ (.build [(.int .i64 0),(.int .i64 0),(.sl .nil []),(.bool false),(.sl .nil [])] [(0,1,(i_ 1))]),o_ (.lit false [(.int .i64 0),(.int .i64 0),(.sl .nil []),(.bool false),(.sl .nil [])] 2 [(0,r_0),(1,r_1)]),o_ (.build [(.int .i64 0),(.int .i64 0),(.sl .nil []),(.bool false),(.sl .nil [])] [(0,1,(i_ 8)),(4,1,r_2)]),o_ (.build [(.int .i64 0),(.int .i64 0),(.str []),(.sl .nil []),(.int .i64 0)] [(0,1,(i_ 0))]),o_ (.lit false [(.int .i64 0),(.int .i64 0),(.str []),(.sl .nil []),(.int .i64 0)] 1 [(0,r_4)]),o_ (.build [(.int .i64 0),(.int .i64 0),(.sl .nil []),(.bool false),(.sl .nil []),(.int .i64 0),(.int .i64 0),(.sl .nil [])] [(0,5,r_3),(5,1,(i_ 1)),(7,1,r_5)]),o_ (.allocL 1 [(.int .i64 0),(.int .i64 0),(.sl .nil []),(.bool false),(.sl .nil []),(.int .i64 0),(.int .i64 0),(.sl .nil [])]),o_ (.store 8 r_7 r_6)]
(h_ [o_ (.loadN 8 l_1),c_ 9 [r_0],v_ r_1,o_ (.extract 0 r_2),o_ (.extract 1 r_2),o_ (.allocL 2 [(.sl .nil []),(.int .i64 0),(.int .i64 0),(.int .i64 0),(.sl .nil [])]),o_ (.store 5 r_5 r_3),w_ 3 r_4]
(.seq (.seq (g_ [v_ l_3,o_ (.bin .neq r_0 (i_ 0)),v_ r_1,x_ 2 (.fieldAddr 0 l_2),x_ 2 (.load1 r_3),x_ 2 (.len .sl r_4),x_ 2 (.bin .neq r_5 (i_ 2)),o_ (.pick r_2 T_ r_6),v_ r_7,x_ 8 (.fieldAddr 1 l_2),x_ 8 (.load1 r_9),x_ 8 (.bin .lss eU (i_ 0)),o_ (.pick r_8 T_ fQ),v_ gV,x_ 13 (.fieldAddr 1 l_2),x_ 13 (.load1 mJ),x_ 13 (.bin .gtr mN (i_ 1)),s_ 6 (.pick jG T_ nP)])
(.cond l_6
(h_ [w_ 0 F_]
.ret)
.skip))
(h_ [f_ 0 l_2,d_ r_0,f_ 1 l_2,d_ r_2,o_ (.indexAddrS 11 r_1 r_3),f_ 4 r_4,o_ (.loadN 7 r_5),o_ (.allocL 4 [(.int .i64 0),(.int .i64 0),(.int .i64 0),(.int .i64 0),(.int .i64 0),(.sl .nil []),(.sl .nil [])]),o_ (.store 7 r_7 r_6)]
(.seq (.seq (g_ [f_ 0 l_4,d_ r_0,o_ (.bin .neq r_1 (i_ 2)),v_ r_2,x_ 3 (.fieldAddr 6 l_4),x_ 3 (.load1 r_4),x_ 3 (.len .sl r_5),x_ 3 (.bin .neq r_6 (i_ 1)),o_ (.pick r_3 T_ r_7),v_ r_8,x_ 9 (.fieldAddr 6 l_4),x_ 9 (.load1 eU),x_ 9 (.indexAddrS 7 fQ (i_ 0)),x_ 9 (.fieldAddr 0 gV),x_ 9 (.load1 jG),x_ 9 (.bin .neq mJ (i_ 1)),o_ (.pick r_9 T_ mN),v_ nP,x_ 17 (.fieldAddr 6 l_4),x_ 17 (.load1 tF),x_ 17 (.indexAddrS 7 wI (i_ 0)),x_ 17 (.fieldAddr 6 wJ),x_ 17 (.load1 wK),x_ 17 (.len .sl yI),x_ 17 (.bin .neq yJ (i_ 1)),s_ 7 (.pick pE T_ aBr)])
(.cond l_7
(h_ [w_ 0 F_]
.ret)
.skip))
(h_ [f_ 6 l_4,d_ r_0,o_ (.indexAddrS 7 r_1 (i_ 0)),f_ 6 r_2,d_ r_3,o_ (.indexAddrS 7 r_4 (i_ 0)),o_ (.loadN 7 r_5),o_ (.allocL 5 [(.int .i64 0),(.int .i64 0),(.int .i64 0),(.int .i64 0),(.int .i64 0),(.sl .nil []),(.sl .nil [])]),o_ (.store 7 r_7 r_6)]
(.seq (.draw [0,1,2,3,4,5,6,7,8,9,10,11,12,13,14,15,16,17,18,19,20,21,22,23,24,25,26,27] [] [f_ 0 l_5,d_ r_0,o_ (.bin .eql r_1 (i_ 4)),v_ r_2,y_ 3 (.fieldAddr 5 l_5),y_ 3 (.load1 r_4),y_ 3 (.len .sl r_5),y_ 3 (.bin .eql r_6 (i_ 3)),o_ (.pick r_3 r_7 F_),v_ r_8,y_ 9 (.fieldAddr 5 l_5),y_ 9 (.load1 eU),y_ 9 (.indexAddrS 2 fQ (i_ 1)),y_ 9 (.loadN 2 gV),y_ 9 (.fieldAddr 1 l_4),y_ 9 (.load1 mJ),y_ 9 (.build [(.int .i64 0),(.int .i64 0)] [(0,1,(i_ 1)),(1,1,mN)]),y_ 9 (.eqAgg false [(0,.int),(1,.int)] jG nP),o_ (.pick r_9 pE F_),v_ tF,y_ 19 (.fieldAddr 5 l_5),y_ 19 (.load1 wJ),y_ 19 (.indexAddrS 2 wK (i_ 2)),y_ 19 (.loadN 2 yI),y_ 19 (.build [(.int .i64 0),(.int .i64 0)] [(0,1,(i_ 2))]),y_ 19 (.eqAgg false [(0,.int),(1,.int)] yJ aBr),o_ (.pick wI aCh F_),w_ 0 aFs])
.ret))))))))⟩
def a9:Ann:=⟨[0,1,2,3,4,5,6,7,8,9,10,14,19],[10,7,2,1],[],[],[(10,⟨[0,0,2,0,0,16,0,64,248,511,0,2047],[0,1,2,3,4,5,6,10],[(7,[1,5],[]),(8,[1],[]),(9,[],[]),(11,[],[])]⟩),(11,⟨[0,1,3,7,0,0,63,127,255],[0,1,2,3,4,5,6,7],[(8,[],[])]⟩),(12,⟨[0,1,3,7,0,0,32,96,224,0,512,0,2048,8191,16383,32767],[0,1,2,3,4,5,6,7,8,9,10,11,12,13],[(14,[],[15])]⟩)]⟩
def t9:bH:=⟨1,13,[.cell 2 5 true,.loc 3],
(h_ [o_ (.boxL 1 l_0),o_ (.allocL 2 [(.sl .nil []),(.int .i64 0),(.int .i64 0),(.int .i64 0),(.sl .nil [])]),w_ 3 (i_ 0)]
(.seq (.seq (g_ [o_ (.loadN 8 l_1),c_ 11 [r_0],w_ 4 r_1])
(h_ [v_ l_4,s_ 11 (.bin .neq r_0 (i_ 0))]
(.cond mK
(h_ [o_ (.build [(.sl .nil []),(.int .i64 0),(.int .i64 0),(.int .i64 0),(.sl .nil [])] []),v_ l_4,o_ (.store 5 l_2 r_0),w_ 3 r_1]
.ret)
.skip)))
(.seq (.seq (g_ [f_ 0 l_1,o_ (.loadN 5 r_0),s_ 12 (.call false false 19 [r_1])])
(.cond rT
(h_ [o_ (.build [(.sl .nil []),(.int .i64 0),(.int .i64 0),(.int .i64 0),(.sl .nil [])] []),o_ (.store 5 l_2 r_0),w_ 3 (i_ 2)]
.ret)
.skip))
(h_ [f_ 6 l_1,d_ r_0,o_ (.build [(.sl .nil []),(.int .i64 0)] [(1,1,r_1)]),o_ (.boxH 64 r_2),w_ 5 r_3]
(h_ [v_ l_5,v_ l_5,o_ (.call false false 21 [r_1]),o_ (.lit false [(.int .i64 0)] 1 [(0,r_2)]),o_ (.build [(.int .i64 0),(.int .i64 0),(.int .i64 0),(.int .i64 0),(.int .i64 0),(.sl .nil []),(.sl .nil [])] [(0,1,(i_ 7))]),o_ (.build [(.sl .nil []),(.bool false),(.bool false),(.sl .nil []),(.int .i64 0),(.int .i64 0),(.int .i64 0),(.int .i64 0),(.int .i64 0),(.sl .nil []),(.sl .nil [])] [(0,1,r_3),(2,1,T_),(4,7,r_4)]),o_ (.call false false 20 [r_0,r_5]),w_ 6 r_6]
(h_ [v_ l_5,v_ l_6,o_ (.call false false 22 [r_0,r_1]),v_ r_2,o_ (.extract 0 r_3),o_ (.extract 1 r_3),o_ (.allocL 7 [(.int .i64 0),(.int .i64 0),(.int .i64 0),(.int .i64 0),(.int .i64 0),(.int .i64 0),(.sl .nil []),(.sl .nil []),(.int .i64 0),(.int .i64 0),(.sl .nil []),(.bool false),(.sl .nil []),(.int .i64 0)]),o_ (.store 14 r_6 r_4),w_ 8 r_5]
(h_ [v_ l_5,o_ (.build [(.sl .nil []),(.bool false),(.bool false),(.sl .nil []),(.int .i64 0),(.int .i64 0),(.int .i64 0),(.int .i64 0),(.int .i64 0),(.sl .nil []),(.sl .nil [])] []),o_ (.call false false 20 [r_0,r_1]),w_ 9 r_2]
(.seq (.draw [0,1,2,3,4,5,6,10] [(7,[1,5],[]),(8,[1],[]),(9,[],[]),(11,[],[])] [v_ l_5,o_ (.loadN 14 l_7),o_ (.lit false [(.int .i64 0),(.int .i64 0),(.int .i64 0),(.int .i64 0),(.int .i64 0),(.int .i64 0),(.sl .nil []),(.sl .nil []),(.int .i64 0),(.int .i64 0),(.sl .nil []),(.bool false),(.sl .nil []),(.int .i64 0)] 1 [(0,r_1)]),v_ l_5,f_ 0 l_1,o_ (.loadN 5 r_4),v_ l_8,c_ 25 [r_6],o_ (.call false false 24 [r_3,r_5,r_7]),o_ (.call false false 23 [r_0,r_2,r_8]),s_ 10 (.allocH 46 [(.int .i64 0),(.int .i64 0),(.int .i64 0),(.int .i64 0),(.int .i64 0),(.sl .nil []),(.sl .nil [])]),o_ (.store 7 eU r_9)])
(.seq (.draw [0,1,2,3,4,5,6,7] [(8,[],[])] [v_ l_5,o_ (.nilCheck r_0),f_ 0 r_1,d_ r_2,v_ l_9,o_ (.loadN 7 iE),o_ (.indexAddrS 11 r_3 r_4),f_ 4 r_6,o_ (.store 7 r_7 r_5)])
(.seq (.draw [0,1,2,3,4,5,6,7,8,9,10,11,12,13] [(14,[],[15])] [v_ l_5,o_ (.nilCheck r_0),f_ 0 r_1,d_ r_2,v_ l_9,v_ l_5,o_ (.nilCheck r_5),f_ 1 r_6,d_ r_7,f_ 5 l_1,d_ r_9,f_ 7 l_1,d_ fQ,o_ (.build [(.sl .nil []),(.int .i64 0),(.int .i64 0),(.int .i64 0),(.sl .nil [])] [(0,1,r_3),(1,1,r_4),(2,1,r_8),(3,1,eU),(4,1,gV)]),o_ (.store 5 l_2 jG),w_ 3 (i_ 0)])
.ret))))))))))⟩
def a11:Ann:=⟨[0,1,2,4,5,18,20,21,22,23,33],[4,1],[],[],[]⟩
def t11L0:aP:=(.seq (g_ [s_ 9 (.bin .lss l_8 l_7)])
(.seq (.cond l_9
.skip
(.exit 0))
(.seq (.block 1
(h_ [o_ (.indexAddrS 5 l_6 l_8),o_ (.loadN 5 r_0),o_ (.allocL 3 [(.int .i64 0),(.int .i64 0),(.str []),(.sl .nil []),(.int .i64 0)]),o_ (.store 5 r_2 r_1)]
(h_ [o_ (.loadN 5 l_3),c_ 34 [r_0],o_ (.un .not r_1),v_ r_2,x_ 3 (.loadN 5 l_3),x_ 3 (.call true false 35 [r_4]),x_ 3 (.un .not r_5),s_ 10 (.pick r_3 T_ r_6)]
(.cond iE
(h_ [w_ 2 (i_ 2)]
.ret)
.skip))))
(g_ [o_ (.bin .add l_8 (i_ 1)),w_ 8 r_0]))))
def t11:bH:=⟨1,11,[.loc 2],
(h_ [o_ (.boxL 1 l_0),w_ 2 (i_ 0)]
(.seq (.seq (g_ [f_ 5 l_1,d_ r_0,o_ (.bin .lss r_1 (i_ 0)),v_ r_2,x_ 3 (.fieldAddr 5 l_1),x_ 3 (.load1 r_4),x_ 3 (.bin .gtr r_5 (i_ 20000)),o_ (.pick r_3 T_ r_6),v_ r_7,x_ 8 (.fieldAddr 6 l_1),x_ 8 (.load1 r_9),x_ 8 (.bin .lss eU (i_ 0)),s_ 5 (.pick r_8 T_ fQ)])
(.cond l_5
(h_ [w_ 2 (i_ 2)]
.ret)
.skip))
(.seq (.seq (g_ [f_ 7 l_1,s_ 6 (.load1 r_0),s_ 7 (.len .sl r_1),w_ 8 (i_ 0)])
(.block 0
(.loop t11L0)))
(h_ [o_ (.loadN 8 l_1),o_ (.mkMap),o_ (.mkMap),o_ (.mkMap),o_ (.build [(.int .i64 0),(.int .i64 0),(.sl .nil []),(.bool false),(.sl .nil []),(.int .i64 0),(.int .i64 0),(.sl .nil []),.nilm,.nilm,.nilm] [(0,8,r_0),(8,1,r_1),(9,1,r_2),(10,1,r_3)]),o_ (.boxH 89 r_4),w_ 4 r_5]
(h_ [v_ l_4,f_ 0 l_1,o_ (.loadN 5 r_1),o_ (.call false false 36 [r_0,r_2,(i_ 0)]),w_ 2 r_3]
.ret)))))⟩
def a13:Ann:=⟨[0,1,2,4,5,8,17],[2],[],[],[]⟩
def t13L0:aP:=(.seq (.seq (g_ [v_ l_4,f_ 4 l_2,d_ r_1,o_ (.len .sl r_2),s_ 6 (.bin .lss r_0 r_3)])
(.cond l_6
.skip
(.exit 0)))
(.seq (.block 1
(g_ [f_ 4 l_2,d_ r_0,v_ l_4,o_ (.indexAddrS 5 r_1 r_2),o_ (.loadN 5 r_3),v_ l_1,o_ (.call false false 13 [r_4,r_5]),w_ 1 r_6]))
(g_ [v_ l_4,o_ (.bin .add r_0 (i_ 1)),w_ 4 r_1])))
def t13:bH:=⟨2,7,[.loc 3],
(h_ [o_ (.boxL 2 l_0),w_ 3 N_]
(.seq (.seq (g_ [f_ 0 l_2,d_ r_0,s_ 5 (.bin .eql r_1 (i_ 7))])
(.cond l_5
(g_ [v_ l_1,o_ (.loadN 5 l_2),o_ (.lit false [(.int .i64 0),(.int .i64 0),(.sl .nil []),(.bool false),(.sl .nil [])] 1 [(0,r_1)]),o_ (.append false 5 72 25 r_0 r_2),w_ 1 r_3])
.skip))
(.seq (.seq (g_ [w_ 4 (i_ 0)])
(.block 0
(.loop t13L0)))
(h_ [v_ l_1,w_ 3 r_0]
.ret))))⟩
def a14:Ann:=⟨[0,1,4,5,9,17],[],[],[],[]⟩
def t14L0:aP:=(.seq (.seq (g_ [v_ l_3,v_ l_0,o_ (.len .sl r_1),s_ 4 (.bin .lss r_0 r_2)])
(.cond l_4
.skip
(.exit 0)))
(.seq (.block 1
(h_ [v_ l_0,v_ l_3,o_ (.indexAddrS 1 r_0 r_1),d_ r_2,v_ l_1,s_ 5 (.bin .eql r_3 r_4)]
(.cond l_5
(h_ [w_ 2 T_]
.ret)
.skip)))
(g_ [v_ l_3,o_ (.bin .add r_0 (i_ 1)),w_ 3 r_1])))
def t14:bH:=⟨2,6,[.loc 2],
(h_ [w_ 2 F_]
(.seq (.seq (g_ [w_ 3 (i_ 0)])
(.block 0
(.loop t14L0)))
(h_ [w_ 2 F_]
.ret)))⟩
def a15:Ann:=⟨[0,1,4,5,10,14,25],[],[],[],[(6,⟨[0,0,3,7,0,0,48,112,255],[0,1,2,3,4,5,6,7,8],[]⟩)]⟩
def t15L0:aP:=(.seq (.seq (g_ [v_ l_3,v_ l_0,o_ (.len .sl r_1),s_ 5 (.bin .lss r_0 r_2)])
(.cond l_5
.skip
(.exit 0)))
(.seq (.block 1
(.seq (.draw [0,1,2,3,4,5,6,7,8] [] [v_ l_0,v_ l_3,o_ (.indexAddrS 1 r_0 r_1),d_ r_2,v_ l_1,v_ l_3,o_ (.indexAddrS 1 r_4 r_5),d_ r_6,s_ 6 (.bin .neq r_3 r_7)])
(.cond l_6
(h_ [w_ 2 F_]
.ret)
.skip)))
(g_ [v_ l_3,o_ (.bin .add r_0 (i_ 1)),w_ 3 r_1])))
def t15:bH:=⟨2,7,[.loc 2],
(h_ [w_ 2 F_]
(.seq (.seq (g_ [v_ l_0,o_ (.len .sl r_0),v_ l_1,o_ (.len .sl r_2),s_ 4 (.bin .neq r_1 r_3)])
(.cond l_4
(h_ [w_ 2 F_]
.ret)
.skip))
(.seq (.seq (g_ [w_ 3 (i_ 0)])
(.block 0
(.loop t15L0)))
(h_ [w_ 2 T_]
.ret))))⟩
def a16:Ann:=⟨[0,1,2,4,6,7,8,16,26],[4],[],[],[]⟩
def t16L0:aP:=(.seq (.seq (g_ [v_ l_6,f_ 0 l_3,d_ r_1,o_ (.len .sl r_2),s_ 7 (.bin .lss r_0 r_3)])
(.cond l_7
.skip
(.exit 0)))
(.seq (.block 1
(.seq (.seq (g_ [v_ l_0,f_ 0 l_3,d_ r_1,v_ l_6,o_ (.indexAddrS 1 r_2 r_3),d_ r_4,o_ (.call false false 38 [r_0,r_5]),s_ 8 (.un .not r_6)])
(.cond l_8
(h_ [w_ 4 F_]
.ret)
.skip))
(g_ [v_ l_5,f_ 0 l_3,d_ r_1,v_ l_6,o_ (.indexAddrS 1 r_2 r_3),d_ r_4,o_ (.lit false [(.int .i64 0)] 1 [(0,r_5)]),o_ (.append false 1 8 3 r_0 r_6),w_ 5 r_7])))
(g_ [v_ l_6,o_ (.bin .add r_0 (i_ 1)),w_ 6 r_1])))
def t16:bH:=⟨3,9,[.loc 4],
(h_ [o_ (.boxL 3 l_1),w_ 4 F_]
(h_ [o_ (.lit false [(.int .i64 0)] 0 []),v_ l_2,o_ (.append false 1 8 3 r_0 r_1),w_ 5 r_2]
(.seq (.seq (g_ [w_ 6 (i_ 0)])
(.block 0
(.loop t16L0)))
(h_ [f_ 1 l_3,d_ r_0,o_ (.un .not r_1),v_ r_2,x_ 3 (.fieldAddr 0 l_3),x_ 3 (.load1 r_4),x_ 3 (.len .sl r_5),x_ 3 (.bin .gtr r_6 (i_ 0)),o_ (.pick r_3 T_ r_7),v_ r_8,y_ 9 (.fieldAddr 3 l_3),y_ 9 (.load1 eU),y_ 9 (.len .sl fQ),y_ 9 (.bin .eql gV (i_ 0)),o_ (.pick r_9 jG F_),v_ mJ,y_ 15 (.mov l_0),y_ 15 (.fieldAddr 4 l_3),y_ 15 (.loadN 7 pE),y_ 15 (.mov l_5),y_ 15 (.call false false 39 [nP,tF,wI]),o_ (.pick mN wJ F_),w_ 4 wK]
.ret))))⟩
def a17:Ann:=⟨[0,1,2,3],[1],[],[],[]⟩
def t17:bH:=⟨1,4,[.loc 2],
(h_ [o_ (.boxL 1 l_0),w_ 2 N_]
(h_ [o_ (.mkMap),s_ 3 (.allocH 87 [.nilm]),o_ (.store 1 r_1 r_0)]
(h_ [o_ (.loadN 5 l_1),o_ (.mkFn 41 [] [l_3]),o_ (.call false false 40 [r_0,r_1])]
(h_ [d_ l_3,o_ (.prim 42 [r_0]),w_ 2 r_1]
.ret))))⟩
def a18:Ann:=⟨[0,1,2,4,5,11,20],[2],[],[],[]⟩
def t18L0:aP:=(.seq (.seq (g_ [v_ l_4,f_ 4 l_2,d_ r_1,o_ (.len .sl r_2),o_ (.bin .lss r_0 r_3),v_ r_4,y_ 5 (.mov l_1),y_ 5 (.bin .gtr r_6 (i_ 0)),s_ 6 (.pick r_5 r_7 F_)])
(.cond l_6
.skip
(.exit 0)))
(.seq (.block 1
(g_ [f_ 4 l_2,d_ r_0,v_ l_4,o_ (.indexAddrS 5 r_1 r_2),o_ (.loadN 5 r_3),v_ l_1,o_ (.call false false 18 [r_4,r_5]),w_ 1 r_6]))
(g_ [v_ l_4,o_ (.bin .add r_0 (i_ 1)),w_ 4 r_1])))
def t18:bH:=⟨2,7,[.loc 3],
(h_ [o_ (.boxL 2 l_0),w_ 3 (i_ 0)]
(h_ [v_ l_1,o_ (.bin .sub r_0 (i_ 1)),w_ 1 r_1]
(.seq (.seq (g_ [f_ 2 l_2,d_ r_0,o_ (.len .sl r_1),s_ 5 (.bin .gtr r_2 (i_ 100))])
(.cond l_5
(h_ [w_ 3 (i_ 0)]
.ret)
.skip))
(.seq (.seq (g_ [w_ 4 (i_ 0)])
(.block 0
(.loop t18L0)))
(h_ [v_ l_1,w_ 3 r_0]
.ret)))))⟩
def a19:Ann:=⟨[0,1,2],[1],[],[],[]⟩
def t19:bH:=⟨1,3,[.loc 2],
(h_ [o_ (.boxL 1 l_0),w_ 2 F_]
(h_ [f_ 0 l_1,d_ r_0,o_ (.bin .eql r_1 (i_ 4)),v_ r_2,x_ 3 (.fieldAddr 4 l_1),x_ 3 (.load1 r_4),x_ 3 (.call false false 43 [r_5,(.fn 19)]),o_ (.pick r_3 T_ r_6),w_ 2 r_7]
.ret))⟩
def a20:Ann:=⟨[0,1,3,4],[3],[(1,7)],[],[(1,⟨[0,0,2,6,14,0,32,126,255,511,1023],[0,1,2,3,4,5,6],[(7,[],[8,9]),(10,[],[])]⟩)]⟩
def t20:bH:=⟨2,4,[.loc 3],
(h_ [o_ (.boxL 2 l_1),w_ 3 (i_ 0)]
(.seq (.draw [0,1,2,3,4,5,6] [(7,[],[8,9]),(10,[],[])] [v_ l_0,v_ l_0,o_ (.nilCheck r_1),f_ 0 r_2,d_ r_3,o_ (.loadN 11 l_2),o_ (.lit false [(.sl .nil []),(.bool false),(.bool false),(.sl .nil []),(.int .i64 0),(.int .i64 0),(.int .i64 0),(.int .i64 0),(.int .i64 0),(.sl .nil []),(.sl .nil [])] 1 [(0,r_5)]),o_ (.append true 11 144 47 r_4 r_6),o_ (.nilCheck r_0),f_ 0 r_8,o_ (.store 1 r_9 r_7)])
(h_ [v_ l_0,o_ (.nilCheck r_0),f_ 0 r_1,d_ r_2,o_ (.len .sl r_3),o_ (.bin .sub r_4 (i_ 1)),w_ 3 r_5]
.ret)))⟩
def a21:Ann:=⟨[0,2],[],[],[],[]⟩
def t21:bH:=⟨1,2,[.loc 1],
(h_ [w_ 1 (i_ 0)]
(h_ [v_ l_0,o_ (.nilCheck r_0),f_ 1 r_1,d_ r_2,o_ (.bin .add r_3 (i_ 1)),o_ (.nilCheck r_0),f_ 1 r_5,o_ (.store 1 r_6 r_4)]
(h_ [v_ l_0,o_ (.nilCheck r_0),f_ 1 r_1,d_ r_2,o_ (.bin .sub r_3 (i_ 1)),w_ 1 r_4]
.ret)))⟩
def a22:Ann:=⟨[0,1,4,5,6],[4],[],[],[]⟩
def t22:bH:=⟨2,5,[.cell 2 14 true,.loc 3],
(h_ [o_ (.allocL 2 [(.int .i64 0),(.int .i64 0),(.int .i64 0),(.int .i64 0),(.int .i64 0),(.int .i64 0),(.sl .nil []),(.sl .nil []),(.int .i64 0),(.int .i64 0),(.sl .nil []),(.bool false),(.sl .nil []),(.int .i64 0)]),w_ 3 (i_ 0)]
(h_ [v_ l_0,o_ (.call false false 21 [r_0]),w_ 4 r_1]
(h_ [v_ l_4,v_ l_1,o_ (.build [(.int .i64 0),(.int .i64 0),(.int .i64 0),(.int .i64 0),(.int .i64 0),(.sl .nil []),(.sl .nil [])] [(0,1,(i_ 2)),(1,1,r_0),(4,1,r_1)]),v_ l_4,o_ (.build [(.int .i64 0),(.int .i64 0),(.int .i64 0),(.int .i64 0),(.int .i64 0),(.int .i64 0),(.sl .nil []),(.sl .nil []),(.int .i64 0),(.int .i64 0),(.sl .nil []),(.bool false),(.sl .nil []),(.int .i64 0)] [(1,7,r_2),(13,1,r_3)]),v_ l_4,o_ (.store 14 l_2 r_4),w_ 3 r_5]
.ret)))⟩
def a23:Ann:=⟨[0,1,2,3,5,6,8,9,10,11,12,14,15,16,19],[6],[],[],[(9,⟨[0,0,2,0,8,31,63,127,255,511],[0,1,2,3],[(4,[0,2],[]),(5,[],[6,7,8]),(9,[],[])]⟩)]⟩
def t23:bH:=⟨3,15,[.cell 5 7 true],
(h_ [s_ 3 (.boxH 62 l_0),s_ 4 (.boxH 46 l_2),o_ (.allocL 5 [(.int .i64 0),(.int .i64 0),(.int .i64 0),(.int .i64 0),(.int .i64 0),(.sl .nil []),(.sl .nil [])])]
(.seq (.seq (g_ [v_ l_1,s_ 11 (.call false false 44 [r_0])])
(.block 0
(.rangeFunc mK [12,13]
(g_ [s_ 6 (.allocH 68 [(.int .i64 0),(.int .i64 0),(.int .i64 0),(.int .i64 0),(.int .i64 0),(.int .i64 0),(.sl .nil []),(.sl .nil []),(.int .i64 0),(.int .i64 0),(.sl .nil []),(.bool false),(.sl .nil []),(.int .i64 0)]),o_ (.store 14 r_0 mL)])
(.block 1
(.seq (.seq (g_ [f_ 0 l_6,d_ r_0,s_ 14 (.bin .eql r_1 (i_ 0))])
(.cond qZ
(h_ [f_ 1 l_6,o_ (.loadN 7 r_0),s_ 7 (.allocH 46 [(.int .i64 0),(.int .i64 0),(.int .i64 0),(.int .i64 0),(.int .i64 0),(.sl .nil []),(.sl .nil [])]),o_ (.store 7 r_2 r_1)]
(h_ [o_ (.loadN 7 l_4),o_ (.lit false [(.int .i64 0),(.int .i64 0),(.int .i64 0),(.int .i64 0),(.int .i64 0),(.sl .nil []),(.sl .nil [])] 1 [(0,r_0)]),f_ 6 l_7,o_ (.store 1 r_2 r_1)]
(h_ [o_ (.loadN 7 l_7),o_ (.store 7 l_4 r_0)]
(.exit 1))))
.skip))
(h_ [d_ l_3,f_ 13 l_6,d_ r_1,o_ (.lit false [(.int .i64 0)] 1 [(0,r_2)]),o_ (.loadN 7 l_4),o_ (.build [(.sl .nil []),(.bool false),(.bool false),(.sl .nil []),(.int .i64 0),(.int .i64 0),(.int .i64 0),(.int .i64 0),(.int .i64 0),(.sl .nil []),(.sl .nil [])] [(0,1,r_3),(2,1,T_),(4,7,r_4)]),o_ (.call false false 20 [r_0,r_5]),w_ 8 r_6]
(h_ [d_ l_3,v_ l_8,o_ (.call false false 22 [r_0,r_1]),v_ r_2,o_ (.extract 0 r_3),o_ (.extract 1 r_3),s_ 9 (.allocH 68 [(.int .i64 0),(.int .i64 0),(.int .i64 0),(.int .i64 0),(.int .i64 0),(.int .i64 0),(.sl .nil []),(.sl .nil []),(.int .i64 0),(.int .i64 0),(.sl .nil []),(.bool false),(.sl .nil []),(.int .i64 0)]),o_ (.store 14 r_6 r_4),w_ 10 r_5]
(.seq (.draw [0,1,2,3] [(4,[0,2],[]),(5,[],[6,7,8]),(9,[],[])] [d_ l_3,f_ 8 l_6,o_ (.loadN 5 r_1),v_ iE,c_ 25 [r_3],o_ (.call false false 24 [r_0,r_2,r_4]),o_ (.lit false [(.int .i64 0),(.int .i64 0),(.int .i64 0),(.int .i64 0),(.int .i64 0),(.sl .nil []),(.sl .nil [])] 1 [(0,r_5)]),f_ 1 l_9,f_ 6 r_7,o_ (.store 1 r_8 r_6)])
(g_ [f_ 1 l_9,o_ (.loadN 7 r_0),o_ (.store 7 l_4 r_1)])))))))))
(h_ [o_ (.loadN 7 l_4),o_ (.store 7 l_5 r_0)]
.ret)))⟩
def a24:Ann:=⟨[0,1,2,4,5,6,7,8,9,10,11,12,13,15,16,37,70,77],[13,10,6,5,4],[],[],[(4,⟨[0,0,0,4,0,16,0,64,252,508,1020,2047,4095],[0,1,2,3,4,5,6,7,8],[(9,[],[]),(10,[],[]),(11,[],[]),(12,[],[])]⟩),(7,⟨[0,0,2,6,14,0,63,0,0,256,768,1792,0,8191,16383,32767],[0,1,2,3,4,5,7,8,9,10,11,12],[(6,[9,11,12],[]),(13,[],[14,15])]⟩)]⟩
def t24:bH:=⟨3,18,[.cell 5 7 true],
(h_ [o_ (.boxL 3 l_1),o_ (.boxL 4 l_2),o_ (.allocL 5 [(.int .i64 0),(.int .i64 0),(.int .i64 0),(.int .i64 0),(.int .i64 0),(.sl .nil []),(.sl .nil [])])]
(.seq (.seq (g_ [f_ 0 l_3,s_ 13 (.load1 r_0)])
(.block 0
(h_ [o_ (.bin .eql mL (i_ 8)),w_ 14 r_0]
(.cond qZ
(h_ [v_ l_0,f_ 4 l_3,d_ r_1,o_ (.call false false 45 [r_0,r_2]),v_ r_3,o_ (.extract 0 r_4),o_ (.extract 1 r_4),w_ 6 r_5,w_ 7 r_6]
(.seq (.draw [0,1,2,3,4,5,6,7,8] [(9,[],[]),(10,[],[]),(11,[],[]),(12,[],[])] [v_ l_0,v_ l_6,v_ l_7,o_ (.slice (.sl 2) r_2 none (some (i_ 1)) none),o_ (.loadN 2 l_4),o_ (.lit false [(.int .i64 0),(.int .i64 0)] 1 [(0,r_4)]),v_ l_7,o_ (.slice (.sl 2) r_6 (some (i_ 1)) none none),o_ (.lit false [(.sl .nil [])] 3 [(0,r_3),(1,r_5),(2,r_7)]),o_ (.call false false 47 [r_8]),o_ (.call false false 46 [r_9]),o_ (.call false false 23 [r_0,r_1,eU]),o_ (.store 7 l_5 fQ)])
.ret))
(h_ [o_ (.bin .eql mL (i_ 6)),w_ 15 r_0]
(.cond aCi
(h_ [v_ l_0,f_ 4 l_3,d_ r_1,o_ (.indexAddrS 5 r_2 (i_ 0)),o_ (.loadN 5 r_3),o_ (.call false false 48 [r_0,r_4]),v_ r_5,o_ (.extract 0 r_6),o_ (.extract 1 r_6),o_ (.allocL 9 [(.int .i64 0),(.int .i64 0)]),w_ 8 r_7,o_ (.store 2 r_9 r_8)]
(.seq (.draw [0,1,2,3,4,5,7,8,9,10,11,12] [(6,[9,11,12],[]),(13,[],[14,15])] [v_ l_0,f_ 4 l_3,d_ r_1,o_ (.indexAddrS 5 r_2 (i_ 1)),o_ (.loadN 5 r_3),o_ (.loadN 2 l_4),o_ (.call false false 24 [r_0,r_4,r_5]),v_ l_0,f_ 4 l_3,d_ r_8,o_ (.indexAddrS 5 r_9 (i_ 2)),o_ (.loadN 5 eU),o_ (.loadN 2 l_4),o_ (.call false false 24 [r_7,fQ,gV]),o_ (.lit false [(.int .i64 0),(.int .i64 0),(.int .i64 0),(.int .i64 0),(.int .i64 0),(.sl .nil []),(.sl .nil [])] 2 [(0,r_6),(1,jG)]),w_ 10 mJ])
(h_ [v_ l_0,v_ l_8,o_ (.loadN 2 l_9),o_ (.lit false [(.int .i64 0),(.int .i64 0)] 1 [(0,r_2)]),v_ iE,o_ (.build [(.int .i64 0),(.int .i64 0),(.int .i64 0),(.int .i64 0),(.int .i64 0),(.sl .nil []),(.sl .nil [])] [(0,1,(i_ 3)),(5,1,r_3),(6,1,r_4)]),o_ (.call false false 23 [r_0,r_1,r_5]),o_ (.store 7 l_5 r_6)]
.ret)))
(h_ [o_ (.bin .eql mL (i_ 10)),w_ 16 r_0]
(.cond aIy
(h_ [v_ l_0,f_ 4 l_3,d_ r_1,o_ (.loadN 2 l_4),o_ (.call false false 49 [r_0,r_2,r_3]),o_ (.store 7 l_5 r_4)]
.ret)
(h_ [o_ (.bin .eql mL (i_ 11)),w_ 17 r_0]
(.cond aIz
(h_ [v_ l_0,o_ (.loadN 5 l_3),o_ (.loadN 2 l_4),o_ (.call false false 50 [r_0,r_1,r_2]),o_ (.store 7 l_5 r_3)]
.ret)
.skip))))))))))
(h_ [v_ l_0,o_ (.loadN 5 l_3),o_ (.call false false 48 [r_0,r_1]),v_ r_2,o_ (.extract 0 r_3),o_ (.extract 1 r_3),o_ (.allocL 12 [(.int .i64 0),(.int .i64 0)]),w_ 11 r_4,o_ (.store 2 r_6 r_5)]
(h_ [v_ l_0,v_ mK,o_ (.loadN 2 l_4),o_ (.loadN 2 rT),o_ (.lit false [(.int .i64 0),(.int .i64 0)] 2 [(0,r_2),(1,r_3)]),o_ (.call false false 46 [r_4]),o_ (.call false false 23 [r_0,r_1,r_5]),o_ (.store 7 l_5 r_6)]
.ret))))⟩
def a25:Ann:=⟨[0,2],[2],[],[],[]⟩
def t25:bH:=⟨1,2,[.cell 1 2 true],
(h_ [o_ (.allocL 1 [(.int .i64 0),(.int .i64 0)])]
(h_ [v_ l_0,o_ (.build [(.int .i64 0),(.int .i64 0)] [(0,1,(i_ 1)),(1,1,r_0)]),o_ (.store 2 l_1 r_1)]
.ret))⟩
def a34:Ann:=⟨[0,1,2,4,10,17],[1],[],[],[]⟩
def t34L0:aP:=(.seq (.seq (g_ [o_ (.loadN 5 l_1),s_ 3 (.call false false 56 [r_0])])
(.cond l_3
.skip
(.exit 0)))
(.block 1
(.seq (.seq (g_ [f_ 3 l_1,d_ r_0,o_ (.indexAddrS 5 r_1 (i_ 0)),o_ (.loadN 5 r_2),c_ 34 [r_3],s_ 4 (.un .not r_4)])
(.cond l_4
(h_ [w_ 2 F_]
.ret)
.skip))
(g_ [f_ 3 l_1,d_ r_0,o_ (.indexAddrS 5 r_1 (i_ 1)),o_ (.loadN 5 r_2),o_ (.store 5 l_1 r_3)]))))
def t34:bH:=⟨1,6,[.loc 2],
(h_ [o_ (.boxL 1 l_0),w_ 2 F_]
(.seq (.block 0
(.loop t34L0))
(.seq (.seq (g_ [f_ 0 l_1,d_ r_0,s_ 5 (.bin .eql r_1 (i_ 7))])
(.cond l_5
(h_ [f_ 3 l_1,d_ r_0,o_ (.call false false 57 [r_1,(.fn 58)]),o_ (.un .not r_2),w_ 2 r_3]
.ret)
.skip))
(h_ [f_ 3 l_1,d_ r_0,o_ (.len .sl r_1),o_ (.bin .eql r_2 (i_ 0)),v_ r_3,y_ 4 (.loadN 5 l_1),y_ 4 (.call true false 59 [r_5]),o_ (.pick r_4 r_6 F_),w_ 2 r_7]
.ret))))⟩
def a35:Ann:=⟨[0,1,2,11,17,29],[1],[],[],[]⟩
def t35L0:aP:=(.seq (.seq (g_ [f_ 0 l_1,d_ r_0,o_ (.bin .eql r_1 (i_ 6)),v_ r_2,y_ 3 (.fieldAddr 3 l_1),y_ 3 (.load1 r_4),y_ 3 (.len .sl r_5),y_ 3 (.bin .eql r_6 (i_ 2)),s_ 3 (.pick r_3 r_7 F_)])
(.cond l_3
.skip
(.exit 0)))
(.block 1
(.seq (.seq (g_ [f_ 3 l_1,d_ r_0,o_ (.indexAddrS 5 r_1 (i_ 0)),o_ (.loadN 5 r_2),c_ 35 [r_3],s_ 4 (.un .not r_4)])
(.cond l_4
(h_ [w_ 2 F_]
.ret)
.skip))
(g_ [f_ 3 l_1,d_ r_0,o_ (.indexAddrS 5 r_1 (i_ 1)),o_ (.loadN 5 r_2),o_ (.store 5 l_1 r_3)]))))
def t35:bH:=⟨1,6,[.loc 2],
(h_ [o_ (.boxL 1 l_0),w_ 2 F_]
(.seq (.block 0
(.loop t35L0))
(.seq (.seq (g_ [f_ 0 l_1,d_ r_0,o_ (.bin .eql r_1 (i_ 5)),v_ r_2,y_ 3 (.fieldAddr 1 l_1),y_ 3 (.load1 r_4),y_ 3 (.bin .neq r_5 (i_ 0)),s_ 5 (.pick r_3 r_6 F_)])
(.cond l_5
(h_ [w_ 2 F_]
.ret)
.skip))
(h_ [f_ 3 l_1,d_ r_0,o_ (.call false false 57 [r_1,(.fn 60)]),o_ (.un .not r_2),w_ 2 r_3]
.ret))))⟩
def a36:Ann:=⟨[0,1,2,4,6,8,10,11,13,14,17,23,24,25,26,36,52,61,87,89,90,91,92,101,105,106,107,108],[10,4],[],[],[(14,⟨[0,1,3,7,0,16,63,127,255],[0,1,2,3,4,5,6,7,8],[]⟩),(16,⟨[0,1,3,7,0,16,0,127],[0,1,2,3,4,5,6],[(7,[],[])]⟩),(17,⟨[0,1,3,7,15,31,63,127,255,511,1023,2047,4095,511,8703,32767,65535,131071,262143],[0,1,2,3,4,5,6,7,8,9,10,11,12,13,14,15,16,17,18],[]⟩)]⟩
def t36L0:aP:=(.seq (g_ [s_ 27 (.bin .lss bGk bJf)])
(.seq (.cond bJg
.skip
(.exit 5))
(.seq (.block 6
(h_ [o_ (.indexAddrS 1 bJe bGk),d_ r_0,w_ 8 r_1]
(g_ [v_ l_0,o_ (.nilCheck r_0),f_ 10 r_1,d_ r_2,v_ l_8,o_ (.build [(.int .i64 0)] []),o_ (.update (.leaf .int) r_3 r_4 r_5)])))
(g_ [o_ (.bin .add bGk (i_ 1)),w_ 26 r_0]))))
def t36L1:aP:=(.seq (g_ [s_ 22 (.bin .lss bGj bDa)])
(.seq (.cond bJc
.skip
(.exit 3))
(.seq (.block 4
(h_ [o_ (.indexAddrS 5 aSe bGj),o_ (.loadN 5 r_0),o_ (.allocL 6 [(.int .i64 0),(.int .i64 0),(.sl .nil []),(.bool false),(.sl .nil [])]),o_ (.store 5 r_2 r_1)]
(h_ [v_ l_0,o_ (.loadN 5 l_6),v_ l_2,o_ (.bin .add r_2 (i_ 1)),o_ (.call false false 36 [r_0,r_1,r_3]),w_ 7 r_4]
(h_ [v_ l_7,s_ 23 (.bin .neq r_0 (i_ 0))]
(.cond bJd
(h_ [v_ l_7,w_ 4 r_0]
.ret)
.skip)))))
(g_ [o_ (.bin .add bGj (i_ 1)),w_ 21 r_0]))))
def t36L2:aP:=(.seq (g_ [s_ 14 (.bin .lss mL rT)])
(.seq (.cond qZ
.skip
(.exit 1))
(.seq (.block 2
(h_ [o_ (.indexAddrS 1 mK mL),d_ r_0,w_ 5 r_1]
(.seq (.seq (g_ [v_ l_0,o_ (.nilCheck r_0),f_ 8 r_1,d_ r_2,v_ l_5,o_ (.lookup (.leaf .int) (.agg [(.int .i64 0)]) false r_3 r_4),o_ (.field 0 1 false r_5),s_ 15 (.bin .gtr r_6 (i_ 0))])
(.cond aCi
(h_ [w_ 4 (i_ 14)]
.ret)
.skip))
(h_ [v_ l_0,o_ (.nilCheck r_0),f_ 8 r_1,d_ r_2,v_ l_5,o_ (.build [(.int .i64 0)] [(0,1,(i_ 1))]),o_ (.update (.leaf .int) r_3 r_4 r_5)]
(g_ [v_ l_0,o_ (.nilCheck r_0),f_ 10 r_1,d_ r_2,v_ l_5,o_ (.build [(.int .i64 0)] [(0,1,(i_ 1))]),o_ (.update (.leaf .int) r_3 r_4 r_5)])))))
(g_ [o_ (.bin .add mL (i_ 1)),w_ 13 r_0]))))
def t36:bH:=⟨3,28,[.loc 4],
(h_ [o_ (.boxL 3 l_1),w_ 4 (i_ 0)]
(.seq (.block 0
(h_ [v_ l_2,o_ (.bin .geq r_0 (i_ 4000)),w_ 9 r_1]
(.cond l_9
(h_ [w_ 4 (i_ 5)]
.ret)
(h_ [v_ l_0,o_ (.loadN 5 l_3),o_ (.call false false 61 [r_0,r_1]),o_ (.un .not r_2),w_ 10 r_3]
(.cond iE
(h_ [w_ 4 (i_ 4)]
.ret)
.skip)))))
(.seq (.seq (g_ [f_ 2 l_3,s_ 11 (.load1 r_0),s_ 12 (.len .sl r_1),w_ 13 (i_ 0)])
(.block 1
(.loop t36L2)))
(.seq (.seq (g_ [f_ 0 l_3,d_ r_0,s_ 16 (.bin .eql r_1 (i_ 1))])
(.cond aIy
(.seq (.seq (.draw [0,1,2,3,4,5,6,7,8] [] [v_ l_0,o_ (.nilCheck r_0),f_ 9 r_1,d_ r_2,f_ 1 l_3,d_ r_4,o_ (.lookup (.leaf .int) (.agg [(.int .i64 0)]) false r_3 r_5),o_ (.field 0 1 false r_6),s_ 17 (.bin .gtr r_7 (i_ 0))])
(.cond aIz
(h_ [w_ 4 (i_ 14)]
.ret)
.skip))
(.draw [0,1,2,3,4,5,6] [(7,[],[])] [v_ l_0,o_ (.nilCheck r_0),f_ 9 r_1,d_ r_2,f_ 1 l_3,d_ r_4,o_ (.build [(.int .i64 0)] [(0,1,(i_ 1))]),o_ (.update (.leaf .int) r_3 r_5 r_6)]))
.skip))
(.seq (.seq (.draw [0,1,2,3,4,5,6,7,8,9,10,11,12,13,14,15,16,17,18] [] [f_ 0 l_3,d_ r_0,o_ (.bin .eql r_1 (i_ 2)),v_ r_2,x_ 3 (.fieldAddr 0 l_3),x_ 3 (.load1 r_4),x_ 3 (.bin .eql r_5 (i_ 4)),o_ (.pick r_3 T_ r_6),v_ r_7,y_ 8 (.mov l_0),y_ 8 (.nilCheck r_9),y_ 8 (.fieldAddr 10 eU),y_ 8 (.load1 fQ),y_ 8 (.fieldAddr 1 l_3),y_ 8 (.load1 jG),y_ 8 (.lookup (.leaf .int) (.agg [(.int .i64 0)]) false gV mJ),y_ 8 (.field 0 1 false mN),y_ 8 (.bin .eql nP (i_ 0)),s_ 18 (.pick r_8 pE F_)])
(.cond aY0
(h_ [w_ 4 (i_ 6)]
.ret)
.skip))
(.seq (.seq (g_ [f_ 4 l_3,s_ 19 (.load1 r_0),s_ 20 (.len .sl r_1),w_ 21 (i_ 0)])
(.block 3
(.loop t36L1)))
(.seq (.seq (g_ [f_ 2 l_3,s_ 24 (.load1 r_0),s_ 25 (.len .sl r_1),w_ 26 (i_ 0)])
(.block 5
(.loop t36L0)))
(h_ [w_ 4 (i_ 0)]
.ret))))))))⟩
def a38:Ann:=⟨[0,1,4,23],[],[],[],[]⟩
def t38:bH:=⟨2,4,[.loc 2],
(h_ [w_ 2 F_]
(.seq (.seq (g_ [v_ l_1,o_ (.bin .lss r_0 (i_ 0)),v_ r_1,x_ 2 (.mov l_1),x_ 2 (.mov l_0),x_ 2 (.nilCheck r_4),x_ 2 (.fieldAddr 0 r_5),x_ 2 (.fieldAddr 2 r_6),x_ 2 (.load1 r_7),x_ 2 (.bin .geq r_3 r_8),o_ (.pick r_2 T_ r_9),v_ eU,x_ 11 (.mov l_0),x_ 11 (.nilCheck gV),x_ 11 (.fieldAddr 5 jG),x_ 11 (.load1 mJ),x_ 11 (.mov l_1),x_ 11 (.call true false 14 [mN,nP]),s_ 3 (.pick fQ T_ pE)])
(.cond l_3
(h_ [w_ 2 F_]
.ret)
.skip))
(h_ [v_ l_0,v_ l_0,o_ (.nilCheck r_1),f_ 5 r_2,d_ r_3,v_ l_1,o_ (.lit false [(.int .i64 0)] 1 [(0,r_5)]),o_ (.append false 1 8 3 r_4 r_6),o_ (.nilCheck r_0),f_ 5 r_8,o_ (.store 1 r_9 r_7)]
(h_ [w_ 2 T_]
.ret))))⟩
def a39:Ann:=⟨[0,1,2,4,6,7,8,13,21,22,64,78,117,156,182,190],[4],[],[],[(3,⟨[0,1,3,0,8,24,7,127],[0,1,2,3,4,5,6,7],[]⟩),(6,⟨[0,1,3,7,7,23,55,127,255,511,1023,2047,4095,8191,16383,32767,65535,131071,262143,524287,1048575,2097151,4194303,8388607,16777215,8388607,41943039,109051903,243269631,511705087,1073741823,2147483647,4294967295,8589934591,17179869183,34359738367,34359738367,103079215103,274877906943,549755813887,1099511627775],[0,1,2,3,4,5],[(6,[],[7,8,9,10,11,12,13,14,15,16,17,18,19,20,21,22,23,24,25,26,27,28,29,30,31,32,33,34,35,36,37]),(38,[],[39,40])]⟩),(8,⟨[0,0,2,6,14,0,0,96,0,256,768,2016,4095,8191],[0,1,2,3,4,5,6,8,9,10],[(7,[2,4,9],[]),(11,[2,4],[]),(12,[],[13])]⟩),(10,⟨[0,1,3,7,15,31,63,127,255,511,1023,2047,4095,8191,4095,20479,53247,118783,249855,511999,1048575,2097151,4194303,8388607,16777215,33554431,67108863,8388607,142606335,536870911,1073741823,2147483647,4294967295,4294967295,12884901887,34359738367,68719476735,137438953471],[0,1,2,3,4,5,6,7,8,9,10,11,12,13,14,15,16,17,18,19,20,21,22,23,24,25,26,27,28],[(29,[],[30,31,32,33,34]),(35,[],[36,37])]⟩),(12,⟨[0,0,2,6,14,0,32,96,254,511,1023,2047],[0,1,2,3,4,5,6,7],[(8,[],[9,10]),(11,[],[])]⟩),(13,⟨[0,0,2,6,14,30,0,64,254,510,0,2047,4095,8191,8191,24575,57343,122879,8191,8191,794623,8191,2105343,6299647,16523263,33554431,67108863,134217727],[0,1,2,3,4,5,6,7,8,9,10],[(11,[],[12,13,14,15,16,17,18,19,21,22,23]),(20,[15,17,22],[]),(24,[15,17],[]),(25,[],[26,27])]⟩)]⟩
def t39:bH:=⟨3,16,[.loc 4],
(h_ [o_ (.boxL 3 l_1),w_ 4 F_]
(.seq (.seq (g_ [v_ l_0,o_ (.loadN 7 l_3),v_ l_2,o_ (.call false false 66 [r_0,r_1,r_2]),s_ 7 (.un .not r_3)])
(.cond l_7
(h_ [w_ 4 F_]
.ret)
.skip))
(.seq (.draw [0,1,2,3,4,5,6,7] [] [f_ 5 l_3,d_ r_0,o_ (.len .sl r_1),f_ 6 l_3,d_ r_3,o_ (.len .sl r_4),w_ 5 r_2,w_ 6 r_5])
(.seq (.seq (g_ [f_ 0 l_3,s_ 8 (.load1 r_0)])
(.block 0
(h_ [o_ (.bin .eql l_8 (i_ 1)),w_ 9 r_0]
(.cond l_9
(.seq (.seq (.draw [0,1,2,3,4,5] [(6,[],[7,8,9,10,11,12,13,14,15,16,17,18,19,20,21,22,23,24,25,26,27,28,29,30,31,32,33,34,35,36,37]),(38,[],[39,40])] [v_ l_6,o_ (.bin .neq r_0 (i_ 1)),v_ r_1,x_ 2 (.mov l_5),x_ 2 (.fieldAddr 2 l_3),x_ 2 (.load1 r_4),x_ 2 (.call true false 67 [r_5]),x_ 2 (.bin .neq r_3 r_6),o_ (.pick r_2 T_ r_7),v_ r_8,x_ 9 (.fieldAddr 2 l_3),x_ 9 (.load1 eU),x_ 9 (.bin .eql fQ (i_ 103)),x_ 9 (.mov gV),x_ 13 (.fieldAddr 2 l_3),x_ 13 (.load1 mJ),x_ 13 (.bin .eql mN (i_ 104)),x_ 9 (.pick jG T_ nP),x_ 9 (.mov pE),y_ 18 (.fieldAddr 3 l_3),y_ 18 (.load1 wI),y_ 18 (.bin .lss wJ (i_ 0)),y_ 18 (.mov wK),x_ 22 (.fieldAddr 3 l_3),x_ 22 (.load1 yJ),x_ 22 (.mov l_0),x_ 22 (.nilCheck aCh),x_ 22 (.fieldAddr 0 aFs),x_ 22 (.fieldAddr 3 aMc),x_ 22 (.load1 aMd),x_ 22 (.bin .geq aBr aMe),y_ 18 (.pick yI T_ aSd),x_ 9 (.pick tF aYu F_),o_ (.pick r_9 T_ aYv),v_ aYw,x_ 34 (.mov l_0),x_ 34 (.fieldAddr 1 l_3),x_ 34 (.load1 aYz),x_ 34 (.call false false 38 [aYy,bC7]),x_ 34 (.un .not bC8),s_ 10 (.pick aYx T_ bC9)])
(.cond iE
(h_ [w_ 4 F_]
.ret)
.skip))
(.seq (.draw [0,1,2,3,4,5,6,8,9,10] [(7,[2,4,9],[]),(11,[2,4],[]),(12,[],[13])] [v_ l_0,f_ 6 l_3,d_ r_1,o_ (.indexAddrS 7 r_2 (i_ 0)),o_ (.loadN 7 r_3),o_ (.lit false [(.int .i64 0)] 0 []),v_ l_2,o_ (.append false 1 8 3 r_5 r_6),f_ 1 l_3,d_ r_8,o_ (.lit false [(.int .i64 0)] 1 [(0,r_9)]),o_ (.append false 1 8 3 r_7 eU),o_ (.call false false 39 [r_0,r_4,fQ]),w_ 4 gV])
.ret))
(h_ [o_ (.bin .eql l_8 (i_ 2)),w_ 11 r_0]
(.cond mK
(.seq (.seq (.draw [0,1,2,3,4,5,6,7,8,9,10,11,12,13,14,15,16,17,18,19,20,21,22,23,24,25,26,27,28] [(29,[],[30,31,32,33,34]),(35,[],[36,37])] [v_ l_6,o_ (.bin .neq r_0 (i_ 1)),v_ r_1,x_ 2 (.mov l_5),x_ 2 (.bin .neq r_3 (i_ 0)),o_ (.pick r_2 T_ r_4),v_ r_5,x_ 6 (.fieldAddr 4 l_3),x_ 6 (.load1 r_7),x_ 6 (.bin .lss r_8 (i_ 0)),o_ (.pick r_6 T_ r_9),v_ eU,x_ 11 (.fieldAddr 4 l_3),x_ 11 (.load1 gV),x_ 11 (.mov l_0),x_ 11 (.nilCheck mJ),x_ 11 (.fieldAddr 0 mN),x_ 11 (.fieldAddr 0 nP),x_ 11 (.load1 pE),x_ 11 (.len .sl tF),x_ 11 (.bin .geq jG wI),o_ (.pick fQ T_ wJ),v_ wK,x_ 22 (.mov l_0),x_ 22 (.nilCheck yJ),x_ 22 (.fieldAddr 6 aBr),x_ 22 (.load1 aCh),x_ 22 (.fieldAddr 4 l_3),x_ 22 (.load1 aMc),x_ 22 (.call true false 14 [aFs,aMd]),o_ (.pick yI T_ aMe),v_ aSd,x_ 31 (.mov l_0),x_ 31 (.fieldAddr 1 l_3),x_ 31 (.load1 aYw),x_ 31 (.call false false 38 [aYv,aYx]),x_ 31 (.un .not aYy),s_ 12 (.pick aYu T_ aYz)])
(.cond rT
(h_ [w_ 4 F_]
.ret)
.skip))
(.seq (.draw [0,1,2,3,4,5,6,7] [(8,[],[9,10]),(11,[],[])] [v_ l_0,v_ l_0,o_ (.nilCheck r_1),f_ 6 r_2,d_ r_3,f_ 4 l_3,d_ r_5,o_ (.lit false [(.int .i64 0)] 1 [(0,r_6)]),o_ (.append false 1 8 3 r_4 r_7),o_ (.nilCheck r_0),f_ 6 r_9,o_ (.store 1 eU r_8)])
(.seq (.draw [0,1,2,3,4,5,6,7,8,9,10] [(11,[],[12,13,14,15,16,17,18,19,21,22,23]),(20,[15,17,22],[]),(24,[15,17],[]),(25,[],[26,27])] [v_ l_0,v_ l_0,o_ (.nilCheck r_1),f_ 0 r_2,f_ 0 r_3,d_ r_4,f_ 4 l_3,d_ r_6,o_ (.indexAddrS 11 r_5 r_7),o_ (.loadN 11 r_8),v_ l_2,o_ (.call false false 16 [r_0,r_9,eU]),v_ fQ,y_ 12 (.mov l_0),y_ 12 (.fieldAddr 6 l_3),y_ 12 (.load1 mJ),y_ 12 (.indexAddrS 7 mN (i_ 0)),y_ 12 (.loadN 7 nP),y_ 12 (.lit false [(.int .i64 0)] 0 []),y_ 12 (.mov l_2),y_ 12 (.append false 1 8 3 tF wI),y_ 12 (.fieldAddr 1 l_3),y_ 12 (.load1 wK),y_ 12 (.lit false [(.int .i64 0)] 1 [(0,yI)]),y_ 12 (.append false 1 8 3 wJ yJ),y_ 12 (.call false false 39 [jG,pE,aBr]),o_ (.pick gV aCh F_),w_ 4 aFs])
.ret)))
(h_ [o_ (.bin .eql l_8 (i_ 3)),w_ 13 r_0]
(.cond mL
(h_ [v_ l_5,o_ (.bin .eql r_0 (i_ 1)),v_ r_1,y_ 2 (.mov l_6),y_ 2 (.bin .eql r_3 (i_ 2)),o_ (.pick r_2 r_4 F_),v_ r_5,y_ 6 (.mov l_0),y_ 6 (.fieldAddr 6 l_3),y_ 6 (.load1 r_8),y_ 6 (.indexAddrS 7 r_9 (i_ 0)),y_ 6 (.loadN 7 eU),y_ 6 (.mov l_2),y_ 6 (.call false false 39 [r_7,fQ,gV]),o_ (.pick r_6 jG F_),v_ mJ,y_ 15 (.mov l_0),y_ 15 (.fieldAddr 6 l_3),y_ 15 (.load1 pE),y_ 15 (.indexAddrS 7 tF (i_ 1)),y_ 15 (.loadN 7 wI),y_ 15 (.mov l_2),y_ 15 (.call false false 39 [nP,wJ,wK]),o_ (.pick mN yI F_),w_ 4 yJ]
.ret)
(h_ [o_ (.bin .eql l_8 (i_ 4)),w_ 14 r_0]
(.cond qZ
(h_ [v_ l_5,o_ (.bin .geq r_0 (i_ 1)),v_ r_1,y_ 2 (.mov l_6),y_ 2 (.bin .eql r_3 (i_ 0)),o_ (.pick r_2 r_4 F_),w_ 4 r_5]
.ret)
(h_ [o_ (.bin .eql l_8 (i_ 6)),w_ 15 r_0]
(.cond aCi
(h_ [v_ l_5,o_ (.bin .geq r_0 (i_ 2)),v_ r_1,y_ 2 (.mov l_6),y_ 2 (.bin .eql r_3 (i_ 0)),o_ (.pick r_2 r_4 F_),w_ 4 r_5]
.ret)
.skip))))))))))))
(h_ [f_ 0 l_3,d_ r_0,o_ (.bin .eql r_1 (i_ 7)),v_ r_2,y_ 3 (.mov l_5),y_ 3 (.bin .eql r_4 (i_ 0)),o_ (.pick r_3 r_5 F_),v_ r_6,y_ 7 (.mov l_6),y_ 7 (.bin .eql r_8 (i_ 0)),o_ (.pick r_7 r_9 F_),w_ 4 eU]
.ret)))))⟩
def a40:Ann:=⟨[0,1,2,5,10,11,12,13],[5,2],[],[],[]⟩
def t40L0:aP:=(.seq (g_ [s_ 7 (.bin .lss l_6 l_5)])
(.seq (.cond l_7
.skip
(.exit 0))
(.seq (.block 1
(h_ [o_ (.indexAddrS 5 l_4 l_6),o_ (.loadN 5 r_0),o_ (.allocL 3 [(.int .i64 0),(.int .i64 0),(.sl .nil []),(.bool false),(.sl .nil [])]),o_ (.store 5 r_2 r_1)]
(g_ [o_ (.loadN 5 l_3),v_ l_1,o_ (.call false false 40 [r_0,r_1])])))
(g_ [o_ (.bin .add l_6 (i_ 1)),w_ 6 r_0]))))
def t40:bH:=⟨2,8,[],
(h_ [o_ (.boxL 2 l_0)]
(h_ [v_ l_1,o_ (.loadN 5 l_2),o_ (.callv r_0 [r_1])]
(h_ [f_ 4 l_2,s_ 4 (.load1 r_0),s_ 5 (.len .sl r_1),w_ 6 (i_ 0)]
(.block 0
(.loop t40L0)))))⟩
def a41:Ann:=⟨[0,1,2,4,6,7,8,9,14],[2],[],[],[]⟩
def t41L0:aP:=(.seq (g_ [s_ 7 (.bin .lss l_6 l_5)])
(.seq (.cond l_7
.skip
(.exit 0))
(.seq (.block 1
(h_ [o_ (.indexAddrS 1 l_4 l_6),d_ r_0,w_ 3 r_1]
(h_ [f_ 0 l_2,d_ r_0,s_ 8 (.bin .eql r_1 (i_ 7))]
(.cond l_8
(g_ [d_ l_1,v_ l_3,o_ (.build [(.int .i64 0)] []),o_ (.update (.leaf .int) r_0 r_1 r_2)])
.skip))))
(g_ [o_ (.bin .add l_6 (i_ 1)),w_ 6 r_0]))))
def t41:bH:=⟨2,9,[],
(h_ [o_ (.boxL 2 l_0)]
(h_ [f_ 2 l_2,s_ 4 (.load1 r_0),s_ 5 (.len .sl r_1),w_ 6 (i_ 0)]
(.block 0
(.loop t41L0))))⟩
def a43:Ann:=⟨[0,1,4],[],[],[],[]⟩
def t43:bH:=⟨2,3,[.loc 2],
(h_ [w_ 2 F_]
(h_ [v_ l_0,v_ l_1,o_ (.call false false 70 [r_0,r_1]),o_ (.bin .geq r_2 (i_ 0)),w_ 2 r_3]
.ret))⟩
def a44:Ann:=⟨[0,1,2],[],[],[],[]⟩
def t44:bH:=⟨1,3,[.loc 2],
(h_ [s_ 1 (.boxH 72 l_0),s_ 2 (.mov (.cst .nilf))]
(h_ [o_ (.mkFn 71 [] [l_1]),w_ 2 r_0]
.ret))⟩
def a45:Ann:=⟨[0,1,4,5,7,8,9,10,11,12,13],[9,7],[],[],[(5,⟨[0,0,3,0,0,16,63,127,255],[0,1,3,4,5],[(2,[4],[]),(6,[],[7,8])]⟩)]⟩
def t45L0:aP:=(.seq (g_ [s_ 10 (.bin .lss l_9 l_8)])
(.seq (.cond iE
.skip
(.exit 0))
(.seq (.block 1
(h_ [o_ (.indexAddrS 5 l_7 l_9),o_ (.loadN 5 r_0),o_ (.allocL 4 [(.int .i64 0),(.int .i64 0),(.sl .nil []),(.bool false),(.sl .nil [])]),o_ (.store 5 r_2 r_1)]
(h_ [v_ l_0,o_ (.loadN 5 l_4),o_ (.call false false 48 [r_0,r_1]),v_ r_2,o_ (.extract 0 r_3),o_ (.extract 1 r_3),o_ (.allocL 6 [(.int .i64 0),(.int .i64 0)]),w_ 5 r_4,o_ (.store 2 r_6 r_5)]
(.draw [0,1,3,4,5] [(2,[4],[]),(6,[],[7,8])] [v_ l_2,v_ l_5,o_ (.append false 14 176 67 r_0 r_1),v_ l_3,o_ (.loadN 2 l_6),o_ (.lit false [(.int .i64 0),(.int .i64 0)] 1 [(0,r_4)]),o_ (.append false 2 16 53 r_3 r_5),w_ 2 r_2,w_ 3 r_6]))))
(g_ [o_ (.bin .add l_9 (i_ 1)),w_ 9 r_0]))))
def t45:bH:=⟨2,11,[.loc 2,.loc 3],
(h_ [w_ 2 N_,w_ 3 N_]
(.seq (.seq (g_ [w_ 7 l_1,s_ 8 (.len .sl r_0),w_ 9 (i_ 0)])
(.block 0
(.loop t45L0)))
(h_ [v_ l_2,v_ l_3,w_ 2 r_0,w_ 3 r_1]
.ret)))⟩
def a46:Ann:=⟨[0,2],[2],[],[],[]⟩
def t46:bH:=⟨1,2,[.cell 1 7 true],
(h_ [o_ (.allocL 1 [(.int .i64 0),(.int .i64 0),(.int .i64 0),(.int .i64 0),(.int .i64 0),(.sl .nil []),(.sl .nil [])])]
(h_ [v_ l_0,o_ (.build [(.int .i64 0),(.int .i64 0),(.int .i64 0),(.int .i64 0),(.int .i64 0),(.sl .nil []),(.sl .nil [])] [(0,1,(i_ 4)),(5,1,r_0)]),o_ (.store 7 l_1 r_1)]
.ret))⟩
def a47:Ann:=⟨[0,2,3,5,6,8,9,10,11,12,20,25,26,27,28],[],[],[],[]⟩
def t47L0:aP:=(.seq (g_ [s_ 14 (.bin .lss mL rT)])
(.seq (.cond qZ
.skip
(.exit 2))
(.seq (.block 3
(h_ [o_ (.indexAddrS 1 mK mL),d_ r_0,w_ 5 r_1]
(g_ [v_ l_4,v_ l_5,o_ (.append false 2 16 53 r_0 r_1),w_ 4 r_2])))
(g_ [o_ (.bin .add mL (i_ 1)),w_ 13 r_0]))))
def t47L1:aP:=(.seq (g_ [s_ 9 (.bin .lss l_8 l_7)])
(.seq (.cond l_9
.skip
(.exit 0))
(.seq (.block 1
(h_ [o_ (.indexAddrS 1 l_6 l_8),d_ r_0,w_ 3 r_1]
(h_ [v_ l_2,v_ l_3,o_ (.len .sl r_1),o_ (.bin .add r_0 r_2),w_ 2 r_3]
(h_ [v_ l_2,s_ 10 (.bin .lss r_0 (i_ 0))]
(.cond iE
(g_ [o_ (.bad),o_ (.bad)])
.skip)))))
(g_ [o_ (.bin .add l_8 (i_ 1)),w_ 8 r_0]))))
def t47:bH:=⟨1,15,[.loc 1],
(h_ [w_ 1 N_]
(h_ [w_ 2 (i_ 0)]
(.seq (.seq (g_ [w_ 6 l_0,s_ 7 (.len .sl r_0),w_ 8 (i_ 0)])
(.block 0
(.loop t47L1)))
(h_ [v_ l_2,o_ (.call false false 72 [N_,r_0]),w_ 4 r_1]
(.seq (.seq (g_ [w_ 11 l_0,s_ 12 (.len .sl r_0),w_ 13 (i_ 0)])
(.block 2
(.loop t47L0)))
(h_ [v_ l_4,w_ 1 r_0]
.ret))))))⟩
def a48:Ann:=⟨[0,1,3,4,5,6,7,8,9,10,11,12,13,14,16,17,22,27,41,46,66],[6,5,3],[],[],[(3,⟨[0,1,3,0,15],[0,1,2,3],[(4,[],[])]⟩),(8,⟨[0,1,0,4,15,31],[0,1,2],[(3,[0],[4]),(5,[],[])]⟩),(12,⟨[0,0,0,4,12,30,62,1,255],[0,1,2,3,4,5,6,7],[(8,[],[])]⟩)]⟩
def t48:bH:=⟨2,21,[.loc 3,.cell 4 2 true],
(h_ [o_ (.boxL 2 l_1),w_ 3 N_,o_ (.allocL 4 [(.int .i64 0),(.int .i64 0)])]
(.seq (.seq (g_ [f_ 0 l_2,s_ 14 (.load1 r_0)])
(.block 0
(h_ [o_ (.bin .eql qZ (i_ 1)),w_ 15 r_0]
(.cond aCi
(.seq (.draw [0,1,2,3] [(4,[],[])] [f_ 1 l_2,d_ r_0,o_ (.build [(.int .i64 0),(.int .i64 0)] [(0,1,(i_ 2)),(1,1,r_1)]),w_ 3 N_,o_ (.store 2 l_4 r_2)])
.ret)
(h_ [o_ (.bin .eql qZ (i_ 2)),w_ 16 r_0]
(.cond aIy
(h_ [f_ 1 l_2,d_ r_0,c_ 25 [r_1],w_ 3 N_,o_ (.store 2 l_4 r_2)]
.ret)
(h_ [o_ (.bin .eql qZ (i_ 7)),w_ 17 r_0]
(.cond aIz
(h_ [v_ l_0,v_ l_0,o_ (.loadN 5 l_2),o_ (.call false false 73 [r_1,r_2]),o_ (.call false false 22 [r_0,r_3]),v_ r_4,o_ (.extract 0 r_5),o_ (.extract 1 r_5),o_ (.allocL 5 [(.int .i64 0),(.int .i64 0),(.int .i64 0),(.int .i64 0),(.int .i64 0),(.int .i64 0),(.sl .nil []),(.sl .nil []),(.int .i64 0),(.int .i64 0),(.sl .nil []),(.bool false),(.sl .nil []),(.int .i64 0)]),o_ (.store 14 r_8 r_6),w_ 6 r_7]
(.seq (.draw [0,1,2] [(3,[0],[4]),(5,[],[])] [o_ (.loadN 14 l_5),o_ (.lit false [(.int .i64 0),(.int .i64 0),(.int .i64 0),(.int .i64 0),(.int .i64 0),(.int .i64 0),(.sl .nil []),(.sl .nil []),(.int .i64 0),(.int .i64 0),(.sl .nil []),(.bool false),(.sl .nil []),(.int .i64 0)] 1 [(0,r_0)]),v_ l_6,c_ 25 [r_2],w_ 3 r_1,o_ (.store 2 l_4 r_3)])
.ret))
(h_ [o_ (.bin .eql qZ (i_ 10)),w_ 18 r_0]
(.cond aY0
(.seq (.seq (g_ [f_ 4 l_2,d_ r_0,o_ (.len .sl r_1),s_ 19 (.bin .leq r_2 (i_ 64))])
(.cond aSe
(h_ [v_ l_0,f_ 4 l_2,d_ r_1,o_ (.call false false 45 [r_0,r_2]),v_ r_3,o_ (.extract 0 r_4),o_ (.extract 1 r_4),w_ 7 r_5,w_ 8 r_6]
(.seq (.draw [0,1,2,3,4,5,6,7] [(8,[],[])] [v_ l_7,v_ l_8,v_ l_8,o_ (.len .sl r_2),o_ (.bin .sub r_3 (i_ 1)),o_ (.indexAddrS 2 r_1 r_4),o_ (.loadN 2 r_5),w_ 3 r_0,o_ (.store 2 l_4 r_6)])
.ret))
.skip))
(h_ [v_ l_0,o_ (.loadN 5 l_2),o_ (.call false false 74 [r_0,r_1]),o_ (.extract 0 r_2),o_ (.extract 1 r_2),w_ 3 r_3,o_ (.store 2 l_4 r_4)]
.ret))
(.seq (.seq (g_ [o_ (.bin .eql qZ (i_ 8)),w_ 20 r_0])
(.cond bDa
.skip
(h_ [o_ (.bin .eql qZ (i_ 6)),w_ 20 r_0]
(.cond bDa
.skip
(g_ [o_ (.bin .eql qZ (i_ 11)),w_ 20 r_0])))))
(.cond bDa
(h_ [v_ l_0,o_ (.loadN 5 l_2),o_ (.call false false 74 [r_0,r_1]),o_ (.extract 0 r_2),o_ (.extract 1 r_2),w_ 3 r_3,o_ (.store 2 l_4 r_4)]
.ret)
.skip))))))))))))
(h_ [v_ l_0,f_ 4 l_2,d_ r_1,o_ (.call false false 45 [r_0,r_2]),v_ r_3,o_ (.extract 0 r_4),o_ (.extract 1 r_4),w_ 9 r_5,w_ 10 r_6]
(h_ [o_ (.loadN 5 l_2),o_ (.call false false 75 [r_0]),v_ r_1,o_ (.extract 0 r_2),o_ (.extract 1 r_2),w_ 11 r_3,w_ 12 r_4]
(h_ [v_ l_0,o_ (.call false false 21 [r_0]),w_ 13 r_1]
(h_ [v_ l_9,v_ mL,v_ mK,v_ rT,v_ iE,o_ (.build [(.int .i64 0),(.int .i64 0),(.int .i64 0),(.int .i64 0),(.int .i64 0),(.sl .nil []),(.sl .nil [])] [(0,1,(i_ 1)),(1,1,r_1),(2,1,r_2),(3,1,r_3),(5,1,r_4)]),v_ mL,o_ (.build [(.int .i64 0),(.int .i64 0),(.int .i64 0),(.int .i64 0),(.int .i64 0),(.int .i64 0),(.sl .nil []),(.sl .nil []),(.int .i64 0),(.int .i64 0),(.sl .nil []),(.bool false),(.sl .nil []),(.int .i64 0)] [(1,7,r_5),(13,1,r_6)]),o_ (.lit false [(.int .i64 0),(.int .i64 0),(.int .i64 0),(.int .i64 0),(.int .i64 0),(.int .i64 0),(.sl .nil []),(.sl .nil []),(.int .i64 0),(.int .i64 0),(.sl .nil []),(.bool false),(.sl .nil []),(.int .i64 0)] 1 [(0,r_7)]),o_ (.append false 14 176 67 r_0 r_8),v_ mL,c_ 25 [eU],w_ 3 r_9,o_ (.store 2 l_4 fQ)]
.ret))))))⟩
def a49:Ann:=⟨[0,1,2,3,4,5,6,7,8,9,10,12,14,15,16,17,23,57,58,59],[6,5],[],[],[(7,⟨[0,0,0,0,8,24,62,127,255,511,511,1023,4095],[0,1,2,3,4,5,6],[(7,[],[8,9,10,11,12])]⟩),(8,⟨[0,0,0,0,0,16,48,120,248,0,1020,2047,0,8191],[0,1,2,3,4,5,6,7,8,9,12],[(10,[0],[]),(11,[],[]),(13,[],[])]⟩),(11,⟨[0,0,0,4,12,0,60,126,255,511,1023,1023,0,6143,16383],[0,1,2,5,12],[(3,[0,1,5],[4,6]),(7,[0],[]),(8,[],[9,10,11]),(13,[],[14])]⟩),(12,⟨[0,0,0,0,8,30,63,127,255,255,511,2047],[0,1,2,3,4,5],[(6,[],[7,8,9,10,11])]⟩),(13,⟨[0,0,2,0,14,0,62,126,254,511,1023],[0,1,2,3,5],[(4,[0],[]),(6,[0],[7]),(8,[0],[]),(9,[],[]),(10,[],[])]⟩)]⟩
def t49L0:aP:=(.seq (.seq (g_ [d_ l_4,o_ (.len .sl r_0),v_ l_8,o_ (.bin .sub r_1 r_2),s_ 16 (.bin .gtr r_3 (i_ 64))])
(.cond aIy
.skip
(.exit 0)))
(.seq (.block 1
(g_ [v_ l_7,v_ l_8,o_ (.lit false [(.int .i64 0)] 1 [(0,r_1)]),o_ (.append false 1 8 3 r_0 r_2),w_ 7 r_3]))
(g_ [v_ l_8,o_ (.bin .add r_0 (i_ 64)),w_ 8 r_1])))
def t49:bH:=⟨3,20,[.cell 6 7 true],
(h_ [s_ 3 (.boxH 62 l_0),s_ 4 (.boxH 24 l_1),o_ (.boxL 5 l_2),o_ (.allocL 6 [(.int .i64 0),(.int .i64 0),(.int .i64 0),(.int .i64 0),(.int .i64 0),(.sl .nil []),(.sl .nil [])])]
(h_ [w_ 7 N_]
(.seq (.seq (g_ [w_ 8 (i_ 0)])
(.block 0
(.loop t49L0)))
(h_ [v_ l_7,o_ (.len .sl r_0),o_ (.bin .mul (i_ 64) r_1),w_ 9 r_2]
(.seq (.draw [0,1,2,3,4,5,6] [(7,[],[8,9,10,11,12])] [d_ l_3,d_ l_4,v_ l_9,d_ l_4,o_ (.len .sl r_3),o_ (.bin .sub r_4 (i_ 1)),o_ (.slice (.sl 5) r_1 (some r_2) (some r_5) none),o_ (.call false false 45 [r_0,r_6]),v_ r_7,o_ (.extract 0 r_8),o_ (.extract 1 r_8),w_ 10 r_9,v_ eU])
(.seq (.draw [0,1,2,3,4,5,6,7,8,9,12] [(10,[0],[]),(11,[],[]),(13,[],[])] [d_ l_3,v_ iE,d_ l_3,d_ l_4,d_ l_4,o_ (.len .sl r_4),o_ (.bin .sub r_5 (i_ 1)),o_ (.indexAddrS 5 r_3 r_6),o_ (.loadN 5 r_7),o_ (.loadN 2 l_5),o_ (.call false false 24 [r_2,r_8,r_9]),o_ (.call false false 23 [r_0,r_1,eU]),s_ 11 (.allocH 46 [(.int .i64 0),(.int .i64 0),(.int .i64 0),(.int .i64 0),(.int .i64 0),(.sl .nil []),(.sl .nil [])]),o_ (.store 7 gV fQ)])
(.seq (.seq (g_ [v_ l_7,s_ 17 (.call false false 76 [r_0])])
(.block 2
(.rangeFunc aIz [18,19]
(g_ [w_ 12 aSe])
(.block 3
(.seq (.draw [0,1,2,5,12] [(3,[0,1,5],[4,6]),(7,[0],[]),(8,[],[9,10,11]),(13,[],[14])] [d_ l_3,d_ l_3,d_ l_3,o_ (.call false false 21 [r_2]),o_ (.lit false [(.int .i64 0)] 1 [(0,r_3)]),o_ (.loadN 7 mK),o_ (.build [(.sl .nil []),(.bool false),(.bool false),(.sl .nil []),(.int .i64 0),(.int .i64 0),(.int .i64 0),(.int .i64 0),(.int .i64 0),(.sl .nil []),(.sl .nil [])] [(0,1,r_4),(1,1,T_),(2,1,T_),(4,7,r_5)]),o_ (.call false false 20 [r_1,r_6]),o_ (.call false false 22 [r_0,r_7]),v_ r_8,o_ (.extract 0 r_9),o_ (.extract 1 r_9),s_ 13 (.allocH 68 [(.int .i64 0),(.int .i64 0),(.int .i64 0),(.int .i64 0),(.int .i64 0),(.int .i64 0),(.sl .nil []),(.sl .nil []),(.int .i64 0),(.int .i64 0),(.sl .nil []),(.bool false),(.sl .nil []),(.int .i64 0)]),o_ (.store 14 gV eU),w_ 14 fQ])
(.seq (.draw [0,1,2,3,4,5] [(6,[],[7,8,9,10,11])] [d_ l_3,d_ l_4,v_ rT,v_ rT,o_ (.bin .add r_3 (i_ 64)),o_ (.slice (.sl 5) r_1 (some r_2) (some r_4) none),o_ (.call false false 45 [r_0,r_5]),v_ r_6,o_ (.extract 0 r_7),o_ (.extract 1 r_7),w_ 15 r_8,v_ r_9])
(.draw [0,1,2,3,5] [(4,[0],[]),(6,[0],[7]),(8,[0],[]),(9,[],[]),(10,[],[])] [d_ l_3,o_ (.loadN 14 mL),o_ (.lit false [(.int .i64 0),(.int .i64 0),(.int .i64 0),(.int .i64 0),(.int .i64 0),(.int .i64 0),(.sl .nil []),(.sl .nil []),(.int .i64 0),(.int .i64 0),(.sl .nil []),(.bool false),(.sl .nil []),(.int .i64 0)] 1 [(0,r_1)]),v_ aCi,o_ (.append false 14 176 67 r_2 r_3),v_ qZ,c_ 25 [r_5],o_ (.lit false [(.int .i64 0),(.int .i64 0)] 1 [(0,r_6)]),o_ (.call false false 46 [r_7]),o_ (.call false false 23 [r_0,r_4,r_8]),o_ (.store 7 mK r_9)])))))))
(h_ [o_ (.loadN 7 mK),o_ (.store 7 l_6 r_0)]
.ret))))))))⟩
def a50:Ann:=⟨[0,1,2,4,5,6,7,8,9,10,11,12,13,14,15,24,25,39],[14,11,6,5,4],[],[],[(4,⟨[0,0,0,4,12,0,0,64,192,508,1020,2047,4095],[0,1,2,3,4,5,6,7,8,9],[(10,[],[]),(11,[],[]),(12,[],[])]⟩),(7,⟨[0,0,0,0,12,0,0,64,224,480,1020,2046,4095,8191,16383,16383,0,98303,262143],[0,1,2,3,4,5,6,16],[(7,[5],[8]),(9,[],[10]),(11,[],[]),(12,[],[13,14,15]),(17,[],[18])]⟩),(8,⟨[0,0,0,4,14,0,32,96,0,0,542,2046,4094,8191,16383],[0,1,2,3,5,6,7,8,9],[(4,[7,8],[]),(10,[7,8],[11]),(12,[],[]),(13,[],[]),(14,[],[])]⟩),(10,⟨[0,0,0,4,0,16,48,0,0,256,1008,2032,4092,8190,16383,32767,65535,65535,0,393215,1048575],[0,1,2,3,4,5,6,7,8,18],[(9,[6,7],[10]),(11,[],[12]),(13,[],[]),(14,[],[15,16,17]),(19,[],[20])]⟩),(11,⟨[0,0,0,4,14,0,32,96,0,286,1022,2046,4095,8191],[0,1,2,3,5,6,7,8],[(4,[7],[]),(9,[7],[10]),(11,[],[]),(12,[],[]),(13,[],[])]⟩)]⟩
def t50:bH:=⟨3,18,[.cell 5 7 true],
(h_ [o_ (.boxL 3 l_1),o_ (.boxL 4 l_2),o_ (.allocL 5 [(.int .i64 0),(.int .i64 0),(.int .i64 0),(.int .i64 0),(.int .i64 0),(.sl .nil []),(.sl .nil [])])]
(h_ [v_ l_0,f_ 4 l_3,d_ r_1,o_ (.call false false 45 [r_0,r_2]),v_ r_3,o_ (.extract 0 r_4),o_ (.extract 1 r_4),w_ 6 r_5,w_ 7 r_6]
(.seq (.seq (g_ [f_ 1 l_3,s_ 15 (.load1 r_0)])
(.block 0
(h_ [o_ (.bin .eql aCi (i_ 1)),w_ 16 r_0]
(.cond aIy
(.seq (.draw [0,1,2,3,4,5,6,7,8,9] [(10,[],[]),(11,[],[]),(12,[],[])] [v_ l_0,v_ l_6,v_ l_7,o_ (.indexAddrS 2 r_2 (i_ 0)),o_ (.loadN 2 r_3),o_ (.loadN 2 l_4),v_ l_7,o_ (.indexAddrS 2 r_6 (i_ 1)),o_ (.loadN 2 r_7),o_ (.lit false [(.int .i64 0),(.int .i64 0)] 3 [(0,r_4),(1,r_5),(2,r_8)]),o_ (.call false false 77 [r_9]),o_ (.call false false 23 [r_0,r_1,eU]),o_ (.store 7 l_5 fQ)])
.ret)
(h_ [o_ (.bin .eql aCi (i_ 0)),w_ 17 r_0]
(.cond aIz
(h_ [v_ l_0,o_ (.call false false 21 [r_0]),v_ l_0,o_ (.call false false 21 [r_2]),w_ 8 r_1,w_ 9 r_3]
(.seq (.draw [0,1,2,3,4,5,6,16] [(7,[5],[8]),(9,[],[10]),(11,[],[]),(12,[],[13,14,15]),(17,[],[18])] [v_ l_0,v_ l_0,v_ l_8,v_ l_9,o_ (.lit false [(.int .i64 0)] 2 [(0,r_2),(1,r_3)]),o_ (.loadN 2 l_4),v_ l_9,c_ 25 [r_6],o_ (.lit false [(.int .i64 0),(.int .i64 0)] 2 [(0,r_5),(1,r_7)]),o_ (.call false false 77 [r_8]),o_ (.build [(.sl .nil []),(.bool false),(.bool false),(.sl .nil []),(.int .i64 0),(.int .i64 0),(.int .i64 0),(.int .i64 0),(.int .i64 0),(.sl .nil []),(.sl .nil [])] [(0,1,r_4),(1,1,T_),(4,7,r_9)]),o_ (.call false false 20 [r_1,eU]),o_ (.call false false 22 [r_0,fQ]),v_ gV,o_ (.extract 0 jG),o_ (.extract 1 jG),s_ 10 (.allocH 68 [(.int .i64 0),(.int .i64 0),(.int .i64 0),(.int .i64 0),(.int .i64 0),(.int .i64 0),(.sl .nil []),(.sl .nil []),(.int .i64 0),(.int .i64 0),(.sl .nil []),(.bool false),(.sl .nil []),(.int .i64 0)]),o_ (.store 14 nP mJ),w_ 11 mN])
(.seq (.draw [0,1,2,3,5,6,7,8,9] [(4,[7,8],[]),(10,[7,8],[11]),(12,[],[]),(13,[],[]),(14,[],[])] [v_ l_0,v_ l_6,o_ (.loadN 14 iE),o_ (.lit false [(.int .i64 0),(.int .i64 0),(.int .i64 0),(.int .i64 0),(.int .i64 0),(.int .i64 0),(.sl .nil []),(.sl .nil []),(.int .i64 0),(.int .i64 0),(.sl .nil []),(.bool false),(.sl .nil []),(.int .i64 0)] 1 [(0,r_2)]),o_ (.append false 14 176 67 r_1 r_3),v_ l_7,o_ (.indexAddrS 2 r_5 (i_ 0)),o_ (.loadN 2 r_6),o_ (.loadN 2 l_4),v_ mK,c_ 25 [r_9],o_ (.lit false [(.int .i64 0),(.int .i64 0)] 3 [(0,r_7),(1,r_8),(2,eU)]),o_ (.call false false 46 [fQ]),o_ (.call false false 23 [r_0,r_4,gV]),o_ (.store 7 l_5 jG)])
.ret)))
.skip))))))
(h_ [v_ l_0,o_ (.call false false 21 [r_0]),w_ 12 r_1]
(.seq (.draw [0,1,2,3,4,5,6,7,8,18] [(9,[6,7],[10]),(11,[],[12]),(13,[],[]),(14,[],[15,16,17]),(19,[],[20])] [v_ l_0,v_ l_0,v_ rT,o_ (.lit false [(.int .i64 0)] 1 [(0,r_2)]),v_ l_7,o_ (.indexAddrS 2 r_4 (i_ 1)),o_ (.loadN 2 r_5),o_ (.loadN 2 l_4),v_ rT,c_ 25 [r_8],o_ (.lit false [(.int .i64 0),(.int .i64 0)] 3 [(0,r_6),(1,r_7),(2,r_9)]),o_ (.call false false 77 [eU]),o_ (.build [(.sl .nil []),(.bool false),(.bool false),(.sl .nil []),(.int .i64 0),(.int .i64 0),(.int .i64 0),(.int .i64 0),(.int .i64 0),(.sl .nil []),(.sl .nil [])] [(0,1,r_3),(1,1,T_),(2,1,T_),(4,7,fQ)]),o_ (.call false false 20 [r_1,gV]),o_ (.call false false 22 [r_0,jG]),v_ mJ,o_ (.extract 0 mN),o_ (.extract 1 mN),s_ 13 (.allocH 68 [(.int .i64 0),(.int .i64 0),(.int .i64 0),(.int .i64 0),(.int .i64 0),(.int .i64 0),(.sl .nil []),(.sl .nil []),(.int .i64 0),(.int .i64 0),(.sl .nil []),(.bool false),(.sl .nil []),(.int .i64 0)]),o_ (.store 14 tF nP),w_ 14 pE])
(.seq (.draw [0,1,2,3,5,6,7,8] [(4,[7],[]),(9,[7],[10]),(11,[],[]),(12,[],[]),(13,[],[])] [v_ l_0,v_ l_6,o_ (.loadN 14 mL),o_ (.lit false [(.int .i64 0),(.int .i64 0),(.int .i64 0),(.int .i64 0),(.int .i64 0),(.int .i64 0),(.sl .nil []),(.sl .nil []),(.int .i64 0),(.int .i64 0),(.sl .nil []),(.bool false),(.sl .nil []),(.int .i64 0)] 1 [(0,r_2)]),o_ (.append false 14 176 67 r_1 r_3),v_ l_7,o_ (.indexAddrS 2 r_5 (i_ 0)),o_ (.loadN 2 r_6),v_ qZ,c_ 25 [r_8],o_ (.lit false [(.int .i64 0),(.int .i64 0)] 2 [(0,r_7),(1,r_9)]),o_ (.call false false 46 [eU]),o_ (.call false false 23 [r_0,r_4,fQ]),o_ (.store 7 l_5 gV)])
.ret))))))⟩
def a56:Ann:=⟨[0,1,2],[1],[],[],[]⟩
def t56:bH:=⟨1,3,[.loc 2],
(h_ [o_ (.boxL 1 l_0),w_ 2 F_]
(h_ [f_ 0 l_1,d_ r_0,o_ (.bin .eql r_1 (i_ 6)),v_ r_2,y_ 3 (.fieldAddr 3 l_1),y_ 3 (.load1 r_4),y_ 3 (.len .sl r_5),y_ 3 (.bin .eql r_6 (i_ 2)),o_ (.pick r_3 r_7 F_),w_ 2 r_8]
.ret))⟩
def a57:Ann:=⟨[0,1,4],[],[],[],[]⟩
def t57:bH:=⟨2,3,[.loc 2],
(h_ [w_ 2 F_]
(h_ [v_ l_0,v_ l_1,o_ (.call false false 84 [r_0,r_1]),o_ (.bin .geq r_2 (i_ 0)),w_ 2 r_3]
.ret))⟩
def a58:Ann:=⟨[0,1,2],[1],[],[],[]⟩
def t58:bH:=⟨1,3,[.loc 2],
(h_ [o_ (.boxL 1 l_0),w_ 2 F_]
(h_ [o_ (.loadN 5 l_1),c_ 34 [r_0],o_ (.un .not r_1),w_ 2 r_2]
.ret))⟩
def a59:Ann:=⟨[0,1,2,4,6,7,12,22,27,32],[1],[],[],[]⟩
def t59:bH:=⟨1,10,[.loc 2],
(h_ [o_ (.boxL 1 l_0),w_ 2 F_]
(.seq (.seq (g_ [f_ 0 l_1,s_ 4 (.load1 r_0)])
(.block 0
(.seq (.seq (g_ [o_ (.bin .eql l_4 (i_ 0)),w_ 5 r_0])
(.cond l_5
.skip
(h_ [o_ (.bin .eql l_4 (i_ 8)),w_ 5 r_0]
(.cond l_5
.skip
(h_ [o_ (.bin .eql l_4 (i_ 9)),w_ 5 r_0]
(.cond l_5
.skip
(g_ [o_ (.bin .eql l_4 (i_ 10)),w_ 5 r_0])))))))
(.cond l_5
(h_ [w_ 2 T_]
.ret)
(h_ [o_ (.bin .eql l_4 (i_ 1)),w_ 6 r_0]
(.cond l_6
(h_ [f_ 1 l_1,d_ r_0,o_ (.bin .eql r_1 (i_ 0)),v_ r_2,x_ 3 (.fieldAddr 1 l_1),x_ 3 (.load1 r_4),x_ 3 (.bin .eql r_5 (i_ 1)),o_ (.pick r_3 T_ r_6),w_ 2 r_7]
.ret)
(h_ [o_ (.bin .eql l_4 (i_ 2)),w_ 7 r_0]
(.cond l_7
(h_ [f_ 2 l_1,d_ r_0,c_ 85 [r_1],w_ 2 r_2]
.ret)
(h_ [o_ (.bin .eql l_4 (i_ 3)),w_ 8 r_0]
(.cond l_8
(h_ [f_ 1 l_1,d_ r_0,c_ 86 [r_1],w_ 2 r_2]
.ret)
(.seq (.seq (g_ [o_ (.bin .eql l_4 (i_ 4)),w_ 9 r_0])
(.cond l_9
.skip
(g_ [o_ (.bin .eql l_4 (i_ 5)),w_ 9 r_0])))
(.cond l_9
(h_ [f_ 2 l_1,d_ r_0,c_ 87 [r_1],v_ r_2,o_ (.extract 0 r_3),o_ (.extract 1 r_3),v_ r_4,w_ 3 r_5]
(h_ [v_ l_3,o_ (.bin .eql r_0 (i_ 0)),v_ r_1,y_ 2 (.fieldAddr 0 l_1),y_ 2 (.load1 r_3),y_ 2 (.bin .eql r_4 (i_ 4)),y_ 2 (.mov r_5),x_ 6 (.fieldAddr 2 l_1),x_ 6 (.load1 r_7),x_ 6 (.bin .neq r_8 (.cst (.str []))),y_ 2 (.pick r_6 T_ r_9),o_ (.pick r_2 eU F_),w_ 2 fQ]
.ret))
.skip))))))))))))
(h_ [w_ 2 F_]
.ret)))⟩
def a60:Ann:=⟨[0,1,2],[1],[],[],[]⟩
def t60:bH:=⟨1,3,[.loc 2],
(h_ [o_ (.boxL 1 l_0),w_ 2 F_]
(h_ [o_ (.loadN 5 l_1),c_ 35 [r_0],o_ (.un .not r_1),w_ 2 r_2]
.ret))⟩
def a61:Ann:=⟨[0,1,2,3,4,5,6,7,8,73,75,76,88,100],[5,3],[],[],[(8,⟨[0,0,2,0,8,24,56,120,248,511,1023],[0,1,2,3,4,5,6,7,8],[(9,[],[10])]⟩),(11,⟨[0,0,2,0,8,24,56,120,255,511],[0,1,2,3,4,5,6,7],[(8,[],[9])]⟩),(14,⟨[0,0,2,0,8,24,56,120,255,511],[0,1,2,3,4,5,6,7],[(8,[],[9])]⟩)]⟩
def t61:bH:=⟨2,14,[.loc 4],
(h_ [s_ 2 (.boxH 86 l_0),o_ (.boxL 3 l_1),w_ 4 F_]
(h_ [o_ (.loadN 5 l_3),c_ 88 [r_0],v_ r_1,o_ (.extract 0 r_2),o_ (.extract 1 r_2),o_ (.allocL 5 [(.bool false),(.int .i64 0),(.bool false),(.str [])]),o_ (.store 4 r_5 r_3),w_ 6 r_4]
(h_ [f_ 0 l_3,d_ r_0,o_ (.bin .eql r_1 (i_ 7)),w_ 7 r_2]
(.seq (.seq (g_ [v_ l_6,o_ (.un .not r_0),v_ r_1,x_ 2 (.fieldAddr 4 l_3),x_ 2 (.load1 r_3),x_ 2 (.len .sl r_4),x_ 2 (.fieldAddr 1 l_5),x_ 2 (.load1 r_6),x_ 2 (.bin .lss r_5 r_7),o_ (.pick r_2 T_ r_8),v_ r_9,x_ 10 (.fieldAddr 4 l_3),x_ 10 (.load1 fQ),x_ 10 (.len .sl gV),x_ 10 (.fieldAddr 1 l_5),x_ 10 (.load1 mJ),x_ 10 (.bin .gtr jG mN),x_ 10 (.mov nP),y_ 17 (.fieldAddr 2 l_5),y_ 17 (.load1 tF),y_ 17 (.un .not wI),x_ 10 (.pick pE wJ F_),o_ (.pick eU T_ wK),v_ yI,x_ 23 (.fieldAddr 0 l_5),x_ 23 (.load1 aBr),x_ 23 (.un .not aCh),x_ 23 (.mov aFs),y_ 27 (.fieldAddr 1 l_3),y_ 27 (.load1 aMd),y_ 27 (.bin .neq aMe (i_ 0)),x_ 23 (.pick aMc aSd F_),o_ (.pick yJ T_ aYu),v_ aYv,x_ 33 (.mov l_7),x_ 33 (.un .not aYx),x_ 33 (.mov aYy),y_ 36 (.fieldAddr 2 l_3),y_ 36 (.load1 bC7),y_ 36 (.len .sl bC8),y_ 36 (.bin .gtr bC9 (i_ 0)),y_ 36 (.mov bHz),x_ 41 (.fieldAddr 3 l_3),x_ 41 (.load1 bH1),y_ 36 (.pick bH0 T_ bH2),x_ 33 (.pick aYz bH3 F_),o_ (.pick aYw T_ bH4),v_ bH5,x_ 47 (.fieldAddr 3 l_3),x_ 47 (.load1 bI4),x_ 47 (.mov bI5),y_ 50 (.fieldAddr 2 l_3),y_ 50 (.load1 bI7),y_ 50 (.len .sl bI8),y_ 50 (.bin .eql bI9 (i_ 0)),x_ 47 (.pick bI6 bJa F_),s_ 9 (.pick bI3 T_ bJb)])
(.cond l_9
(h_ [w_ 4 F_]
.ret)
.skip))
(h_ [s_ 8 (.allocH 154 [.nilf]),o_ (.store 1 r_0 (.fn 89))]
(.seq (.seq (g_ [f_ 0 l_3,s_ 10 (.load1 r_0)])
(.block 0
(h_ [o_ (.bin .eql iE (i_ 1)),w_ 11 r_0]
(.cond mK
(.seq (.draw [0,1,2,3,4,5,6,7,8] [(9,[],[10])] [d_ l_8,f_ 1 l_3,d_ r_1,d_ l_2,o_ (.nilCheck r_3),f_ 0 r_4,f_ 7 r_5,d_ r_6,o_ (.len .sl r_7),o_ (.callv r_0 [r_2,r_8]),w_ 4 r_9])
.ret)
(.seq (.seq (g_ [o_ (.bin .eql iE (i_ 2)),w_ 12 r_0])
(.cond rT
.skip
(g_ [o_ (.bin .eql iE (i_ 4)),w_ 12 r_0])))
(.cond rT
(.seq (.draw [0,1,2,3,4,5,6,7] [(8,[],[9])] [d_ l_8,f_ 1 l_3,d_ r_1,d_ l_2,o_ (.nilCheck r_3),f_ 0 r_4,f_ 6 r_5,d_ r_6,o_ (.callv r_0 [r_2,r_7]),w_ 4 r_8])
.ret)
(.seq (.seq (g_ [o_ (.bin .eql iE (i_ 3)),w_ 13 r_0])
(.cond mL
.skip
(g_ [o_ (.bin .eql iE (i_ 5)),w_ 13 r_0])))
(.cond mL
(.seq (.draw [0,1,2,3,4,5,6,7] [(8,[],[9])] [d_ l_8,f_ 1 l_3,d_ r_1,d_ l_2,o_ (.nilCheck r_3),f_ 0 r_4,f_ 5 r_5,d_ r_6,o_ (.callv r_0 [r_2,r_7]),w_ 4 r_8])
.ret)
.skip))))))))
(h_ [f_ 2 l_3,d_ r_0,o_ (.mkFn 91 [] [l_8,l_2]),o_ (.call false false 90 [r_1,r_2]),o_ (.un .not r_3),w_ 4 r_4]
.ret)))))))⟩
def a66:Ann:=⟨[0,1,2,4,6,7,8,13,61],[8,4],[],[],[(5,⟨[0,1,3,7,15,15,47,127,255,511,1023,2047,4095,8191,16383,32767,65535,131071,262143,524287,1048575,524287,2621439,6815743,15204351,31981567,65535999,134217727,268435455,536870911,1073741823,2147483647,4294967295,8589934591,17179869183,34359738367,68719476735,137438953471,274877906943,549755813887,1099511627775],[0,1,2,3,4,5,6],[(7,[],[8,9,10,11,12,13,14,15,16,17,18,19,20,21,22,23,24,25,26,27,28,29,30,31,32,33,34,35,36,37,38,39,40])]⟩)]⟩
def t66L0:aP:=(.seq (.seq (g_ [v_ l_5,f_ 5 l_3,d_ r_1,o_ (.len .sl r_2),s_ 7 (.bin .lss r_0 r_3)])
(.cond l_7
.skip
(.exit 0)))
(.seq (.block 1
(h_ [f_ 5 l_3,d_ r_0,v_ l_5,o_ (.indexAddrS 2 r_1 r_2),o_ (.loadN 2 r_3),o_ (.allocL 6 [(.int .i64 0),(.int .i64 0)]),o_ (.store 2 r_5 r_4)]
(.seq (.draw [0,1,2,3,4,5,6] [(7,[],[8,9,10,11,12,13,14,15,16,17,18,19,20,21,22,23,24,25,26,27,28,29,30,31,32,33,34,35,36,37,38,39,40])] [f_ 0 l_6,d_ r_0,o_ (.bin .eql r_1 (i_ 1)),v_ r_2,y_ 3 (.mov l_2),y_ 3 (.fieldAddr 1 l_6),y_ 3 (.load1 r_5),y_ 3 (.call true false 14 [r_4,r_6]),y_ 3 (.un .not r_7),o_ (.pick r_3 r_8 F_),v_ r_9,x_ 10 (.fieldAddr 0 l_6),x_ 10 (.load1 fQ),x_ 10 (.bin .eql gV (i_ 2)),x_ 10 (.mov jG),y_ 14 (.fieldAddr 1 l_6),y_ 14 (.load1 mN),y_ 14 (.bin .lss nP (i_ 0)),y_ 14 (.mov pE),x_ 18 (.fieldAddr 1 l_6),x_ 18 (.load1 wI),x_ 18 (.mov l_0),x_ 18 (.nilCheck wK),x_ 18 (.fieldAddr 0 yI),x_ 18 (.fieldAddr 4 yJ),x_ 18 (.load1 aBr),x_ 18 (.len .sl aCh),x_ 18 (.bin .geq wJ aFs),y_ 14 (.pick tF T_ aMc),x_ 10 (.pick mJ aMd F_),o_ (.pick eU T_ aMe),v_ aSd,x_ 31 (.fieldAddr 0 l_6),x_ 31 (.load1 aYv),x_ 31 (.bin .neq aYw (i_ 1)),x_ 31 (.mov aYx),y_ 35 (.fieldAddr 0 l_6),y_ 35 (.load1 aYz),y_ 35 (.bin .neq bC7 (i_ 2)),x_ 31 (.pick aYy bC8 F_),s_ 8 (.pick aYu T_ bC9)])
(.cond l_8
(h_ [w_ 4 F_]
.ret)
.skip))))
(g_ [v_ l_5,o_ (.bin .add r_0 (i_ 1)),w_ 5 r_1])))
def t66:bH:=⟨3,9,[.loc 4],
(h_ [o_ (.boxL 3 l_1),w_ 4 F_]
(.seq (.seq (g_ [w_ 5 (i_ 0)])
(.block 0
(.loop t66L0)))
(h_ [w_ 4 T_]
.ret)))⟩
end Go.Proofs.YtageemgcnoblnaaDoor
