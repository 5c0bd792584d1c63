/- The functions of this seat, compiled for the evaluator TM; each held against the translation by the kernel. By program. Condition: none. -/
import Derived.Test.YtageemgcnoblnaaDoorPrim
set_option maxRecDepth 100000
set_option linter.unusedVariables false
namespace Go.Proofs.YtageemgcnoblnaaDoor
open Go Go.TM
abbrev r_0:aE:=.reg 0
abbrev r_1:aE:=.reg 1
abbrev r_2:aE:=.reg 2
abbrev r_3:aE:=.reg 3
abbrev r_4:aE:=.reg 4
abbrev r_5:aE:=.reg 5
abbrev r_6:aE:=.reg 6
abbrev r_7:aE:=.reg 7
abbrev r_8:aE:=.reg 8
abbrev r_9:aE:=.reg 9
abbrev dU:aE:=.reg 10
abbrev eZ:aE:=.reg 11
abbrev gK:aE:=.reg 12
abbrev iU:aE:=.reg 13
abbrev oF:aE:=.reg 14
abbrev uC:aE:=.reg 15
abbrev vP:aE:=.reg 16
abbrev yP:aE:=.reg 17
abbrev aEg:aE:=.reg 18
abbrev aO5:aE:=.reg 19
abbrev aO6:aE:=.reg 20
abbrev aO7:aE:=.reg 21
abbrev aVh:aE:=.reg 22
abbrev aVi:aE:=.reg 23
abbrev aVj:aE:=.reg 24
abbrev bGg:aE:=.reg 25
abbrev bGh:aE:=.reg 26
abbrev bJ6:aE:=.reg 27
abbrev bJ7:aE:=.reg 28
abbrev bLx:aE:=.reg 29
abbrev bM5:aE:=.reg 30
abbrev bM6:aE:=.reg 31
abbrev bM7:aE:=.reg 32
abbrev bM8:aE:=.reg 33
abbrev bM9:aE:=.reg 34
abbrev bNa:aE:=.reg 35
abbrev bNb:aE:=.reg 36
abbrev bNc:aE:=.reg 37
abbrev bNd:aE:=.reg 38
abbrev bNe:aE:=.reg 39
abbrev bNf:aE:=.reg 40
abbrev bNg:aE:=.reg 41
abbrev bNh:aE:=.reg 42
abbrev bNi:aE:=.reg 43
abbrev bNj:aE:=.reg 44
abbrev bNk:aE:=.reg 45
abbrev bNl:aE:=.reg 46
abbrev bNm:aE:=.reg 47
abbrev bNn:aE:=.reg 48
abbrev bNo:aE:=.reg 49
abbrev bNp:aE:=.reg 50
abbrev bNq:aE:=.reg 51
abbrev bNr:aE:=.reg 52
abbrev bNs:aE:=.reg 53
abbrev bNt:aE:=.reg 54
abbrev bNu:aE:=.reg 55
abbrev l_0:aE:=.loc 0
abbrev l_1:aE:=.loc 1
abbrev l_2:aE:=.loc 2
abbrev l_3:aE:=.loc 3
abbrev l_4:aE:=.loc 4
abbrev l_5:aE:=.loc 5
abbrev l_6:aE:=.loc 6
abbrev l_7:aE:=.loc 7
abbrev l_8:aE:=.loc 8
abbrev l_9:aE:=.loc 9
abbrev iD:aE:=.loc 10
abbrev mI:aE:=.loc 11
abbrev pF:aE:=.loc 12
abbrev gW:aE:=.loc 13
abbrev lM:aE:=.loc 14
abbrev xJ:aE:=.loc 15
abbrev aDq:aE:=.loc 16
abbrev yQ:aE:=.loc 17
abbrev qX:aE:=.loc 18
abbrev aLp:aE:=.loc 19
abbrev aIa:aE:=.loc 20
abbrev aDr:aE:=.loc 21
abbrev bJ8:aE:=.loc 22
abbrev bJ9:aE:=.loc 23
abbrev aVk:aE:=.loc 24
abbrev bGi:aE:=.loc 25
abbrev aVl:aE:=.loc 26
abbrev bGj:aE:=.loc 27
abbrev bLy:aE:=.loc 28
abbrev bLz:aE:=.loc 29
abbrev bNv:aE:=.loc 30
abbrev bNw:aE:=.loc 31
abbrev bNx:aE:=.loc 32
abbrev bL0:aE:=.loc 33
abbrev bNy:aE:=.loc 34
abbrev bNz:aE:=.loc 35
abbrev T_:aE:=.cst (.bool true)
abbrev F_:aE:=.cst (.bool false)
abbrev N_:aE:=.cst (.sl .nil [])
abbrev y_ (n:Nat) (x:TOp):aM:=⟨x, none, some (n, true)⟩
abbrev x_ (n:Nat) (x:TOp):aM:=⟨x, none, some (n, false)⟩
abbrev c_ (n:Nat) (l:List aE):aM:=⟨.call true false n l, none, none⟩
abbrev g_ (l:List aM):aQ:=.region l
abbrev h_ (l:List aM) (b:aQ):aQ:=.seq (.region l) b
abbrev v_ (x:aE):aM:=⟨.mov x, none, none⟩
abbrev w_ (n:Nat) (x:aE):aM:=⟨.mov x, some n, none⟩
abbrev d_ (x:aE):aM:=⟨.load1 x, none, none⟩
abbrev f_ (n:Nat) (x:aE):aM:=⟨.fieldAddr n x, none, none⟩
abbrev o_ (x:TOp):aM:=⟨x,none,none⟩
abbrev s_ (n:Nat) (x:TOp):aM:=⟨x,some n,none⟩
abbrev i_ (n:Int):aE:=.cst (.int .i64 n)
def opts:dM:=⟨fun f=>([3,4,6,7,12,13,16,18,19,20,21,22,23,24,27,28,29,30,31,33,36,37,38,39,40,41,42,43,44,45,46,47,48,49,50,53,54,55,56,57,58,60,61,62,64,65,66,68,69,70,71,72,73,74,75,76,77,84,90,93,94,95,96,101,106,107,108,112,115,116,117,118,119,120,122,123,129,131,133,134,135,137,146,147,148,149,150,151,152]:List Nat).contains f,fun f=>([42,94]:List Nat).contains f⟩
def a3:Ann:=⟨[0,1,2,3,4,5,6,9,32],[5,3,1],[],[],[]⟩
def t3:bE:=⟨1,9,[.loc 2],
(h_ [o_ (.boxL 1 l_0),w_ 2 F_]
(.seq (.seq (g_ [o_ (.loadN 8 l_1),o_ (.call false false 7 [r_0]),s_ 7 (.un .not r_1)])
(.cond l_7
(h_ [c_ 8 [],w_ 2 r_0]
.ret)
.skip))
(h_ [o_ (.loadN 8 l_1),c_ 9 [r_0],v_ r_1,o_ (.extract 0 r_2),o_ (.extract 1 r_2),o_ (.allocL 3 [(.sl .nil []),(.int .i64 0),(.int .i64 0),(.int .i64 0),(.sl .nil [])]),o_ (.store 5 r_5 r_3),w_ 4 r_4]
(h_ [o_ (.loadN 8 l_1),c_ 10 [r_0],v_ r_1,o_ (.extract 0 r_2),o_ (.extract 1 r_2),o_ (.allocL 5 [(.sl .nil []),(.int .i64 0),(.int .i64 0),(.int .i64 0),(.sl .nil [])]),o_ (.store 5 r_5 r_3),w_ 6 r_4]
(.seq (.seq (g_ [v_ l_4,v_ l_6,o_ (.bin .neq r_0 r_1),v_ r_2,x_ 3 (.mov l_4),x_ 3 (.bin .eql r_4 (i_ 0)),x_ 3 (.mov r_5),y_ 6 (.loadN 8 l_1),y_ 6 (.call true false 11 [r_7]),y_ 6 (.bin .neq r_8 (i_ 0)),x_ 3 (.pick r_6 r_9 F_),s_ 8 (.pick r_3 T_ dU)])
(.cond l_8
(h_ [w_ 2 F_]
.ret)
.skip))
(h_ [v_ l_4,o_ (.bin .neq r_0 (i_ 0)),v_ r_1,x_ 2 (.loadN 5 l_3),x_ 2 (.loadN 5 l_5),x_ 2 (.call false false 12 [r_3,r_4]),o_ (.pick r_2 T_ r_5),v_ r_6,y_ 7 (.call true false 8 []),o_ (.pick r_7 r_8 F_),w_ 2 r_9]
.ret))))))⟩
def a7:Ann:=⟨[0,1,2],[1],[],[],[]⟩
def t7:bE:=⟨1,3,[.loc 2],
(h_ [o_ (.boxL 1 l_0),w_ 2 F_]
(h_ [f_ 0 l_1,o_ (.loadN 5 r_0),o_ (.call false false 18 [r_1,(i_ 2000)]),o_ (.bin .gtr r_2 (i_ 0)),v_ r_3,y_ 4 (.fieldAddr 7 l_1),y_ 4 (.load1 r_5),y_ 4 (.len .sl r_6),y_ 4 (.bin .leq r_7 (i_ 2000)),o_ (.pick r_4 r_8 F_),v_ r_9,y_ 10 (.fieldAddr 6 l_1),y_ 10 (.load1 eZ),y_ 10 (.bin .leq gK (i_ 1099511627776)),o_ (.pick dU iU F_),w_ 2 oF]
.ret))⟩
def a8:Ann:=⟨[0,1,2,3,4,5,35,68],[5,4,2,1],[],[],[(9,⟨[0,1,3,7,15,31,63,127,255,511,1023,2047,4095,8191,1023,17407,50175,131071,262143,524287,1048575,2097151,4194303,8388607,1048575,33554431,67108863,134217727],[0,1,2,3,4,5,6,7,8,9,10,11,12,13,14,15,16,17,18,19,20,21,22,23,24,25,26,27],[]⟩)]⟩
def t8:bE:=⟨0,8,[.loc 0],
(h_ [w_ 0 F_]
(h_ [o_ (.build [(.int .i64 0),(.int .i64 0),(.sl .nil []),(.bool false),(.sl .nil [])] [(0,1,(i_ 3))]),o_ (.build [(.int .i64 0),(.int .i64 0),(.sl .nil []),(.bool false),(.sl .nil [])] [(0,1,(i_ 1))]),o_ (.lit false [(.int .i64 0),(.int .i64 0),(.sl .nil []),(.bool false),(.sl .nil [])] 2 [(0,r_0),(1,r_1)]),o_ (.build [(.int .i64 0),(.int .i64 0),(.sl .nil []),(.bool false),(.sl .nil [])] [(0,1,(i_ 8)),(4,1,r_2)]),o_ (.build [(.int .i64 0),(.int .i64 0),(.str []),(.sl .nil []),(.int .i64 0)] [(0,1,(i_ 0))]),o_ (.lit false [(.int .i64 0),(.int .i64 0),(.str []),(.sl .nil []),(.int .i64 0)] 1 [(0,r_4)]),o_ (.build [(.int .i64 0),(.int .i64 0),(.sl .nil []),(.bool false),(.sl .nil []),(.int .i64 0),(.int .i64 0),(.sl .nil [])] [(0,5,r_3),(5,1,(i_ 1)),(7,1,r_5)]),o_ (.allocL 1 [(.int .i64 0),(.int .i64 0),(.sl .nil []),(.bool false),(.sl .nil []),(.int .i64 0),(.int .i64 0),(.sl .nil [])]),o_ (.store 8 r_7 r_6)]
(h_ [o_ (.loadN 8 l_1),c_ 9 [r_0],v_ r_1,o_ (.extract 0 r_2),o_ (.extract 1 r_2),o_ (.allocL 2 [(.sl .nil []),(.int .i64 0),(.int .i64 0),(.int .i64 0),(.sl .nil [])]),o_ (.store 5 r_5 r_3),w_ 3 r_4]
(.seq (.seq (g_ [v_ l_3,o_ (.bin .neq r_0 (i_ 0)),v_ r_1,x_ 2 (.fieldAddr 0 l_2),x_ 2 (.load1 r_3),x_ 2 (.len .sl r_4),x_ 2 (.bin .neq r_5 (i_ 2)),o_ (.pick r_2 T_ r_6),v_ r_7,x_ 8 (.fieldAddr 1 l_2),x_ 8 (.load1 r_9),x_ 8 (.bin .lss dU (i_ 0)),o_ (.pick r_8 T_ eZ),v_ gK,x_ 13 (.fieldAddr 1 l_2),x_ 13 (.load1 oF),x_ 13 (.bin .gtr uC (i_ 1)),s_ 6 (.pick iU T_ vP)])
(.cond l_6
(h_ [w_ 0 F_]
.ret)
.skip))
(h_ [f_ 0 l_2,d_ r_0,f_ 1 l_2,d_ r_2,o_ (.indexAddrS 11 r_1 r_3),f_ 4 r_4,o_ (.loadN 7 r_5),o_ (.allocL 4 [(.int .i64 0),(.int .i64 0),(.int .i64 0),(.int .i64 0),(.int .i64 0),(.sl .nil []),(.sl .nil [])]),o_ (.store 7 r_7 r_6)]
(.seq (.seq (g_ [f_ 0 l_4,d_ r_0,o_ (.bin .neq r_1 (i_ 2)),v_ r_2,x_ 3 (.fieldAddr 6 l_4),x_ 3 (.load1 r_4),x_ 3 (.len .sl r_5),x_ 3 (.bin .neq r_6 (i_ 1)),o_ (.pick r_3 T_ r_7),v_ r_8,x_ 9 (.fieldAddr 6 l_4),x_ 9 (.load1 dU),x_ 9 (.indexAddrS 7 eZ (i_ 0)),x_ 9 (.fieldAddr 0 gK),x_ 9 (.load1 iU),x_ 9 (.bin .neq oF (i_ 1)),o_ (.pick r_9 T_ uC),v_ vP,x_ 17 (.fieldAddr 6 l_4),x_ 17 (.load1 aEg),x_ 17 (.indexAddrS 7 aO5 (i_ 0)),x_ 17 (.fieldAddr 6 aO6),x_ 17 (.load1 aO7),x_ 17 (.len .sl aVh),x_ 17 (.bin .neq aVi (i_ 1)),s_ 7 (.pick yP T_ aVj)])
(.cond l_7
(h_ [w_ 0 F_]
.ret)
.skip))
(h_ [f_ 6 l_4,d_ r_0,o_ (.indexAddrS 7 r_1 (i_ 0)),f_ 6 r_2,d_ r_3,o_ (.indexAddrS 7 r_4 (i_ 0)),o_ (.loadN 7 r_5),o_ (.allocL 5 [(.int .i64 0),(.int .i64 0),(.int .i64 0),(.int .i64 0),(.int .i64 0),(.sl .nil []),(.sl .nil [])]),o_ (.store 7 r_7 r_6)]
(.seq (.draw [0,1,2,3,4,5,6,7,8,9,10,11,12,13,14,15,16,17,18,19,20,21,22,23,24,25,26,27] [] [f_ 0 l_5,d_ r_0,o_ (.bin .eql r_1 (i_ 4)),v_ r_2,y_ 3 (.fieldAddr 5 l_5),y_ 3 (.load1 r_4),y_ 3 (.len .sl r_5),y_ 3 (.bin .eql r_6 (i_ 3)),o_ (.pick r_3 r_7 F_),v_ r_8,y_ 9 (.fieldAddr 5 l_5),y_ 9 (.load1 dU),y_ 9 (.indexAddrS 2 eZ (i_ 1)),y_ 9 (.loadN 2 gK),y_ 9 (.fieldAddr 1 l_4),y_ 9 (.load1 oF),y_ 9 (.build [(.int .i64 0),(.int .i64 0)] [(0,1,(i_ 1)),(1,1,uC)]),y_ 9 (.eqAgg false [(0,.int),(1,.int)] iU vP),o_ (.pick r_9 yP F_),v_ aEg,y_ 19 (.fieldAddr 5 l_5),y_ 19 (.load1 aO6),y_ 19 (.indexAddrS 2 aO7 (i_ 2)),y_ 19 (.loadN 2 aVh),y_ 19 (.build [(.int .i64 0),(.int .i64 0)] [(0,1,(i_ 2))]),y_ 19 (.eqAgg false [(0,.int),(1,.int)] aVi aVj),o_ (.pick aO5 bGg F_),w_ 0 bGh])
.ret))))))))⟩
def a9:Ann:=⟨[0,1,2,3,4,5,6,7,8,9,10,14,19],[10,7,2,1],[],[],[(10,⟨[0,0,2,0,0,16,0,64,248,511,0,2047],[0,1,2,3,4,5,6,10],[(7,[1,5],[]),(8,[1],[]),(9,[],[]),(11,[],[])]⟩),(11,⟨[0,1,3,7,0,0,63,127,255],[0,1,2,3,4,5,6,7],[(8,[],[])]⟩),(12,⟨[0,1,3,7,0,0,32,96,224,0,512,0,2048,8191,16383,32767],[0,1,2,3,4,5,6,7,8,9,10,11,12,13],[(14,[],[15])]⟩)]⟩
def t9:bE:=⟨1,13,[.cell 2 5 true,.loc 3],
(h_ [o_ (.boxL 1 l_0),o_ (.allocL 2 [(.sl .nil []),(.int .i64 0),(.int .i64 0),(.int .i64 0),(.sl .nil [])]),w_ 3 (i_ 0)]
(.seq (.seq (g_ [o_ (.loadN 8 l_1),c_ 11 [r_0],w_ 4 r_1])
(h_ [v_ l_4,s_ 11 (.bin .neq r_0 (i_ 0))]
(.cond mI
(h_ [o_ (.build [(.sl .nil []),(.int .i64 0),(.int .i64 0),(.int .i64 0),(.sl .nil [])] []),v_ l_4,o_ (.store 5 l_2 r_0),w_ 3 r_1]
.ret)
.skip)))
(.seq (.seq (g_ [f_ 0 l_1,o_ (.loadN 5 r_0),s_ 12 (.call false false 19 [r_1])])
(.cond pF
(h_ [o_ (.build [(.sl .nil []),(.int .i64 0),(.int .i64 0),(.int .i64 0),(.sl .nil [])] []),o_ (.store 5 l_2 r_0),w_ 3 (i_ 2)]
.ret)
.skip))
(h_ [f_ 6 l_1,d_ r_0,o_ (.build [(.sl .nil []),(.int .i64 0)] [(1,1,r_1)]),o_ (.boxH 64 r_2),w_ 5 r_3]
(h_ [v_ l_5,v_ l_5,o_ (.call false false 21 [r_1]),o_ (.lit false [(.int .i64 0)] 1 [(0,r_2)]),o_ (.build [(.int .i64 0),(.int .i64 0),(.int .i64 0),(.int .i64 0),(.int .i64 0),(.sl .nil []),(.sl .nil [])] [(0,1,(i_ 7))]),o_ (.build [(.sl .nil []),(.bool false),(.bool false),(.sl .nil []),(.int .i64 0),(.int .i64 0),(.int .i64 0),(.int .i64 0),(.int .i64 0),(.sl .nil []),(.sl .nil [])] [(0,1,r_3),(2,1,T_),(4,7,r_4)]),o_ (.call false false 20 [r_0,r_5]),w_ 6 r_6]
(h_ [v_ l_5,v_ l_6,o_ (.call false false 22 [r_0,r_1]),v_ r_2,o_ (.extract 0 r_3),o_ (.extract 1 r_3),o_ (.allocL 7 [(.int .i64 0),(.int .i64 0),(.int .i64 0),(.int .i64 0),(.int .i64 0),(.int .i64 0),(.sl .nil []),(.sl .nil []),(.int .i64 0),(.int .i64 0),(.sl .nil []),(.bool false),(.sl .nil []),(.int .i64 0)]),o_ (.store 14 r_6 r_4),w_ 8 r_5]
(h_ [v_ l_5,o_ (.build [(.sl .nil []),(.bool false),(.bool false),(.sl .nil []),(.int .i64 0),(.int .i64 0),(.int .i64 0),(.int .i64 0),(.int .i64 0),(.sl .nil []),(.sl .nil [])] []),o_ (.call false false 20 [r_0,r_1]),w_ 9 r_2]
(.seq (.draw [0,1,2,3,4,5,6,10] [(7,[1,5],[]),(8,[1],[]),(9,[],[]),(11,[],[])] [v_ l_5,o_ (.loadN 14 l_7),o_ (.lit false [(.int .i64 0),(.int .i64 0),(.int .i64 0),(.int .i64 0),(.int .i64 0),(.int .i64 0),(.sl .nil []),(.sl .nil []),(.int .i64 0),(.int .i64 0),(.sl .nil []),(.bool false),(.sl .nil []),(.int .i64 0)] 1 [(0,r_1)]),v_ l_5,f_ 0 l_1,o_ (.loadN 5 r_4),v_ l_8,c_ 25 [r_6],o_ (.call false false 24 [r_3,r_5,r_7]),o_ (.call false false 23 [r_0,r_2,r_8]),s_ 10 (.allocH 46 [(.int .i64 0),(.int .i64 0),(.int .i64 0),(.int .i64 0),(.int .i64 0),(.sl .nil []),(.sl .nil [])]),o_ (.store 7 dU r_9)])
(.seq (.draw [0,1,2,3,4,5,6,7] [(8,[],[])] [v_ l_5,o_ (.nilCheck r_0),f_ 0 r_1,d_ r_2,v_ l_9,o_ (.loadN 7 iD),o_ (.indexAddrS 11 r_3 r_4),f_ 4 r_6,o_ (.store 7 r_7 r_5)])
(.seq (.draw [0,1,2,3,4,5,6,7,8,9,10,11,12,13] [(14,[],[15])] [v_ l_5,o_ (.nilCheck r_0),f_ 0 r_1,d_ r_2,v_ l_9,v_ l_5,o_ (.nilCheck r_5),f_ 1 r_6,d_ r_7,f_ 5 l_1,d_ r_9,f_ 7 l_1,d_ eZ,o_ (.build [(.sl .nil []),(.int .i64 0),(.int .i64 0),(.int .i64 0),(.sl .nil [])] [(0,1,r_3),(1,1,r_4),(2,1,r_8),(3,1,dU),(4,1,gK)]),o_ (.store 5 l_2 iU),w_ 3 (i_ 0)])
.ret))))))))))⟩
def a10:Ann:=⟨[0,1,2,3,4,5,6,7,8,9,13,18],[8,7,2,1],[],[],[(9,⟨[0,0,2,0,8,24,63,0,255],[0,1,2,3,4,7],[(5,[2],[]),(6,[],[]),(8,[],[])]⟩),(11,⟨[0,1,3,7,0,0,32,96,224,0,512,0,2048,8191,16383,32767],[0,1,2,3,4,5,6,7,8,9,10,11,12,13],[(14,[],[15])]⟩)]⟩
def t10:bE:=⟨1,12,[.cell 2 5 true,.loc 3],
(h_ [o_ (.boxL 1 l_0),o_ (.allocL 2 [(.sl .nil []),(.int .i64 0),(.int .i64 0),(.int .i64 0),(.sl .nil [])]),w_ 3 (i_ 0)]
(h_ [o_ (.loadN 8 l_1),c_ 26 [r_0],w_ 4 r_1]
(.seq (.seq (g_ [v_ l_4,s_ 10 (.bin .neq r_0 (i_ 0))])
(.cond iD
(h_ [o_ (.build [(.sl .nil []),(.int .i64 0),(.int .i64 0),(.int .i64 0),(.sl .nil [])] []),v_ l_4,o_ (.store 5 l_2 r_0),w_ 3 r_1]
.ret)
.skip))
(.seq (.seq (g_ [f_ 0 l_1,o_ (.loadN 5 r_0),s_ 11 (.call false false 27 [r_1])])
(.cond mI
(h_ [o_ (.build [(.sl .nil []),(.int .i64 0),(.int .i64 0),(.int .i64 0),(.sl .nil [])] []),o_ (.store 5 l_2 r_0),w_ 3 (i_ 2)]
.ret)
.skip))
(h_ [f_ 6 l_1,d_ r_0,o_ (.build [(.sl .nil []),(.int .i64 0)] [(1,1,r_1)]),o_ (.boxH 78 r_2),w_ 5 r_3]
(h_ [v_ l_5,o_ (.call false false 28 [r_0]),w_ 6 r_1]
(h_ [v_ l_5,v_ l_5,v_ l_6,o_ (.lit false [(.int .i64 0)] 1 [(0,r_2)]),o_ (.build [(.int .i64 0),(.int .i64 0),(.int .i64 0),(.int .i64 0),(.int .i64 0),(.sl .nil []),(.sl .nil [])] [(0,1,(i_ 7))]),o_ (.call false false 30 [r_1,r_3,F_,T_,r_4]),o_ (.call false false 29 [r_0,r_5]),o_ (.allocL 7 [(.bool false),(.int .i64 0),(.int .i64 0),(.int .i64 0),(.int .i64 0),(.int .i64 0),(.sl .nil []),(.sl .nil []),(.int .i64 0),(.int .i64 0),(.sl .nil []),(.bool false),(.sl .nil []),(.int .i64 0)]),o_ (.store 14 r_7 r_6)]
(.seq (.draw [0,1,2,3,4,7] [(5,[2],[]),(6,[],[]),(8,[],[])] [v_ l_5,f_ 0 l_1,o_ (.loadN 5 r_1),f_ 13 l_7,d_ r_3,c_ 32 [r_4],o_ (.call false false 31 [r_0,r_2,r_5]),s_ 8 (.allocH 46 [(.int .i64 0),(.int .i64 0),(.int .i64 0),(.int .i64 0),(.int .i64 0),(.sl .nil []),(.sl .nil [])]),o_ (.store 7 r_7 r_6)])
(h_ [v_ l_5,v_ l_5,o_ (.loadN 14 l_7),o_ (.lit false [(.bool false),(.int .i64 0),(.int .i64 0),(.int .i64 0),(.int .i64 0),(.int .i64 0),(.sl .nil []),(.sl .nil []),(.int .i64 0),(.int .i64 0),(.sl .nil []),(.bool false),(.sl .nil []),(.int .i64 0)] 1 [(0,r_2)]),o_ (.loadN 7 l_8),o_ (.call false false 33 [r_1,r_3,r_4]),o_ (.call false false 30 [r_0,N_,F_,F_,r_5]),w_ 9 r_6]
(.seq (.draw [0,1,2,3,4,5,6,7,8,9,10,11,12,13] [(14,[],[15])] [v_ l_5,o_ (.nilCheck r_0),f_ 0 r_1,d_ r_2,v_ l_9,v_ l_5,o_ (.nilCheck r_5),f_ 1 r_6,d_ r_7,f_ 5 l_1,d_ r_9,f_ 7 l_1,d_ eZ,o_ (.build [(.sl .nil []),(.int .i64 0),(.int .i64 0),(.int .i64 0),(.sl .nil [])] [(0,1,r_3),(1,1,r_4),(2,1,r_8),(3,1,dU),(4,1,gK)]),o_ (.store 5 l_2 iU),w_ 3 (i_ 0)])
.ret))))))))))⟩
def a11:Ann:=⟨[0,1,2,4,5,18,20,21,22,23,33],[4,1],[],[],[]⟩
def t11L0:aQ:=(.seq (g_ [s_ 9 (.bin .lss l_8 l_7)])
(.seq (.cond l_9
.skip
(.exit 0))
(.seq (.block 1
(h_ [o_ (.indexAddrS 5 l_6 l_8),o_ (.loadN 5 r_0),o_ (.allocL 3 [(.int .i64 0),(.int .i64 0),(.str []),(.sl .nil []),(.int .i64 0)]),o_ (.store 5 r_2 r_1)]
(h_ [o_ (.loadN 5 l_3),c_ 34 [r_0],o_ (.un .not r_1),v_ r_2,x_ 3 (.loadN 5 l_3),x_ 3 (.call true false 35 [r_4]),x_ 3 (.un .not r_5),s_ 10 (.pick r_3 T_ r_6)]
(.cond iD
(h_ [w_ 2 (i_ 2)]
.ret)
.skip))))
(g_ [o_ (.bin .add l_8 (i_ 1)),w_ 8 r_0]))))
def t11:bE:=⟨1,11,[.loc 2],
(h_ [o_ (.boxL 1 l_0),w_ 2 (i_ 0)]
(.seq (.seq (g_ [f_ 5 l_1,d_ r_0,o_ (.bin .lss r_1 (i_ 0)),v_ r_2,x_ 3 (.fieldAddr 5 l_1),x_ 3 (.load1 r_4),x_ 3 (.bin .gtr r_5 (i_ 20000)),o_ (.pick r_3 T_ r_6),v_ r_7,x_ 8 (.fieldAddr 6 l_1),x_ 8 (.load1 r_9),x_ 8 (.bin .lss dU (i_ 0)),s_ 5 (.pick r_8 T_ eZ)])
(.cond l_5
(h_ [w_ 2 (i_ 2)]
.ret)
.skip))
(.seq (.seq (g_ [f_ 7 l_1,s_ 6 (.load1 r_0),s_ 7 (.len .sl r_1),w_ 8 (i_ 0)])
(.block 0
(.loop t11L0)))
(h_ [o_ (.loadN 8 l_1),o_ (.mkMap),o_ (.mkMap),o_ (.mkMap),o_ (.build [(.int .i64 0),(.int .i64 0),(.sl .nil []),(.bool false),(.sl .nil []),(.int .i64 0),(.int .i64 0),(.sl .nil []),.nilm,.nilm,.nilm] [(0,8,r_0),(8,1,r_1),(9,1,r_2),(10,1,r_3)]),o_ (.boxH 89 r_4),w_ 4 r_5]
(h_ [v_ l_4,f_ 0 l_1,o_ (.loadN 5 r_1),o_ (.call false false 36 [r_0,r_2,(i_ 0)]),w_ 2 r_3]
.ret)))))⟩
def a12:Ann:=⟨[0,1,2,3,4,5,6,36],[3,2],[],[],[(4,⟨[0,0,0,4,15,0,0,0,128,511,1023,2047],[0,1,2,3,5,6,7,8],[(4,[6,8],[]),(9,[],[10,11])]⟩)]⟩
def t12:bE:=⟨2,8,[.loc 4],
(h_ [o_ (.boxL 2 l_0),o_ (.boxL 3 l_1),w_ 4 F_]
(.seq (.seq (g_ [f_ 0 l_2,d_ r_0,o_ (.len .sl r_1),f_ 0 l_3,d_ r_3,o_ (.len .sl r_4),o_ (.bin .neq r_2 r_5),v_ r_6,x_ 7 (.fieldAddr 2 l_2),x_ 7 (.load1 r_8),x_ 7 (.fieldAddr 2 l_3),x_ 7 (.load1 dU),x_ 7 (.bin .neq r_9 eZ),o_ (.pick r_7 T_ gK),v_ iU,x_ 14 (.fieldAddr 3 l_2),x_ 14 (.load1 uC),x_ 14 (.fieldAddr 3 l_3),x_ 14 (.load1 yP),x_ 14 (.bin .neq vP aEg),o_ (.pick oF T_ aO5),v_ aO6,x_ 21 (.fieldAddr 4 l_2),x_ 21 (.load1 aVh),x_ 21 (.len .sl aVi),x_ 21 (.fieldAddr 4 l_3),x_ 21 (.load1 bGg),x_ 21 (.len .sl bGh),x_ 21 (.bin .neq aVj bJ6),s_ 7 (.pick aO7 T_ bJ7)])
(.cond l_7
(h_ [w_ 4 F_]
.ret)
.skip))
(h_ [o_ (.build [(.sl .nil []),(.sl .nil [])] []),o_ (.boxH 93 r_0),o_ (.build [(.sl .nil []),(.sl .nil [])] []),o_ (.boxH 93 r_2),w_ 5 r_1,w_ 6 r_3]
(.seq (.draw [0,1,2,3,5,6,7,8] [(4,[6,8],[]),(9,[],[10,11])] [v_ l_5,o_ (.loadN 5 l_2),f_ 1 l_2,d_ r_2,o_ (.call false false 37 [r_0,r_1,r_3]),v_ l_6,o_ (.loadN 5 l_3),f_ 1 l_3,d_ r_7,o_ (.call false false 37 [r_5,r_6,r_8]),o_ (.bin .eql r_4 r_9),w_ 4 dU])
.ret))))⟩
def a18:Ann:=⟨[0,1,2,4,5,11,20],[2],[],[],[]⟩
def t18L0:aQ:=(.seq (.seq (g_ [v_ l_4,f_ 4 l_2,d_ r_1,o_ (.len .sl r_2),o_ (.bin .lss r_0 r_3),v_ r_4,y_ 5 (.mov l_1),y_ 5 (.bin .gtr r_6 (i_ 0)),s_ 6 (.pick r_5 r_7 F_)])
(.cond l_6
.skip
(.exit 0)))
(.seq (.block 1
(g_ [f_ 4 l_2,d_ r_0,v_ l_4,o_ (.indexAddrS 5 r_1 r_2),o_ (.loadN 5 r_3),v_ l_1,o_ (.call false false 18 [r_4,r_5]),w_ 1 r_6]))
(g_ [v_ l_4,o_ (.bin .add r_0 (i_ 1)),w_ 4 r_1])))
def t18:bE:=⟨2,7,[.loc 3],
(h_ [o_ (.boxL 2 l_0),w_ 3 (i_ 0)]
(h_ [v_ l_1,o_ (.bin .sub r_0 (i_ 1)),w_ 1 r_1]
(.seq (.seq (g_ [f_ 2 l_2,d_ r_0,o_ (.len .sl r_1),s_ 5 (.bin .gtr r_2 (i_ 100))])
(.cond l_5
(h_ [w_ 3 (i_ 0)]
.ret)
.skip))
(.seq (.seq (g_ [w_ 4 (i_ 0)])
(.block 0
(.loop t18L0)))
(h_ [v_ l_1,w_ 3 r_0]
.ret)))))⟩
def a19:Ann:=⟨[0,1,2],[1],[],[],[]⟩
def t19:bE:=⟨1,3,[.loc 2],
(h_ [o_ (.boxL 1 l_0),w_ 2 F_]
(h_ [f_ 0 l_1,d_ r_0,o_ (.bin .eql r_1 (i_ 4)),v_ r_2,x_ 3 (.fieldAddr 4 l_1),x_ 3 (.load1 r_4),x_ 3 (.call false false 43 [r_5,(.fn 19)]),o_ (.pick r_3 T_ r_6),w_ 2 r_7]
.ret))⟩
def a20:Ann:=⟨[0,1,3,4],[3],[(1,7)],[],[(1,⟨[0,0,2,6,14,0,32,126,255,511,1023],[0,1,2,3,4,5,6],[(7,[],[8,9]),(10,[],[])]⟩)]⟩
def t20:bE:=⟨2,4,[.loc 3],
(h_ [o_ (.boxL 2 l_1),w_ 3 (i_ 0)]
(.seq (.draw [0,1,2,3,4,5,6] [(7,[],[8,9]),(10,[],[])] [v_ l_0,v_ l_0,o_ (.nilCheck r_1),f_ 0 r_2,d_ r_3,o_ (.loadN 11 l_2),o_ (.lit false [(.sl .nil []),(.bool false),(.bool false),(.sl .nil []),(.int .i64 0),(.int .i64 0),(.int .i64 0),(.int .i64 0),(.int .i64 0),(.sl .nil []),(.sl .nil [])] 1 [(0,r_5)]),o_ (.append true 11 144 47 r_4 r_6),o_ (.nilCheck r_0),f_ 0 r_8,o_ (.store 1 r_9 r_7)])
(h_ [v_ l_0,o_ (.nilCheck r_0),f_ 0 r_1,d_ r_2,o_ (.len .sl r_3),o_ (.bin .sub r_4 (i_ 1)),w_ 3 r_5]
.ret)))⟩
def a21:Ann:=⟨[0,2],[],[],[],[]⟩
def t21:bE:=⟨1,2,[.loc 1],
(h_ [w_ 1 (i_ 0)]
(h_ [v_ l_0,o_ (.nilCheck r_0),f_ 1 r_1,d_ r_2,o_ (.bin .add r_3 (i_ 1)),o_ (.nilCheck r_0),f_ 1 r_5,o_ (.store 1 r_6 r_4)]
(h_ [v_ l_0,o_ (.nilCheck r_0),f_ 1 r_1,d_ r_2,o_ (.bin .sub r_3 (i_ 1)),w_ 1 r_4]
.ret)))⟩
def a22:Ann:=⟨[0,1,4,5,6],[4],[],[],[]⟩
def t22:bE:=⟨2,5,[.cell 2 14 true,.loc 3],
(h_ [o_ (.allocL 2 [(.int .i64 0),(.int .i64 0),(.int .i64 0),(.int .i64 0),(.int .i64 0),(.int .i64 0),(.sl .nil []),(.sl .nil []),(.int .i64 0),(.int .i64 0),(.sl .nil []),(.bool false),(.sl .nil []),(.int .i64 0)]),w_ 3 (i_ 0)]
(h_ [v_ l_0,o_ (.call false false 21 [r_0]),w_ 4 r_1]
(h_ [v_ l_4,v_ l_1,o_ (.build [(.int .i64 0),(.int .i64 0),(.int .i64 0),(.int .i64 0),(.int .i64 0),(.sl .nil []),(.sl .nil [])] [(0,1,(i_ 2)),(1,1,r_0),(4,1,r_1)]),v_ l_4,o_ (.build [(.int .i64 0),(.int .i64 0),(.int .i64 0),(.int .i64 0),(.int .i64 0),(.int .i64 0),(.sl .nil []),(.sl .nil []),(.int .i64 0),(.int .i64 0),(.sl .nil []),(.bool false),(.sl .nil []),(.int .i64 0)] [(1,7,r_2),(13,1,r_3)]),v_ l_4,o_ (.store 14 l_2 r_4),w_ 3 r_5]
.ret)))⟩
def a23:Ann:=⟨[0,1,2,3,5,6,8,9,10,11,12,14,15,16,19],[6],[],[],[(9,⟨[0,0,2,0,8,31,63,127,255,511],[0,1,2,3],[(4,[0,2],[]),(5,[],[6,7,8]),(9,[],[])]⟩)]⟩
def t23:bE:=⟨3,15,[.cell 5 7 true],
(h_ [s_ 3 (.boxH 62 l_0),s_ 4 (.boxH 46 l_2),o_ (.allocL 5 [(.int .i64 0),(.int .i64 0),(.int .i64 0),(.int .i64 0),(.int .i64 0),(.sl .nil []),(.sl .nil [])])]
(.seq (.seq (g_ [v_ l_1,s_ 11 (.call false false 44 [r_0])])
(.block 0
(.rangeFunc mI [12,13]
(g_ [s_ 6 (.allocH 68 [(.int .i64 0),(.int .i64 0),(.int .i64 0),(.int .i64 0),(.int .i64 0),(.int .i64 0),(.sl .nil []),(.sl .nil []),(.int .i64 0),(.int .i64 0),(.sl .nil []),(.bool false),(.sl .nil []),(.int .i64 0)]),o_ (.store 14 r_0 gW)])
(.block 1
(.seq (.seq (g_ [f_ 0 l_6,d_ r_0,s_ 14 (.bin .eql r_1 (i_ 0))])
(.cond lM
(h_ [f_ 1 l_6,o_ (.loadN 7 r_0),s_ 7 (.allocH 46 [(.int .i64 0),(.int .i64 0),(.int .i64 0),(.int .i64 0),(.int .i64 0),(.sl .nil []),(.sl .nil [])]),o_ (.store 7 r_2 r_1)]
(h_ [o_ (.loadN 7 l_4),o_ (.lit false [(.int .i64 0),(.int .i64 0),(.int .i64 0),(.int .i64 0),(.int .i64 0),(.sl .nil []),(.sl .nil [])] 1 [(0,r_0)]),f_ 6 l_7,o_ (.store 1 r_2 r_1)]
(h_ [o_ (.loadN 7 l_7),o_ (.store 7 l_4 r_0)]
(.exit 1))))
.skip))
(h_ [d_ l_3,f_ 13 l_6,d_ r_1,o_ (.lit false [(.int .i64 0)] 1 [(0,r_2)]),o_ (.loadN 7 l_4),o_ (.build [(.sl .nil []),(.bool false),(.bool false),(.sl .nil []),(.int .i64 0),(.int .i64 0),(.int .i64 0),(.int .i64 0),(.int .i64 0),(.sl .nil []),(.sl .nil [])] [(0,1,r_3),(2,1,T_),(4,7,r_4)]),o_ (.call false false 20 [r_0,r_5]),w_ 8 r_6]
(h_ [d_ l_3,v_ l_8,o_ (.call false false 22 [r_0,r_1]),v_ r_2,o_ (.extract 0 r_3),o_ (.extract 1 r_3),s_ 9 (.allocH 68 [(.int .i64 0),(.int .i64 0),(.int .i64 0),(.int .i64 0),(.int .i64 0),(.int .i64 0),(.sl .nil []),(.sl .nil []),(.int .i64 0),(.int .i64 0),(.sl .nil []),(.bool false),(.sl .nil []),(.int .i64 0)]),o_ (.store 14 r_6 r_4),w_ 10 r_5]
(.seq (.draw [0,1,2,3] [(4,[0,2],[]),(5,[],[6,7,8]),(9,[],[])] [d_ l_3,f_ 8 l_6,o_ (.loadN 5 r_1),v_ iD,c_ 25 [r_3],o_ (.call false false 24 [r_0,r_2,r_4]),o_ (.lit false [(.int .i64 0),(.int .i64 0),(.int .i64 0),(.int .i64 0),(.int .i64 0),(.sl .nil []),(.sl .nil [])] 1 [(0,r_5)]),f_ 1 l_9,f_ 6 r_7,o_ (.store 1 r_8 r_6)])
(g_ [f_ 1 l_9,o_ (.loadN 7 r_0),o_ (.store 7 l_4 r_1)])))))))))
(h_ [o_ (.loadN 7 l_4),o_ (.store 7 l_5 r_0)]
.ret)))⟩
def a24:Ann:=⟨[0,1,2,4,5,6,7,8,9,10,11,12,13,15,16,37,70,77],[13,10,6,5,4],[],[],[(4,⟨[0,0,0,4,0,16,0,64,252,508,1020,2047,4095],[0,1,2,3,4,5,6,7,8],[(9,[],[]),(10,[],[]),(11,[],[]),(12,[],[])]⟩),(7,⟨[0,0,2,6,14,0,63,0,0,256,768,1792,0,8191,16383,32767],[0,1,2,3,4,5,7,8,9,10,11,12],[(6,[9,11,12],[]),(13,[],[14,15])]⟩)]⟩
def t24:bE:=⟨3,18,[.cell 5 7 true],
(h_ [o_ (.boxL 3 l_1),o_ (.boxL 4 l_2),o_ (.allocL 5 [(.int .i64 0),(.int .i64 0),(.int .i64 0),(.int .i64 0),(.int .i64 0),(.sl .nil []),(.sl .nil [])])]
(.seq (.seq (g_ [f_ 0 l_3,s_ 13 (.load1 r_0)])
(.block 0
(h_ [o_ (.bin .eql gW (i_ 8)),w_ 14 r_0]
(.cond lM
(h_ [v_ l_0,f_ 4 l_3,d_ r_1,o_ (.call false false 45 [r_0,r_2]),v_ r_3,o_ (.extract 0 r_4),o_ (.extract 1 r_4),w_ 6 r_5,w_ 7 r_6]
(.seq (.draw [0,1,2,3,4,5,6,7,8] [(9,[],[]),(10,[],[]),(11,[],[]),(12,[],[])] [v_ l_0,v_ l_6,v_ l_7,o_ (.slice (.sl 2) r_2 none (some (i_ 1)) none),o_ (.loadN 2 l_4),o_ (.lit false [(.int .i64 0),(.int .i64 0)] 1 [(0,r_4)]),v_ l_7,o_ (.slice (.sl 2) r_6 (some (i_ 1)) none none),o_ (.lit false [(.sl .nil [])] 3 [(0,r_3),(1,r_5),(2,r_7)]),o_ (.call false false 47 [r_8]),o_ (.call false false 46 [r_9]),o_ (.call false false 23 [r_0,r_1,dU]),o_ (.store 7 l_5 eZ)])
.ret))
(h_ [o_ (.bin .eql gW (i_ 6)),w_ 15 r_0]
(.cond xJ
(h_ [v_ l_0,f_ 4 l_3,d_ r_1,o_ (.indexAddrS 5 r_2 (i_ 0)),o_ (.loadN 5 r_3),o_ (.call false false 48 [r_0,r_4]),v_ r_5,o_ (.extract 0 r_6),o_ (.extract 1 r_6),o_ (.allocL 9 [(.int .i64 0),(.int .i64 0)]),w_ 8 r_7,o_ (.store 2 r_9 r_8)]
(.seq (.draw [0,1,2,3,4,5,7,8,9,10,11,12] [(6,[9,11,12],[]),(13,[],[14,15])] [v_ l_0,f_ 4 l_3,d_ r_1,o_ (.indexAddrS 5 r_2 (i_ 1)),o_ (.loadN 5 r_3),o_ (.loadN 2 l_4),o_ (.call false false 24 [r_0,r_4,r_5]),v_ l_0,f_ 4 l_3,d_ r_8,o_ (.indexAddrS 5 r_9 (i_ 2)),o_ (.loadN 5 dU),o_ (.loadN 2 l_4),o_ (.call false false 24 [r_7,eZ,gK]),o_ (.lit false [(.int .i64 0),(.int .i64 0),(.int .i64 0),(.int .i64 0),(.int .i64 0),(.sl .nil []),(.sl .nil [])] 2 [(0,r_6),(1,iU)]),w_ 10 oF])
(h_ [v_ l_0,v_ l_8,o_ (.loadN 2 l_9),o_ (.lit false [(.int .i64 0),(.int .i64 0)] 1 [(0,r_2)]),v_ iD,o_ (.build [(.int .i64 0),(.int .i64 0),(.int .i64 0),(.int .i64 0),(.int .i64 0),(.sl .nil []),(.sl .nil [])] [(0,1,(i_ 3)),(5,1,r_3),(6,1,r_4)]),o_ (.call false false 23 [r_0,r_1,r_5]),o_ (.store 7 l_5 r_6)]
.ret)))
(h_ [o_ (.bin .eql gW (i_ 10)),w_ 16 r_0]
(.cond aDq
(h_ [v_ l_0,f_ 4 l_3,d_ r_1,o_ (.loadN 2 l_4),o_ (.call false false 49 [r_0,r_2,r_3]),o_ (.store 7 l_5 r_4)]
.ret)
(h_ [o_ (.bin .eql gW (i_ 11)),w_ 17 r_0]
(.cond yQ
(h_ [v_ l_0,o_ (.loadN 5 l_3),o_ (.loadN 2 l_4),o_ (.call false false 50 [r_0,r_1,r_2]),o_ (.store 7 l_5 r_3)]
.ret)
.skip))))))))))
(h_ [v_ l_0,o_ (.loadN 5 l_3),o_ (.call false false 48 [r_0,r_1]),v_ r_2,o_ (.extract 0 r_3),o_ (.extract 1 r_3),o_ (.allocL 12 [(.int .i64 0),(.int .i64 0)]),w_ 11 r_4,o_ (.store 2 r_6 r_5)]
(h_ [v_ l_0,v_ mI,o_ (.loadN 2 l_4),o_ (.loadN 2 pF),o_ (.lit false [(.int .i64 0),(.int .i64 0)] 2 [(0,r_2),(1,r_3)]),o_ (.call false false 46 [r_4]),o_ (.call false false 23 [r_0,r_1,r_5]),o_ (.store 7 l_5 r_6)]
.ret))))⟩
def a25:Ann:=⟨[0,2],[2],[],[],[]⟩
def t25:bE:=⟨1,2,[.cell 1 2 true],
(h_ [o_ (.allocL 1 [(.int .i64 0),(.int .i64 0)])]
(h_ [v_ l_0,o_ (.build [(.int .i64 0),(.int .i64 0)] [(0,1,(i_ 1)),(1,1,r_0)]),o_ (.store 2 l_1 r_1)]
.ret))⟩
def a26:Ann:=⟨[0,1,2,3,4,17,22,40],[1],[],[],[]⟩
def t26L0:aQ:=(.seq (.seq (g_ [v_ l_3,f_ 7 l_1,d_ r_1,o_ (.len .sl r_2),s_ 6 (.bin .lss r_0 r_3)])
(.cond l_6
.skip
(.exit 0)))
(.seq (.block 1
(h_ [f_ 7 l_1,d_ r_0,v_ l_3,o_ (.indexAddrS 5 r_1 r_2),o_ (.loadN 5 r_3),c_ 51 [r_4],o_ (.un .not r_5),v_ r_6,x_ 7 (.fieldAddr 7 l_1),x_ 7 (.load1 r_8),x_ 7 (.mov l_3),x_ 7 (.indexAddrS 5 r_9 dU),x_ 7 (.loadN 5 eZ),x_ 7 (.call true false 52 [gK]),x_ 7 (.un .not iU),s_ 7 (.pick r_7 T_ oF)]
(.cond l_7
(h_ [w_ 2 (i_ 2)]
.ret)
.skip)))
(g_ [v_ l_3,o_ (.bin .add r_0 (i_ 1)),w_ 3 r_1])))
def t26:bE:=⟨1,8,[.loc 2],
(h_ [o_ (.boxL 1 l_0),w_ 2 (i_ 0)]
(.seq (.seq (g_ [f_ 5 l_1,d_ r_0,o_ (.bin .lss r_1 (i_ 0)),v_ r_2,x_ 3 (.fieldAddr 5 l_1),x_ 3 (.load1 r_4),x_ 3 (.bin .gtr r_5 (i_ 20000)),o_ (.pick r_3 T_ r_6),v_ r_7,x_ 8 (.fieldAddr 6 l_1),x_ 8 (.load1 r_9),x_ 8 (.bin .lss dU (i_ 0)),s_ 5 (.pick r_8 T_ eZ)])
(.cond l_5
(h_ [w_ 2 (i_ 2)]
.ret)
.skip))
(.seq (.seq (g_ [w_ 3 (i_ 0)])
(.block 0
(.loop t26L0)))
(h_ [o_ (.loadN 8 l_1),o_ (.build [(.int .i64 0),(.int .i64 0),(.sl .nil []),(.bool false),(.sl .nil []),(.int .i64 0),(.int .i64 0),(.sl .nil []),(.sl .nil []),(.sl .nil [])] [(0,8,r_0)]),o_ (.boxH 115 r_1),w_ 4 r_2]
(h_ [v_ l_4,f_ 0 l_1,o_ (.loadN 5 r_1),o_ (.call false false 53 [r_0,r_2,N_,(i_ 0)]),w_ 2 r_3]
.ret)))))⟩
def a27:Ann:=⟨[0,1,2,3,6,11,19],[1],[],[],[]⟩
def t27L0:aQ:=(.seq (.seq (g_ [v_ l_3,f_ 4 l_1,d_ r_1,o_ (.len .sl r_2),s_ 5 (.bin .lss r_0 r_3)])
(.cond l_5
.skip
(.exit 0)))
(.seq (.block 1
(h_ [f_ 4 l_1,d_ r_0,v_ l_3,o_ (.indexAddrS 5 r_1 r_2),o_ (.loadN 5 r_3),s_ 6 (.call false false 27 [r_4])]
(.cond l_6
(h_ [w_ 2 T_]
.ret)
.skip)))
(g_ [v_ l_3,o_ (.bin .add r_0 (i_ 1)),w_ 3 r_1])))
def t27:bE:=⟨1,7,[.loc 2],
(h_ [o_ (.boxL 1 l_0),w_ 2 F_]
(.seq (.seq (g_ [f_ 0 l_1,d_ r_0,s_ 4 (.bin .eql r_1 (i_ 4))])
(.cond l_4
(h_ [w_ 2 T_]
.ret)
.skip))
(.seq (.seq (g_ [w_ 3 (i_ 0)])
(.block 0
(.loop t27L0)))
(h_ [w_ 2 F_]
.ret))))⟩
def a28:Ann:=⟨[0,2],[],[],[],[]⟩
def t28:bE:=⟨1,2,[.loc 1],
(h_ [w_ 1 (i_ 0)]
(h_ [v_ l_0,o_ (.nilCheck r_0),f_ 1 r_1,d_ r_2,o_ (.bin .add r_3 (i_ 1)),o_ (.nilCheck r_0),f_ 1 r_5,o_ (.store 1 r_6 r_4)]
(h_ [v_ l_0,o_ (.nilCheck r_0),f_ 1 r_1,d_ r_2,o_ (.bin .sub r_3 (i_ 1)),w_ 1 r_4]
.ret)))⟩
def a29:Ann:=⟨[0,1,4,5],[4],[],[],[]⟩
def t29:bE:=⟨2,4,[.cell 2 14 true],
(h_ [o_ (.allocL 2 [(.bool false),(.int .i64 0),(.int .i64 0),(.int .i64 0),(.int .i64 0),(.int .i64 0),(.sl .nil []),(.sl .nil []),(.int .i64 0),(.int .i64 0),(.sl .nil []),(.bool false),(.sl .nil []),(.int .i64 0)])]
(h_ [v_ l_0,o_ (.call false false 28 [r_0]),w_ 3 r_1]
(h_ [v_ l_3,v_ l_1,o_ (.build [(.int .i64 0),(.int .i64 0),(.int .i64 0),(.int .i64 0),(.int .i64 0),(.sl .nil []),(.sl .nil [])] [(0,1,(i_ 2)),(1,1,r_0),(4,1,r_1)]),v_ l_3,o_ (.build [(.bool false),(.int .i64 0),(.int .i64 0),(.int .i64 0),(.int .i64 0),(.int .i64 0),(.sl .nil []),(.sl .nil []),(.int .i64 0),(.int .i64 0),(.sl .nil []),(.bool false),(.sl .nil []),(.int .i64 0)] [(1,7,r_2),(13,1,r_3)]),o_ (.store 14 l_2 r_4)]
.ret)))⟩
def a30:Ann:=⟨[0,1,2,3,4,9,10],[9],[(1,11),(1,12),(1,10)],[],[(1,⟨[0,0,2,6,14,0,0,0,0,480,992,2046,4095,8191,16383],[0,1,2,3,4,5,6,7,8,9,10],[(11,[],[12,13]),(14,[],[])]⟩)]⟩
def t30:bE:=⟨5,7,[.loc 6],
(h_ [o_ (.boxL 5 l_4),w_ 6 (i_ 0)]
(.seq (.draw [0,1,2,3,4,5,6,7,8,9,10] [(11,[],[12,13]),(14,[],[])] [v_ l_0,v_ l_0,o_ (.nilCheck r_1),f_ 0 r_2,d_ r_3,v_ l_1,v_ l_2,v_ l_3,o_ (.loadN 7 l_5),o_ (.build [(.sl .nil []),(.bool false),(.bool false),(.sl .nil []),(.int .i64 0),(.int .i64 0),(.int .i64 0),(.int .i64 0),(.int .i64 0),(.sl .nil []),(.sl .nil [])] [(0,1,r_5),(1,1,r_6),(2,1,r_7),(4,7,r_8)]),o_ (.lit true [(.sl .nil []),(.bool false),(.bool false),(.sl .nil []),(.int .i64 0),(.int .i64 0),(.int .i64 0),(.int .i64 0),(.int .i64 0),(.sl .nil []),(.sl .nil [])] 1 [(0,r_9)]),o_ (.append true 11 144 47 r_4 dU),o_ (.nilCheck r_0),f_ 0 gK,o_ (.store 1 iU eZ)])
(h_ [v_ l_0,o_ (.nilCheck r_0),f_ 0 r_1,d_ r_2,o_ (.len .sl r_3),o_ (.bin .sub r_4 (i_ 1)),w_ 6 r_5]
.ret)))⟩
def a31:Ann:=⟨[0,1,2,4,5,6,7,8,9,10,11,12,13,14,15,17,18,20,21,22,23,24,25,26,27,28,29,30,36,75,116,147,170,185,186,219],[30,28,22,20,14,13,12,11,10,9,6,5,4],[],[],[(4,⟨[0,0,2,6,14,0,63,0,255],[0,1,2,3,4,5,7],[(6,[],[]),(8,[],[])]⟩),(5,⟨[0,0,2,6,14,0,63,0,255],[0,1,2,3,4,5,7],[(6,[],[]),(8,[],[])]⟩),(11,⟨[0,0,0,4,12,0,62,127,0,511],[0,1,2,5,8],[(3,[5],[4]),(6,[],[]),(7,[],[]),(9,[],[])]⟩),(18,⟨[0,0,2,0,8,30,62,0,255,0,1023],[0,1,2,3,4,5,6,7,9],[(8,[],[]),(10,[],[])]⟩),(25,⟨[0,1,3,0,15,31],[0,1,2,3,4,5],[]⟩),(31,⟨[0,0,0,0,12,0,0,64,224,480,1022,2047,0,8191],[0,1,2,3,4,5,6,12],[(7,[5],[8,9]),(10,[],[]),(11,[],[]),(13,[],[])]⟩),(32,⟨[0,0,0,4,14,0,32,96,0,0,512,1566,4094,8190,16383,32767],[0,1,2,3,5,6,7,8,9,10],[(4,[7,8,10],[]),(11,[7,8],[12,13]),(14,[],[]),(15,[],[])]⟩),(34,⟨[0,0,0,4,12,0,0,64,192,508,1020,2047,4095],[0,1,2,3,4,5,6,7,8,9,10],[(11,[],[]),(12,[],[])]⟩),(36,⟨[0,0,0,4,0,16,48,0,0,256,1008,2032,4094,8191,0,32767],[0,1,2,3,4,5,6,7,8,14],[(9,[6,7],[10,11]),(12,[],[]),(13,[],[]),(15,[],[])]⟩),(37,⟨[0,0,0,4,14,0,32,96,0,256,798,2046,4094,8191,16383],[0,1,2,3,5,6,7,8,9],[(4,[7,9],[]),(10,[7],[11,12]),(13,[],[]),(14,[],[])]⟩)]⟩
def t31:bE:=⟨3,36,[.cell 5 7 true],
(h_ [o_ (.boxL 3 l_1),o_ (.boxL 4 l_2),o_ (.allocL 5 [(.int .i64 0),(.int .i64 0),(.int .i64 0),(.int .i64 0),(.int .i64 0),(.sl .nil []),(.sl .nil [])])]
(h_ [f_ 4 l_3,d_ r_0,o_ (.len .sl r_1),w_ 6 r_2]
(.seq (.seq (g_ [f_ 0 l_3,d_ r_0,s_ 28 (.bin .eql r_1 (i_ 6))])
(.cond bLy
(h_ [v_ l_0,f_ 4 l_3,d_ r_1,o_ (.indexAddrS 5 r_2 (i_ 0)),o_ (.loadN 5 r_3),o_ (.call false false 54 [r_0,r_4]),v_ r_5,o_ (.extract 0 r_6),o_ (.extract 1 r_6),o_ (.allocL 8 [(.int .i64 0),(.int .i64 0)]),w_ 7 r_7,o_ (.store 2 r_9 r_8)]
(.seq (.draw [0,1,2,3,4,5,7] [(6,[],[]),(8,[],[])] [v_ l_0,f_ 4 l_3,d_ r_1,o_ (.indexAddrS 5 r_2 (i_ 1)),o_ (.loadN 5 r_3),o_ (.loadN 2 l_4),o_ (.call false false 31 [r_0,r_4,r_5]),s_ 9 (.allocH 46 [(.int .i64 0),(.int .i64 0),(.int .i64 0),(.int .i64 0),(.int .i64 0),(.sl .nil []),(.sl .nil [])]),o_ (.store 7 r_7 r_6)])
(.seq (.draw [0,1,2,3,4,5,7] [(6,[],[]),(8,[],[])] [v_ l_0,f_ 4 l_3,d_ r_1,o_ (.indexAddrS 5 r_2 (i_ 2)),o_ (.loadN 5 r_3),o_ (.loadN 2 l_4),o_ (.call false false 31 [r_0,r_4,r_5]),s_ 10 (.allocH 46 [(.int .i64 0),(.int .i64 0),(.int .i64 0),(.int .i64 0),(.int .i64 0),(.sl .nil []),(.sl .nil [])]),o_ (.store 7 r_7 r_6)])
(h_ [v_ l_0,v_ l_7,o_ (.loadN 2 l_8),o_ (.lit false [(.int .i64 0),(.int .i64 0)] 1 [(0,r_2)]),o_ (.loadN 7 l_9),o_ (.loadN 7 iD),o_ (.lit false [(.int .i64 0),(.int .i64 0),(.int .i64 0),(.int .i64 0),(.int .i64 0),(.sl .nil []),(.sl .nil [])] 2 [(0,r_4),(1,r_5)]),o_ (.build [(.int .i64 0),(.int .i64 0),(.int .i64 0),(.int .i64 0),(.int .i64 0),(.sl .nil []),(.sl .nil [])] [(0,1,(i_ 3)),(5,1,r_3),(6,1,r_6)]),o_ (.call false false 33 [r_0,r_1,r_7]),o_ (.store 7 l_5 r_8)]
.ret))))
.skip))
(.seq (.seq (g_ [f_ 0 l_3,d_ r_0,o_ (.bin .eql r_1 (i_ 10)),v_ r_2,y_ 3 (.mov l_6),y_ 3 (.bin .gtr r_4 (i_ 64)),s_ 29 (.pick r_3 r_5 F_)])
(.cond bLz
(h_ [o_ (.loadN 5 l_3),o_ (.allocL 11 [(.int .i64 0),(.int .i64 0),(.sl .nil []),(.bool false),(.sl .nil [])]),o_ (.store 5 r_1 r_0)]
(h_ [f_ 4 l_3,d_ r_0,o_ (.slice (.sl 5) r_1 (some (i_ 64)) none none),f_ 4 mI,o_ (.store 1 r_3 r_2)]
(h_ [v_ l_0,o_ (.loadN 5 mI),o_ (.loadN 2 l_4),o_ (.call false false 31 [r_0,r_1,r_2]),o_ (.allocL 12 [(.int .i64 0),(.int .i64 0),(.int .i64 0),(.int .i64 0),(.int .i64 0),(.sl .nil []),(.sl .nil [])]),o_ (.store 7 r_4 r_3)]
(.seq (.draw [0,1,2,5,8] [(3,[5],[4]),(6,[],[]),(7,[],[]),(9,[],[])] [v_ l_0,v_ l_0,v_ l_0,o_ (.call false false 28 [r_2]),o_ (.lit false [(.int .i64 0)] 1 [(0,r_3)]),o_ (.loadN 7 pF),o_ (.call false false 30 [r_1,r_4,T_,T_,r_5]),o_ (.call false false 29 [r_0,r_6]),s_ 13 (.allocH 80 [(.bool false),(.int .i64 0),(.int .i64 0),(.int .i64 0),(.int .i64 0),(.int .i64 0),(.sl .nil []),(.sl .nil []),(.int .i64 0),(.int .i64 0),(.sl .nil []),(.bool false),(.sl .nil []),(.int .i64 0)]),o_ (.store 14 r_8 r_7)])
(h_ [v_ l_0,f_ 4 l_3,d_ r_1,o_ (.slice (.sl 5) r_2 none (some (i_ 64)) none),o_ (.call false false 55 [r_0,r_3]),v_ r_4,o_ (.extract 0 r_5),o_ (.extract 1 r_5),w_ 14 r_6,v_ r_7]
(h_ [o_ (.loadN 14 gW),o_ (.lit false [(.bool false),(.int .i64 0),(.int .i64 0),(.int .i64 0),(.int .i64 0),(.int .i64 0),(.sl .nil []),(.sl .nil []),(.int .i64 0),(.int .i64 0),(.sl .nil []),(.bool false),(.sl .nil []),(.int .i64 0)] 1 [(0,r_0)]),w_ 15 r_1]
(h_ [v_ xJ,v_ lM,o_ (.append false 14 176 79 r_0 r_1),w_ 15 r_2]
(h_ [v_ l_0,v_ xJ,f_ 13 gW,d_ r_2,c_ 32 [r_3],o_ (.lit false [(.int .i64 0),(.int .i64 0)] 1 [(0,r_4)]),o_ (.build [(.int .i64 0),(.int .i64 0),(.int .i64 0),(.int .i64 0),(.int .i64 0),(.sl .nil []),(.sl .nil [])] [(0,1,(i_ 4)),(5,1,r_5)]),o_ (.call false false 33 [r_0,r_1,r_6]),o_ (.store 7 l_5 r_7)]
.ret))))))))
.skip))
(.seq (.seq (g_ [f_ 0 l_3,d_ r_0,s_ 30 (.bin .eql r_1 (i_ 10))])
(.cond bNv
(h_ [v_ l_0,f_ 4 l_3,d_ r_1,v_ l_6,o_ (.bin .sub r_3 (i_ 1)),o_ (.slice (.sl 5) r_2 none (some r_4) none),o_ (.call false false 55 [r_0,r_5]),v_ r_6,o_ (.extract 0 r_7),o_ (.extract 1 r_7),w_ 16 r_8,v_ r_9]
(.seq (.draw [0,1,2,3,4,5,6,7,9] [(8,[],[]),(10,[],[])] [v_ l_0,f_ 4 l_3,d_ r_1,v_ l_6,o_ (.bin .sub r_3 (i_ 1)),o_ (.indexAddrS 5 r_2 r_4),o_ (.loadN 5 r_5),o_ (.loadN 2 l_4),o_ (.call false false 31 [r_0,r_6,r_7]),s_ 17 (.allocH 46 [(.int .i64 0),(.int .i64 0),(.int .i64 0),(.int .i64 0),(.int .i64 0),(.sl .nil []),(.sl .nil [])]),o_ (.store 7 r_9 r_8)])
(h_ [v_ l_0,v_ aDq,o_ (.loadN 7 yQ),o_ (.call false false 33 [r_0,r_1,r_2]),o_ (.store 7 l_5 r_3)]
.ret)))
.skip))
(.seq (.seq (g_ [f_ 0 l_3,d_ r_0,o_ (.bin .neq r_1 (i_ 8)),v_ r_2,y_ 3 (.fieldAddr 0 l_3),y_ 3 (.load1 r_4),y_ 3 (.bin .neq r_5 (i_ 11)),s_ 31 (.pick r_3 r_6 F_)])
(.cond bNw
(h_ [v_ l_0,o_ (.loadN 5 l_3),o_ (.call false false 54 [r_0,r_1]),v_ r_2,o_ (.extract 0 r_3),o_ (.extract 1 r_3),o_ (.allocL 19 [(.int .i64 0),(.int .i64 0)]),w_ 18 r_4,o_ (.store 2 r_6 r_5)]
(h_ [v_ l_0,v_ qX,o_ (.loadN 2 l_4),o_ (.loadN 2 aLp),o_ (.lit false [(.int .i64 0),(.int .i64 0)] 2 [(0,r_2),(1,r_3)]),o_ (.build [(.int .i64 0),(.int .i64 0),(.int .i64 0),(.int .i64 0),(.int .i64 0),(.sl .nil []),(.sl .nil [])] [(0,1,(i_ 4)),(5,1,r_4)]),o_ (.call false false 33 [r_0,r_1,r_5]),o_ (.store 7 l_5 r_6)]
.ret))
.skip))
(h_ [v_ l_0,f_ 4 l_3,d_ r_1,o_ (.call false false 55 [r_0,r_2]),v_ r_3,o_ (.extract 0 r_4),o_ (.extract 1 r_4),w_ 20 r_5,w_ 21 r_6]
(.seq (.seq (g_ [f_ 0 l_3,d_ r_0,s_ 32 (.bin .eql r_1 (i_ 8))])
(.cond bNx
(.seq (.draw [0,1,2,3,4,5] [] [v_ aDr,o_ (.indexAddrS 2 r_0 (i_ 0)),o_ (.loadN 2 r_1),o_ (.loadN 2 l_4),o_ (.lit false [(.int .i64 0),(.int .i64 0)] 2 [(0,r_2),(1,r_3)]),w_ 22 r_4])
(h_ [v_ l_0,v_ aIa,v_ bJ8,v_ aDr,o_ (.slice (.sl 2) r_3 (some (i_ 1)) none none),o_ (.append false 2 16 53 r_2 r_4),o_ (.build [(.int .i64 0),(.int .i64 0),(.int .i64 0),(.int .i64 0),(.int .i64 0),(.sl .nil []),(.sl .nil [])] [(0,1,(i_ 4)),(5,1,r_5)]),o_ (.call false false 33 [r_0,r_1,r_6]),o_ (.store 7 l_5 r_7)]
.ret))
.skip))
(.seq (.seq (g_ [f_ 1 l_3,s_ 33 (.load1 r_0)])
(.block 0
(h_ [o_ (.bin .eql bL0 (i_ 0)),w_ 34 r_0]
(.cond bNy
(h_ [v_ l_0,o_ (.call false false 28 [r_0]),w_ 23 r_1]
(h_ [v_ l_0,o_ (.call false false 28 [r_0]),w_ 24 r_1]
(.seq (.draw [0,1,2,3,4,5,6,12] [(7,[5],[8,9]),(10,[],[]),(11,[],[]),(13,[],[])] [v_ l_0,v_ l_0,v_ bJ9,v_ aVk,o_ (.lit false [(.int .i64 0)] 2 [(0,r_2),(1,r_3)]),o_ (.loadN 2 l_4),v_ aVk,c_ 32 [r_6],o_ (.lit false [(.int .i64 0),(.int .i64 0)] 2 [(0,r_5),(1,r_7)]),o_ (.build [(.int .i64 0),(.int .i64 0),(.int .i64 0),(.int .i64 0),(.int .i64 0),(.sl .nil []),(.sl .nil [])] [(0,1,(i_ 6)),(5,1,r_8)]),o_ (.call false false 30 [r_1,r_4,T_,F_,r_9]),o_ (.call false false 29 [r_0,dU]),s_ 25 (.allocH 80 [(.bool false),(.int .i64 0),(.int .i64 0),(.int .i64 0),(.int .i64 0),(.int .i64 0),(.sl .nil []),(.sl .nil []),(.int .i64 0),(.int .i64 0),(.sl .nil []),(.bool false),(.sl .nil []),(.int .i64 0)]),o_ (.store 14 gK eZ)])
(.seq (.draw [0,1,2,3,5,6,7,8,9,10] [(4,[7,8,10],[]),(11,[7,8],[12,13]),(14,[],[]),(15,[],[])] [v_ l_0,v_ aIa,o_ (.loadN 14 bGi),o_ (.lit false [(.bool false),(.int .i64 0),(.int .i64 0),(.int .i64 0),(.int .i64 0),(.int .i64 0),(.sl .nil []),(.sl .nil []),(.int .i64 0),(.int .i64 0),(.sl .nil []),(.bool false),(.sl .nil []),(.int .i64 0)] 1 [(0,r_2)]),o_ (.append false 14 176 79 r_1 r_3),v_ aDr,o_ (.indexAddrS 2 r_5 (i_ 0)),o_ (.loadN 2 r_6),o_ (.loadN 2 l_4),f_ 13 bGi,d_ r_9,c_ 32 [dU],o_ (.lit false [(.int .i64 0),(.int .i64 0)] 3 [(0,r_7),(1,r_8),(2,eZ)]),o_ (.build [(.int .i64 0),(.int .i64 0),(.int .i64 0),(.int .i64 0),(.int .i64 0),(.sl .nil []),(.sl .nil [])] [(0,1,(i_ 4)),(5,1,gK)]),o_ (.call false false 33 [r_0,r_4,iU]),o_ (.store 7 l_5 oF)])
.ret))))
(h_ [o_ (.bin .eql bL0 (i_ 1)),w_ 35 r_0]
(.cond bNz
(.seq (.draw [0,1,2,3,4,5,6,7,8,9,10] [(11,[],[]),(12,[],[])] [v_ l_0,v_ aIa,v_ aDr,o_ (.indexAddrS 2 r_2 (i_ 0)),o_ (.loadN 2 r_3),o_ (.loadN 2 l_4),v_ aDr,o_ (.indexAddrS 2 r_6 (i_ 1)),o_ (.loadN 2 r_7),o_ (.lit false [(.int .i64 0),(.int .i64 0)] 3 [(0,r_4),(1,r_5),(2,r_8)]),o_ (.build [(.int .i64 0),(.int .i64 0),(.int .i64 0),(.int .i64 0),(.int .i64 0),(.sl .nil []),(.sl .nil [])] [(0,1,(i_ 6)),(5,1,r_9)]),o_ (.call false false 33 [r_0,r_1,dU]),o_ (.store 7 l_5 eZ)])
.ret)
.skip))))))
(h_ [v_ l_0,o_ (.call false false 28 [r_0]),w_ 26 r_1]
(.seq (.draw [0,1,2,3,4,5,6,7,8,14] [(9,[6,7],[10,11]),(12,[],[]),(13,[],[]),(15,[],[])] [v_ l_0,v_ l_0,v_ aVl,o_ (.lit false [(.int .i64 0)] 1 [(0,r_2)]),v_ aDr,o_ (.indexAddrS 2 r_4 (i_ 1)),o_ (.loadN 2 r_5),o_ (.loadN 2 l_4),v_ aVl,c_ 32 [r_8],o_ (.lit false [(.int .i64 0),(.int .i64 0)] 3 [(0,r_6),(1,r_7),(2,r_9)]),o_ (.build [(.int .i64 0),(.int .i64 0),(.int .i64 0),(.int .i64 0),(.int .i64 0),(.sl .nil []),(.sl .nil [])] [(0,1,(i_ 6)),(5,1,dU)]),o_ (.call false false 30 [r_1,r_3,T_,T_,eZ]),o_ (.call false false 29 [r_0,gK]),s_ 27 (.allocH 80 [(.bool false),(.int .i64 0),(.int .i64 0),(.int .i64 0),(.int .i64 0),(.int .i64 0),(.sl .nil []),(.sl .nil []),(.int .i64 0),(.int .i64 0),(.sl .nil []),(.bool false),(.sl .nil []),(.int .i64 0)]),o_ (.store 14 oF iU)])
(.seq (.draw [0,1,2,3,5,6,7,8,9] [(4,[7,9],[]),(10,[7],[11,12]),(13,[],[]),(14,[],[])] [v_ l_0,v_ aIa,o_ (.loadN 14 bGj),o_ (.lit false [(.bool false),(.int .i64 0),(.int .i64 0),(.int .i64 0),(.int .i64 0),(.int .i64 0),(.sl .nil []),(.sl .nil []),(.int .i64 0),(.int .i64 0),(.sl .nil []),(.bool false),(.sl .nil []),(.int .i64 0)] 1 [(0,r_2)]),o_ (.append false 14 176 79 r_1 r_3),v_ aDr,o_ (.indexAddrS 2 r_5 (i_ 0)),o_ (.loadN 2 r_6),f_ 13 bGj,d_ r_8,c_ 32 [r_9],o_ (.lit false [(.int .i64 0),(.int .i64 0)] 2 [(0,r_7),(1,dU)]),o_ (.build [(.int .i64 0),(.int .i64 0),(.int .i64 0),(.int .i64 0),(.int .i64 0),(.sl .nil []),(.sl .nil [])] [(0,1,(i_ 4)),(5,1,eZ)]),o_ (.call false false 33 [r_0,r_4,gK]),o_ (.store 7 l_5 iU)])
.ret))))))))))))⟩
def a32:Ann:=⟨[0,2],[2],[],[],[]⟩
def t32:bE:=⟨1,2,[.cell 1 2 true],
(h_ [o_ (.allocL 1 [(.int .i64 0),(.int .i64 0)])]
(h_ [v_ l_0,o_ (.build [(.int .i64 0),(.int .i64 0)] [(0,1,(i_ 1)),(1,1,r_0)]),o_ (.store 2 l_1 r_1)]
.ret))⟩
def a33:Ann:=⟨[0,1,2,5,6,7,8,9,12,24],[9,8,7,6,5],[],[],[(3,⟨[0,0,2,0,15,0,63],[0,1,2,3,5],[(4,[],[]),(6,[],[])]⟩),(9,⟨[0,0,2,0,8,24,63,127,255,511,1023],[0,1,2,3,4],[(5,[2],[]),(6,[],[7,8,9]),(10,[],[])]⟩)]⟩
def t33:bE:=⟨3,10,[.cell 4 7 true],
(h_ [o_ (.boxL 3 l_2),o_ (.allocL 4 [(.int .i64 0),(.int .i64 0),(.int .i64 0),(.int .i64 0),(.int .i64 0),(.sl .nil []),(.sl .nil [])])]
(.seq (.seq (g_ [v_ l_1,o_ (.len .sl r_0),s_ 8 (.bin .eql r_1 (i_ 0))])
(.cond l_8
(h_ [o_ (.loadN 7 l_3),o_ (.store 7 l_4 r_0)]
.ret)
.skip))
(.seq (.draw [0,1,2,3,5] [(4,[],[]),(6,[],[])] [v_ l_0,v_ l_1,o_ (.slice (.sl 14) r_1 (some (i_ 1)) none none),o_ (.loadN 7 l_3),o_ (.call false false 33 [r_0,r_2,r_3]),s_ 5 (.allocH 46 [(.int .i64 0),(.int .i64 0),(.int .i64 0),(.int .i64 0),(.int .i64 0),(.sl .nil []),(.sl .nil [])]),o_ (.store 7 r_5 r_4)])
(h_ [v_ l_1,o_ (.indexAddrS 14 r_0 (i_ 0)),o_ (.loadN 14 r_1),o_ (.allocL 6 [(.bool false),(.int .i64 0),(.int .i64 0),(.int .i64 0),(.int .i64 0),(.int .i64 0),(.sl .nil []),(.sl .nil []),(.int .i64 0),(.int .i64 0),(.sl .nil []),(.bool false),(.sl .nil []),(.int .i64 0)]),o_ (.store 14 r_3 r_2)]
(.seq (.seq (g_ [f_ 0 l_6,d_ r_0,s_ 9 (.un .not r_1)])
(.cond l_9
(h_ [o_ (.loadN 7 l_5),o_ (.lit false [(.int .i64 0),(.int .i64 0),(.int .i64 0),(.int .i64 0),(.int .i64 0),(.sl .nil []),(.sl .nil [])] 1 [(0,r_0)]),f_ 1 l_6,f_ 6 r_2,o_ (.store 1 r_3 r_1)]
(h_ [f_ 1 l_6,o_ (.loadN 7 r_0),o_ (.store 7 l_4 r_1)]
.ret))
.skip))
(h_ [v_ l_0,v_ l_0,f_ 13 l_6,d_ r_2,o_ (.lit false [(.int .i64 0)] 1 [(0,r_3)]),o_ (.loadN 7 l_5),o_ (.call false false 30 [r_1,r_4,F_,T_,r_5]),o_ (.call false false 29 [r_0,r_6]),o_ (.allocL 7 [(.bool false),(.int .i64 0),(.int .i64 0),(.int .i64 0),(.int .i64 0),(.int .i64 0),(.sl .nil []),(.sl .nil []),(.int .i64 0),(.int .i64 0),(.sl .nil []),(.bool false),(.sl .nil []),(.int .i64 0)]),o_ (.store 14 r_8 r_7)]
(.seq (.draw [0,1,2,3,4] [(5,[2],[]),(6,[],[7,8,9]),(10,[],[])] [v_ l_0,f_ 8 l_6,o_ (.loadN 5 r_1),f_ 13 l_7,d_ r_3,c_ 32 [r_4],o_ (.call false false 31 [r_0,r_2,r_5]),o_ (.lit false [(.int .i64 0),(.int .i64 0),(.int .i64 0),(.int .i64 0),(.int .i64 0),(.sl .nil []),(.sl .nil [])] 1 [(0,r_6)]),f_ 1 l_7,f_ 6 r_8,o_ (.store 1 r_9 r_7)])
(h_ [f_ 1 l_7,o_ (.loadN 7 r_0),o_ (.store 7 l_4 r_1)]
.ret))))))))⟩
def a34:Ann:=⟨[0,1,2,4,10,17],[1],[],[],[]⟩
def t34L0:aQ:=(.seq (.seq (g_ [o_ (.loadN 5 l_1),s_ 3 (.call false false 56 [r_0])])
(.cond l_3
.skip
(.exit 0)))
(.block 1
(.seq (.seq (g_ [f_ 3 l_1,d_ r_0,o_ (.indexAddrS 5 r_1 (i_ 0)),o_ (.loadN 5 r_2),c_ 34 [r_3],s_ 4 (.un .not r_4)])
(.cond l_4
(h_ [w_ 2 F_]
.ret)
.skip))
(g_ [f_ 3 l_1,d_ r_0,o_ (.indexAddrS 5 r_1 (i_ 1)),o_ (.loadN 5 r_2),o_ (.store 5 l_1 r_3)]))))
def t34:bE:=⟨1,6,[.loc 2],
(h_ [o_ (.boxL 1 l_0),w_ 2 F_]
(.seq (.block 0
(.loop t34L0))
(.seq (.seq (g_ [f_ 0 l_1,d_ r_0,s_ 5 (.bin .eql r_1 (i_ 7))])
(.cond l_5
(h_ [f_ 3 l_1,d_ r_0,o_ (.call false false 57 [r_1,(.fn 58)]),o_ (.un .not r_2),w_ 2 r_3]
.ret)
.skip))
(h_ [f_ 3 l_1,d_ r_0,o_ (.len .sl r_1),o_ (.bin .eql r_2 (i_ 0)),v_ r_3,y_ 4 (.loadN 5 l_1),y_ 4 (.call true false 59 [r_5]),o_ (.pick r_4 r_6 F_),w_ 2 r_7]
.ret))))⟩
def a35:Ann:=⟨[0,1,2,11,17,29],[1],[],[],[]⟩
def t35L0:aQ:=(.seq (.seq (g_ [f_ 0 l_1,d_ r_0,o_ (.bin .eql r_1 (i_ 6)),v_ r_2,y_ 3 (.fieldAddr 3 l_1),y_ 3 (.load1 r_4),y_ 3 (.len .sl r_5),y_ 3 (.bin .eql r_6 (i_ 2)),s_ 3 (.pick r_3 r_7 F_)])
(.cond l_3
.skip
(.exit 0)))
(.block 1
(.seq (.seq (g_ [f_ 3 l_1,d_ r_0,o_ (.indexAddrS 5 r_1 (i_ 0)),o_ (.loadN 5 r_2),c_ 35 [r_3],s_ 4 (.un .not r_4)])
(.cond l_4
(h_ [w_ 2 F_]
.ret)
.skip))
(g_ [f_ 3 l_1,d_ r_0,o_ (.indexAddrS 5 r_1 (i_ 1)),o_ (.loadN 5 r_2),o_ (.store 5 l_1 r_3)]))))
def t35:bE:=⟨1,6,[.loc 2],
(h_ [o_ (.boxL 1 l_0),w_ 2 F_]
(.seq (.block 0
(.loop t35L0))
(.seq (.seq (g_ [f_ 0 l_1,d_ r_0,o_ (.bin .eql r_1 (i_ 5)),v_ r_2,y_ 3 (.fieldAddr 1 l_1),y_ 3 (.load1 r_4),y_ 3 (.bin .neq r_5 (i_ 0)),s_ 5 (.pick r_3 r_6 F_)])
(.cond l_5
(h_ [w_ 2 F_]
.ret)
.skip))
(h_ [f_ 3 l_1,d_ r_0,o_ (.call false false 57 [r_1,(.fn 60)]),o_ (.un .not r_2),w_ 2 r_3]
.ret))))⟩
def a36:Ann:=⟨[0,1,2,4,6,8,10,11,13,14,17,23,24,25,26,36,52,61,87,89,90,91,92,101,105,106,107,108],[10,4],[],[],[(14,⟨[0,1,3,7,0,16,63,127,255],[0,1,2,3,4,5,6,7,8],[]⟩),(16,⟨[0,1,3,7,0,16,0,127],[0,1,2,3,4,5,6],[(7,[],[])]⟩),(17,⟨[0,1,3,7,15,31,63,127,255,511,1023,2047,4095,511,8703,32767,65535,131071,262143],[0,1,2,3,4,5,6,7,8,9,10,11,12,13,14,15,16,17,18],[]⟩)]⟩
def t36L0:aQ:=(.seq (g_ [s_ 27 (.bin .lss aVl bGi)])
(.seq (.cond bGj
.skip
(.exit 5))
(.seq (.block 6
(h_ [o_ (.indexAddrS 1 aVk aVl),d_ r_0,w_ 8 r_1]
(g_ [v_ l_0,o_ (.nilCheck r_0),f_ 10 r_1,d_ r_2,v_ l_8,o_ (.build [(.int .i64 0)] []),o_ (.update (.leaf .int) r_3 r_4 r_5)])))
(g_ [o_ (.bin .add aVl (i_ 1)),w_ 26 r_0]))))
def t36L1:aQ:=(.seq (g_ [s_ 22 (.bin .lss aDr aIa)])
(.seq (.cond bJ8
.skip
(.exit 3))
(.seq (.block 4
(h_ [o_ (.indexAddrS 5 aLp aDr),o_ (.loadN 5 r_0),o_ (.allocL 6 [(.int .i64 0),(.int .i64 0),(.sl .nil []),(.bool false),(.sl .nil [])]),o_ (.store 5 r_2 r_1)]
(h_ [v_ l_0,o_ (.loadN 5 l_6),v_ l_2,o_ (.bin .add r_2 (i_ 1)),o_ (.call false false 36 [r_0,r_1,r_3]),w_ 7 r_4]
(h_ [v_ l_7,s_ 23 (.bin .neq r_0 (i_ 0))]
(.cond bJ9
(h_ [v_ l_7,w_ 4 r_0]
.ret)
.skip)))))
(g_ [o_ (.bin .add aDr (i_ 1)),w_ 21 r_0]))))
def t36L2:aQ:=(.seq (g_ [s_ 14 (.bin .lss gW pF)])
(.seq (.cond lM
.skip
(.exit 1))
(.seq (.block 2
(h_ [o_ (.indexAddrS 1 mI gW),d_ r_0,w_ 5 r_1]
(.seq (.seq (g_ [v_ l_0,o_ (.nilCheck r_0),f_ 8 r_1,d_ r_2,v_ l_5,o_ (.lookup (.leaf .int) (.agg [(.int .i64 0)]) false r_3 r_4),o_ (.field 0 1 false r_5),s_ 15 (.bin .gtr r_6 (i_ 0))])
(.cond xJ
(h_ [w_ 4 (i_ 14)]
.ret)
.skip))
(h_ [v_ l_0,o_ (.nilCheck r_0),f_ 8 r_1,d_ r_2,v_ l_5,o_ (.build [(.int .i64 0)] [(0,1,(i_ 1))]),o_ (.update (.leaf .int) r_3 r_4 r_5)]
(g_ [v_ l_0,o_ (.nilCheck r_0),f_ 10 r_1,d_ r_2,v_ l_5,o_ (.build [(.int .i64 0)] [(0,1,(i_ 1))]),o_ (.update (.leaf .int) r_3 r_4 r_5)])))))
(g_ [o_ (.bin .add gW (i_ 1)),w_ 13 r_0]))))
def t36:bE:=⟨3,28,[.loc 4],
(h_ [o_ (.boxL 3 l_1),w_ 4 (i_ 0)]
(.seq (.block 0
(h_ [v_ l_2,o_ (.bin .geq r_0 (i_ 4000)),w_ 9 r_1]
(.cond l_9
(h_ [w_ 4 (i_ 5)]
.ret)
(h_ [v_ l_0,o_ (.loadN 5 l_3),o_ (.call false false 61 [r_0,r_1]),o_ (.un .not r_2),w_ 10 r_3]
(.cond iD
(h_ [w_ 4 (i_ 4)]
.ret)
.skip)))))
(.seq (.seq (g_ [f_ 2 l_3,s_ 11 (.load1 r_0),s_ 12 (.len .sl r_1),w_ 13 (i_ 0)])
(.block 1
(.loop t36L2)))
(.seq (.seq (g_ [f_ 0 l_3,d_ r_0,s_ 16 (.bin .eql r_1 (i_ 1))])
(.cond aDq
(.seq (.seq (.draw [0,1,2,3,4,5,6,7,8] [] [v_ l_0,o_ (.nilCheck r_0),f_ 9 r_1,d_ r_2,f_ 1 l_3,d_ r_4,o_ (.lookup (.leaf .int) (.agg [(.int .i64 0)]) false r_3 r_5),o_ (.field 0 1 false r_6),s_ 17 (.bin .gtr r_7 (i_ 0))])
(.cond yQ
(h_ [w_ 4 (i_ 14)]
.ret)
.skip))
(.draw [0,1,2,3,4,5,6] [(7,[],[])] [v_ l_0,o_ (.nilCheck r_0),f_ 9 r_1,d_ r_2,f_ 1 l_3,d_ r_4,o_ (.build [(.int .i64 0)] [(0,1,(i_ 1))]),o_ (.update (.leaf .int) r_3 r_5 r_6)]))
.skip))
(.seq (.seq (.draw [0,1,2,3,4,5,6,7,8,9,10,11,12,13,14,15,16,17,18] [] [f_ 0 l_3,d_ r_0,o_ (.bin .eql r_1 (i_ 2)),v_ r_2,x_ 3 (.fieldAddr 0 l_3),x_ 3 (.load1 r_4),x_ 3 (.bin .eql r_5 (i_ 4)),o_ (.pick r_3 T_ r_6),v_ r_7,y_ 8 (.mov l_0),y_ 8 (.nilCheck r_9),y_ 8 (.fieldAddr 10 dU),y_ 8 (.load1 eZ),y_ 8 (.fieldAddr 1 l_3),y_ 8 (.load1 iU),y_ 8 (.lookup (.leaf .int) (.agg [(.int .i64 0)]) false gK oF),y_ 8 (.field 0 1 false uC),y_ 8 (.bin .eql vP (i_ 0)),s_ 18 (.pick r_8 yP F_)])
(.cond qX
(h_ [w_ 4 (i_ 6)]
.ret)
.skip))
(.seq (.seq (g_ [f_ 4 l_3,s_ 19 (.load1 r_0),s_ 20 (.len .sl r_1),w_ 21 (i_ 0)])
(.block 3
(.loop t36L1)))
(.seq (.seq (g_ [f_ 2 l_3,s_ 24 (.load1 r_0),s_ 25 (.len .sl r_1),w_ 26 (i_ 0)])
(.block 5
(.loop t36L0)))
(h_ [w_ 4 (i_ 0)]
.ret))))))))⟩
def a37:Ann:=⟨[0,1,2,4,6,7,8,9,10,11,12,40,53,67,71,78],[10,4],[],[],[]⟩
def t37L0:aQ:=(.seq (.seq (g_ [v_ iD,f_ 3 l_8,d_ r_1,o_ (.len .sl r_2),s_ 15 (.bin .lss r_0 r_3)])
(.cond xJ
.skip
(.exit 2)))
(.seq (.block 3
(g_ [v_ l_7,o_ (.bin .add r_0 (.cst (.str [32,60]))),v_ l_0,f_ 3 l_8,d_ r_3,v_ iD,o_ (.indexAddrS 1 r_4 r_5),d_ r_6,o_ (.call false false 64 [r_2,r_7]),o_ (.bin .add r_1 r_8),w_ 7 r_9]))
(g_ [v_ iD,o_ (.bin .add r_0 (i_ 1)),w_ 10 r_1])))
def t37L1:aQ:=(.seq (.seq (g_ [v_ l_9,f_ 0 l_8,d_ r_1,o_ (.len .sl r_2),s_ 12 (.bin .lss r_0 r_3)])
(.cond pF
.skip
(.exit 0)))
(.seq (.block 1
(g_ [v_ l_7,o_ (.bin .add r_0 (.cst (.str [32]))),v_ l_0,f_ 0 l_8,d_ r_3,v_ l_9,o_ (.indexAddrS 1 r_4 r_5),d_ r_6,o_ (.call false false 64 [r_2,r_7]),o_ (.bin .add r_1 r_8),w_ 7 r_9]))
(g_ [v_ l_9,o_ (.bin .add r_0 (i_ 1)),w_ 9 r_1])))
def t37:bE:=⟨3,16,[.loc 4],
(h_ [o_ (.boxL 3 l_1),s_ 4 (.mov (.cst (.str [])))]
(h_ [w_ 5 (i_ 0)]
(h_ [w_ 6 F_]
(h_ [v_ l_0,v_ l_0,o_ (.nilCheck r_1),f_ 1 r_2,d_ r_3,v_ l_2,o_ (.call false false 62 [r_4,r_5]),v_ r_6,o_ (.extract 0 r_7),o_ (.extract 1 r_7),o_ (.extract 2 r_7),o_ (.nilCheck r_0),f_ 1 eZ,o_ (.store 1 gK r_8),w_ 5 r_9,w_ 6 dU]
(h_ [v_ l_5,c_ 63 [r_0],o_ (.bin .add (.cst (.str [32,102])) r_1),w_ 7 r_2]
(.seq (.seq (g_ [v_ l_6,v_ r_0,x_ 1 (.mov l_2),x_ 1 (.bin .lss r_2 (i_ 0)),o_ (.pick r_1 T_ r_3),v_ r_4,x_ 5 (.mov l_2),x_ 5 (.fieldAddr 0 l_3),x_ 5 (.load1 r_7),x_ 5 (.len .sl r_8),x_ 5 (.bin .geq r_6 r_9),s_ 11 (.pick r_5 T_ dU)])
(.cond mI
(h_ [v_ l_7,w_ 4 r_0]
.ret)
.skip))
(h_ [f_ 0 l_3,d_ r_0,v_ l_2,o_ (.indexAddrS 11 r_1 r_2),o_ (.loadN 11 r_3),o_ (.allocL 8 [(.sl .nil []),(.bool false),(.bool false),(.sl .nil []),(.int .i64 0),(.int .i64 0),(.int .i64 0),(.int .i64 0),(.int .i64 0),(.sl .nil []),(.sl .nil [])]),o_ (.store 11 r_5 r_4)]
(h_ [v_ l_7,o_ (.bin .add r_0 (.cst (.str [91]))),w_ 7 r_1]
(.seq (.seq (g_ [w_ 9 (i_ 0)])
(.block 0
(.loop t37L1)))
(.seq (.seq (g_ [f_ 1 l_8,s_ 13 (.load1 r_0)])
(.cond gW
(g_ [v_ l_7,o_ (.bin .add r_0 (.cst (.str [46]))),w_ 7 r_1])
.skip))
(.seq (.seq (g_ [f_ 2 l_8,s_ 14 (.load1 r_0)])
(.cond lM
(g_ [v_ l_7,o_ (.bin .add r_0 (.cst (.str [33]))),w_ 7 r_1])
.skip))
(.seq (.seq (g_ [w_ 10 (i_ 0)])
(.block 2
(.loop t37L0)))
(h_ [v_ l_7,v_ l_0,o_ (.loadN 5 l_3),f_ 4 l_8,o_ (.loadN 7 r_3),o_ (.call false false 65 [r_1,r_2,r_4]),o_ (.bin .add r_0 r_5),o_ (.bin .add r_6 (.cst (.str [93]))),w_ 4 r_7]
.ret)))))))))))))⟩
def a43:Ann:=⟨[0,1,4],[],[],[],[]⟩
def t43:bE:=⟨2,3,[.loc 2],
(h_ [w_ 2 F_]
(h_ [v_ l_0,v_ l_1,o_ (.call false false 70 [r_0,r_1]),o_ (.bin .geq r_2 (i_ 0)),w_ 2 r_3]
.ret))⟩
def a44:Ann:=⟨[0,1,2],[],[],[],[]⟩
def t44:bE:=⟨1,3,[.loc 2],
(h_ [s_ 1 (.boxH 72 l_0),s_ 2 (.mov (.cst .nilf))]
(h_ [o_ (.mkFn 71 [] [l_1]),w_ 2 r_0]
.ret))⟩
def a45:Ann:=⟨[0,1,4,5,7,8,9,10,11,12,13],[9,7],[],[],[(5,⟨[0,0,3,0,0,16,63,127,255],[0,1,3,4,5],[(2,[4],[]),(6,[],[7,8])]⟩)]⟩
def t45L0:aQ:=(.seq (g_ [s_ 10 (.bin .lss l_9 l_8)])
(.seq (.cond iD
.skip
(.exit 0))
(.seq (.block 1
(h_ [o_ (.indexAddrS 5 l_7 l_9),o_ (.loadN 5 r_0),o_ (.allocL 4 [(.int .i64 0),(.int .i64 0),(.sl .nil []),(.bool false),(.sl .nil [])]),o_ (.store 5 r_2 r_1)]
(h_ [v_ l_0,o_ (.loadN 5 l_4),o_ (.call false false 48 [r_0,r_1]),v_ r_2,o_ (.extract 0 r_3),o_ (.extract 1 r_3),o_ (.allocL 6 [(.int .i64 0),(.int .i64 0)]),w_ 5 r_4,o_ (.store 2 r_6 r_5)]
(.draw [0,1,3,4,5] [(2,[4],[]),(6,[],[7,8])] [v_ l_2,v_ l_5,o_ (.append false 14 176 67 r_0 r_1),v_ l_3,o_ (.loadN 2 l_6),o_ (.lit false [(.int .i64 0),(.int .i64 0)] 1 [(0,r_4)]),o_ (.append false 2 16 53 r_3 r_5),w_ 2 r_2,w_ 3 r_6]))))
(g_ [o_ (.bin .add l_9 (i_ 1)),w_ 9 r_0]))))
def t45:bE:=⟨2,11,[.loc 2,.loc 3],
(h_ [w_ 2 N_,w_ 3 N_]
(.seq (.seq (g_ [w_ 7 l_1,s_ 8 (.len .sl r_0),w_ 9 (i_ 0)])
(.block 0
(.loop t45L0)))
(h_ [v_ l_2,v_ l_3,w_ 2 r_0,w_ 3 r_1]
.ret)))⟩
def a46:Ann:=⟨[0,2],[2],[],[],[]⟩
def t46:bE:=⟨1,2,[.cell 1 7 true],
(h_ [o_ (.allocL 1 [(.int .i64 0),(.int .i64 0),(.int .i64 0),(.int .i64 0),(.int .i64 0),(.sl .nil []),(.sl .nil [])])]
(h_ [v_ l_0,o_ (.build [(.int .i64 0),(.int .i64 0),(.int .i64 0),(.int .i64 0),(.int .i64 0),(.sl .nil []),(.sl .nil [])] [(0,1,(i_ 4)),(5,1,r_0)]),o_ (.store 7 l_1 r_1)]
.ret))⟩
def a47:Ann:=⟨[0,2,3,5,6,8,9,10,11,12,20,25,26,27,28],[],[],[],[]⟩
def t47L0:aQ:=(.seq (g_ [s_ 14 (.bin .lss gW pF)])
(.seq (.cond lM
.skip
(.exit 2))
(.seq (.block 3
(h_ [o_ (.indexAddrS 1 mI gW),d_ r_0,w_ 5 r_1]
(g_ [v_ l_4,v_ l_5,o_ (.append false 2 16 53 r_0 r_1),w_ 4 r_2])))
(g_ [o_ (.bin .add gW (i_ 1)),w_ 13 r_0]))))
def t47L1:aQ:=(.seq (g_ [s_ 9 (.bin .lss l_8 l_7)])
(.seq (.cond l_9
.skip
(.exit 0))
(.seq (.block 1
(h_ [o_ (.indexAddrS 1 l_6 l_8),d_ r_0,w_ 3 r_1]
(h_ [v_ l_2,v_ l_3,o_ (.len .sl r_1),o_ (.bin .add r_0 r_2),w_ 2 r_3]
(h_ [v_ l_2,s_ 10 (.bin .lss r_0 (i_ 0))]
(.cond iD
(g_ [o_ (.bad),o_ (.bad)])
.skip)))))
(g_ [o_ (.bin .add l_8 (i_ 1)),w_ 8 r_0]))))
def t47:bE:=⟨1,15,[.loc 1],
(h_ [w_ 1 N_]
(h_ [w_ 2 (i_ 0)]
(.seq (.seq (g_ [w_ 6 l_0,s_ 7 (.len .sl r_0),w_ 8 (i_ 0)])
(.block 0
(.loop t47L1)))
(h_ [v_ l_2,o_ (.call false false 72 [N_,r_0]),w_ 4 r_1]
(.seq (.seq (g_ [w_ 11 l_0,s_ 12 (.len .sl r_0),w_ 13 (i_ 0)])
(.block 2
(.loop t47L0)))
(h_ [v_ l_4,w_ 1 r_0]
.ret))))))⟩
def a48:Ann:=⟨[0,1,3,4,5,6,7,8,9,10,11,12,13,14,16,17,22,27,41,46,66],[6,5,3],[],[],[(3,⟨[0,1,3,0,15],[0,1,2,3],[(4,[],[])]⟩),(8,⟨[0,1,0,4,15,31],[0,1,2],[(3,[0],[4]),(5,[],[])]⟩),(12,⟨[0,0,0,4,12,30,62,1,255],[0,1,2,3,4,5,6,7],[(8,[],[])]⟩)]⟩
def t48:bE:=⟨2,21,[.loc 3,.cell 4 2 true],
(h_ [o_ (.boxL 2 l_1),w_ 3 N_,o_ (.allocL 4 [(.int .i64 0),(.int .i64 0)])]
(.seq (.seq (g_ [f_ 0 l_2,s_ 14 (.load1 r_0)])
(.block 0
(h_ [o_ (.bin .eql lM (i_ 1)),w_ 15 r_0]
(.cond xJ
(.seq (.draw [0,1,2,3] [(4,[],[])] [f_ 1 l_2,d_ r_0,o_ (.build [(.int .i64 0),(.int .i64 0)] [(0,1,(i_ 2)),(1,1,r_1)]),w_ 3 N_,o_ (.store 2 l_4 r_2)])
.ret)
(h_ [o_ (.bin .eql lM (i_ 2)),w_ 16 r_0]
(.cond aDq
(h_ [f_ 1 l_2,d_ r_0,c_ 25 [r_1],w_ 3 N_,o_ (.store 2 l_4 r_2)]
.ret)
(h_ [o_ (.bin .eql lM (i_ 7)),w_ 17 r_0]
(.cond yQ
(h_ [v_ l_0,v_ l_0,o_ (.loadN 5 l_2),o_ (.call false false 73 [r_1,r_2]),o_ (.call false false 22 [r_0,r_3]),v_ r_4,o_ (.extract 0 r_5),o_ (.extract 1 r_5),o_ (.allocL 5 [(.int .i64 0),(.int .i64 0),(.int .i64 0),(.int .i64 0),(.int .i64 0),(.int .i64 0),(.sl .nil []),(.sl .nil []),(.int .i64 0),(.int .i64 0),(.sl .nil []),(.bool false),(.sl .nil []),(.int .i64 0)]),o_ (.store 14 r_8 r_6),w_ 6 r_7]
(.seq (.draw [0,1,2] [(3,[0],[4]),(5,[],[])] [o_ (.loadN 14 l_5),o_ (.lit false [(.int .i64 0),(.int .i64 0),(.int .i64 0),(.int .i64 0),(.int .i64 0),(.int .i64 0),(.sl .nil []),(.sl .nil []),(.int .i64 0),(.int .i64 0),(.sl .nil []),(.bool false),(.sl .nil []),(.int .i64 0)] 1 [(0,r_0)]),v_ l_6,c_ 25 [r_2],w_ 3 r_1,o_ (.store 2 l_4 r_3)])
.ret))
(h_ [o_ (.bin .eql lM (i_ 10)),w_ 18 r_0]
(.cond qX
(.seq (.seq (g_ [f_ 4 l_2,d_ r_0,o_ (.len .sl r_1),s_ 19 (.bin .leq r_2 (i_ 64))])
(.cond aLp
(h_ [v_ l_0,f_ 4 l_2,d_ r_1,o_ (.call false false 45 [r_0,r_2]),v_ r_3,o_ (.extract 0 r_4),o_ (.extract 1 r_4),w_ 7 r_5,w_ 8 r_6]
(.seq (.draw [0,1,2,3,4,5,6,7] [(8,[],[])] [v_ l_7,v_ l_8,v_ l_8,o_ (.len .sl r_2),o_ (.bin .sub r_3 (i_ 1)),o_ (.indexAddrS 2 r_1 r_4),o_ (.loadN 2 r_5),w_ 3 r_0,o_ (.store 2 l_4 r_6)])
.ret))
.skip))
(h_ [v_ l_0,o_ (.loadN 5 l_2),o_ (.call false false 74 [r_0,r_1]),o_ (.extract 0 r_2),o_ (.extract 1 r_2),w_ 3 r_3,o_ (.store 2 l_4 r_4)]
.ret))
(.seq (.seq (g_ [o_ (.bin .eql lM (i_ 8)),w_ 20 r_0])
(.cond aIa
.skip
(h_ [o_ (.bin .eql lM (i_ 6)),w_ 20 r_0]
(.cond aIa
.skip
(g_ [o_ (.bin .eql lM (i_ 11)),w_ 20 r_0])))))
(.cond aIa
(h_ [v_ l_0,o_ (.loadN 5 l_2),o_ (.call false false 74 [r_0,r_1]),o_ (.extract 0 r_2),o_ (.extract 1 r_2),w_ 3 r_3,o_ (.store 2 l_4 r_4)]
.ret)
.skip))))))))))))
(h_ [v_ l_0,f_ 4 l_2,d_ r_1,o_ (.call false false 45 [r_0,r_2]),v_ r_3,o_ (.extract 0 r_4),o_ (.extract 1 r_4),w_ 9 r_5,w_ 10 r_6]
(h_ [o_ (.loadN 5 l_2),o_ (.call false false 75 [r_0]),v_ r_1,o_ (.extract 0 r_2),o_ (.extract 1 r_2),w_ 11 r_3,w_ 12 r_4]
(h_ [v_ l_0,o_ (.call false false 21 [r_0]),w_ 13 r_1]
(h_ [v_ l_9,v_ gW,v_ mI,v_ pF,v_ iD,o_ (.build [(.int .i64 0),(.int .i64 0),(.int .i64 0),(.int .i64 0),(.int .i64 0),(.sl .nil []),(.sl .nil [])] [(0,1,(i_ 1)),(1,1,r_1),(2,1,r_2),(3,1,r_3),(5,1,r_4)]),v_ gW,o_ (.build [(.int .i64 0),(.int .i64 0),(.int .i64 0),(.int .i64 0),(.int .i64 0),(.int .i64 0),(.sl .nil []),(.sl .nil []),(.int .i64 0),(.int .i64 0),(.sl .nil []),(.bool false),(.sl .nil []),(.int .i64 0)] [(1,7,r_5),(13,1,r_6)]),o_ (.lit false [(.int .i64 0),(.int .i64 0),(.int .i64 0),(.int .i64 0),(.int .i64 0),(.int .i64 0),(.sl .nil []),(.sl .nil []),(.int .i64 0),(.int .i64 0),(.sl .nil []),(.bool false),(.sl .nil []),(.int .i64 0)] 1 [(0,r_7)]),o_ (.append false 14 176 67 r_0 r_8),v_ gW,c_ 25 [dU],w_ 3 r_9,o_ (.store 2 l_4 eZ)]
.ret))))))⟩
def a49:Ann:=⟨[0,1,2,3,4,5,6,7,8,9,10,12,14,15,16,17,23,57,58,59],[6,5],[],[],[(7,⟨[0,0,0,0,8,24,62,127,255,511,511,1023,4095],[0,1,2,3,4,5,6],[(7,[],[8,9,10,11,12])]⟩),(8,⟨[0,0,0,0,0,16,48,120,248,0,1020,2047,0,8191],[0,1,2,3,4,5,6,7,8,9,12],[(10,[0],[]),(11,[],[]),(13,[],[])]⟩),(11,⟨[0,0,0,4,12,0,60,126,255,511,1023,1023,0,6143,16383],[0,1,2,5,12],[(3,[0,1,5],[4,6]),(7,[0],[]),(8,[],[9,10,11]),(13,[],[14])]⟩),(12,⟨[0,0,0,0,8,30,63,127,255,255,511,2047],[0,1,2,3,4,5],[(6,[],[7,8,9,10,11])]⟩),(13,⟨[0,0,2,0,14,0,62,126,254,511,1023],[0,1,2,3,5],[(4,[0],[]),(6,[0],[7]),(8,[0],[]),(9,[],[]),(10,[],[])]⟩)]⟩
def t49L0:aQ:=(.seq (.seq (g_ [d_ l_4,o_ (.len .sl r_0),v_ l_8,o_ (.bin .sub r_1 r_2),s_ 16 (.bin .gtr r_3 (i_ 64))])
(.cond aDq
.skip
(.exit 0)))
(.seq (.block 1
(g_ [v_ l_7,v_ l_8,o_ (.lit false [(.int .i64 0)] 1 [(0,r_1)]),o_ (.append false 1 8 3 r_0 r_2),w_ 7 r_3]))
(g_ [v_ l_8,o_ (.bin .add r_0 (i_ 64)),w_ 8 r_1])))
def t49:bE:=⟨3,20,[.cell 6 7 true],
(h_ [s_ 3 (.boxH 62 l_0),s_ 4 (.boxH 24 l_1),o_ (.boxL 5 l_2),o_ (.allocL 6 [(.int .i64 0),(.int .i64 0),(.int .i64 0),(.int .i64 0),(.int .i64 0),(.sl .nil []),(.sl .nil [])])]
(h_ [w_ 7 N_]
(.seq (.seq (g_ [w_ 8 (i_ 0)])
(.block 0
(.loop t49L0)))
(h_ [v_ l_7,o_ (.len .sl r_0),o_ (.bin .mul (i_ 64) r_1),w_ 9 r_2]
(.seq (.draw [0,1,2,3,4,5,6] [(7,[],[8,9,10,11,12])] [d_ l_3,d_ l_4,v_ l_9,d_ l_4,o_ (.len .sl r_3),o_ (.bin .sub r_4 (i_ 1)),o_ (.slice (.sl 5) r_1 (some r_2) (some r_5) none),o_ (.call false false 45 [r_0,r_6]),v_ r_7,o_ (.extract 0 r_8),o_ (.extract 1 r_8),w_ 10 r_9,v_ dU])
(.seq (.draw [0,1,2,3,4,5,6,7,8,9,12] [(10,[0],[]),(11,[],[]),(13,[],[])] [d_ l_3,v_ iD,d_ l_3,d_ l_4,d_ l_4,o_ (.len .sl r_4),o_ (.bin .sub r_5 (i_ 1)),o_ (.indexAddrS 5 r_3 r_6),o_ (.loadN 5 r_7),o_ (.loadN 2 l_5),o_ (.call false false 24 [r_2,r_8,r_9]),o_ (.call false false 23 [r_0,r_1,dU]),s_ 11 (.allocH 46 [(.int .i64 0),(.int .i64 0),(.int .i64 0),(.int .i64 0),(.int .i64 0),(.sl .nil []),(.sl .nil [])]),o_ (.store 7 gK eZ)])
(.seq (.seq (g_ [v_ l_7,s_ 17 (.call false false 76 [r_0])])
(.block 2
(.rangeFunc yQ [18,19]
(g_ [w_ 12 aLp])
(.block 3
(.seq (.draw [0,1,2,5,12] [(3,[0,1,5],[4,6]),(7,[0],[]),(8,[],[9,10,11]),(13,[],[14])] [d_ l_3,d_ l_3,d_ l_3,o_ (.call false false 21 [r_2]),o_ (.lit false [(.int .i64 0)] 1 [(0,r_3)]),o_ (.loadN 7 mI),o_ (.build [(.sl .nil []),(.bool false),(.bool false),(.sl .nil []),(.int .i64 0),(.int .i64 0),(.int .i64 0),(.int .i64 0),(.int .i64 0),(.sl .nil []),(.sl .nil [])] [(0,1,r_4),(1,1,T_),(2,1,T_),(4,7,r_5)]),o_ (.call false false 20 [r_1,r_6]),o_ (.call false false 22 [r_0,r_7]),v_ r_8,o_ (.extract 0 r_9),o_ (.extract 1 r_9),s_ 13 (.allocH 68 [(.int .i64 0),(.int .i64 0),(.int .i64 0),(.int .i64 0),(.int .i64 0),(.int .i64 0),(.sl .nil []),(.sl .nil []),(.int .i64 0),(.int .i64 0),(.sl .nil []),(.bool false),(.sl .nil []),(.int .i64 0)]),o_ (.store 14 gK dU),w_ 14 eZ])
(.seq (.draw [0,1,2,3,4,5] [(6,[],[7,8,9,10,11])] [d_ l_3,d_ l_4,v_ pF,v_ pF,o_ (.bin .add r_3 (i_ 64)),o_ (.slice (.sl 5) r_1 (some r_2) (some r_4) none),o_ (.call false false 45 [r_0,r_5]),v_ r_6,o_ (.extract 0 r_7),o_ (.extract 1 r_7),w_ 15 r_8,v_ r_9])
(.draw [0,1,2,3,5] [(4,[0],[]),(6,[0],[7]),(8,[0],[]),(9,[],[]),(10,[],[])] [d_ l_3,o_ (.loadN 14 gW),o_ (.lit false [(.int .i64 0),(.int .i64 0),(.int .i64 0),(.int .i64 0),(.int .i64 0),(.int .i64 0),(.sl .nil []),(.sl .nil []),(.int .i64 0),(.int .i64 0),(.sl .nil []),(.bool false),(.sl .nil []),(.int .i64 0)] 1 [(0,r_1)]),v_ xJ,o_ (.append false 14 176 67 r_2 r_3),v_ lM,c_ 25 [r_5],o_ (.lit false [(.int .i64 0),(.int .i64 0)] 1 [(0,r_6)]),o_ (.call false false 46 [r_7]),o_ (.call false false 23 [r_0,r_4,r_8]),o_ (.store 7 mI r_9)])))))))
(h_ [o_ (.loadN 7 mI),o_ (.store 7 l_6 r_0)]
.ret))))))))⟩
def a50:Ann:=⟨[0,1,2,4,5,6,7,8,9,10,11,12,13,14,15,24,25,39],[14,11,6,5,4],[],[],[(4,⟨[0,0,0,4,12,0,0,64,192,508,1020,2047,4095],[0,1,2,3,4,5,6,7,8,9],[(10,[],[]),(11,[],[]),(12,[],[])]⟩),(7,⟨[0,0,0,0,12,0,0,64,224,480,1020,2046,4095,8191,16383,16383,0,98303,262143],[0,1,2,3,4,5,6,16],[(7,[5],[8]),(9,[],[10]),(11,[],[]),(12,[],[13,14,15]),(17,[],[18])]⟩),(8,⟨[0,0,0,4,14,0,32,96,0,0,542,2046,4094,8191,16383],[0,1,2,3,5,6,7,8,9],[(4,[7,8],[]),(10,[7,8],[11]),(12,[],[]),(13,[],[]),(14,[],[])]⟩),(10,⟨[0,0,0,4,0,16,48,0,0,256,1008,2032,4092,8190,16383,32767,65535,65535,0,393215,1048575],[0,1,2,3,4,5,6,7,8,18],[(9,[6,7],[10]),(11,[],[12]),(13,[],[]),(14,[],[15,16,17]),(19,[],[20])]⟩),(11,⟨[0,0,0,4,14,0,32,96,0,286,1022,2046,4095,8191],[0,1,2,3,5,6,7,8],[(4,[7],[]),(9,[7],[10]),(11,[],[]),(12,[],[]),(13,[],[])]⟩)]⟩
def t50:bE:=⟨3,18,[.cell 5 7 true],
(h_ [o_ (.boxL 3 l_1),o_ (.boxL 4 l_2),o_ (.allocL 5 [(.int .i64 0),(.int .i64 0),(.int .i64 0),(.int .i64 0),(.int .i64 0),(.sl .nil []),(.sl .nil [])])]
(h_ [v_ l_0,f_ 4 l_3,d_ r_1,o_ (.call false false 45 [r_0,r_2]),v_ r_3,o_ (.extract 0 r_4),o_ (.extract 1 r_4),w_ 6 r_5,w_ 7 r_6]
(.seq (.seq (g_ [f_ 1 l_3,s_ 15 (.load1 r_0)])
(.block 0
(h_ [o_ (.bin .eql xJ (i_ 1)),w_ 16 r_0]
(.cond aDq
(.seq (.draw [0,1,2,3,4,5,6,7,8,9] [(10,[],[]),(11,[],[]),(12,[],[])] [v_ l_0,v_ l_6,v_ l_7,o_ (.indexAddrS 2 r_2 (i_ 0)),o_ (.loadN 2 r_3),o_ (.loadN 2 l_4),v_ l_7,o_ (.indexAddrS 2 r_6 (i_ 1)),o_ (.loadN 2 r_7),o_ (.lit false [(.int .i64 0),(.int .i64 0)] 3 [(0,r_4),(1,r_5),(2,r_8)]),o_ (.call false false 77 [r_9]),o_ (.call false false 23 [r_0,r_1,dU]),o_ (.store 7 l_5 eZ)])
.ret)
(h_ [o_ (.bin .eql xJ (i_ 0)),w_ 17 r_0]
(.cond yQ
(h_ [v_ l_0,o_ (.call false false 21 [r_0]),v_ l_0,o_ (.call false false 21 [r_2]),w_ 8 r_1,w_ 9 r_3]
(.seq (.draw [0,1,2,3,4,5,6,16] [(7,[5],[8]),(9,[],[10]),(11,[],[]),(12,[],[13,14,15]),(17,[],[18])] [v_ l_0,v_ l_0,v_ l_8,v_ l_9,o_ (.lit false [(.int .i64 0)] 2 [(0,r_2),(1,r_3)]),o_ (.loadN 2 l_4),v_ l_9,c_ 25 [r_6],o_ (.lit false [(.int .i64 0),(.int .i64 0)] 2 [(0,r_5),(1,r_7)]),o_ (.call false false 77 [r_8]),o_ (.build [(.sl .nil []),(.bool false),(.bool false),(.sl .nil []),(.int .i64 0),(.int .i64 0),(.int .i64 0),(.int .i64 0),(.int .i64 0),(.sl .nil []),(.sl .nil [])] [(0,1,r_4),(1,1,T_),(4,7,r_9)]),o_ (.call false false 20 [r_1,dU]),o_ (.call false false 22 [r_0,eZ]),v_ gK,o_ (.extract 0 iU),o_ (.extract 1 iU),s_ 10 (.allocH 68 [(.int .i64 0),(.int .i64 0),(.int .i64 0),(.int .i64 0),(.int .i64 0),(.int .i64 0),(.sl .nil []),(.sl .nil []),(.int .i64 0),(.int .i64 0),(.sl .nil []),(.bool false),(.sl .nil []),(.int .i64 0)]),o_ (.store 14 vP oF),w_ 11 uC])
(.seq (.draw [0,1,2,3,5,6,7,8,9] [(4,[7,8],[]),(10,[7,8],[11]),(12,[],[]),(13,[],[]),(14,[],[])] [v_ l_0,v_ l_6,o_ (.loadN 14 iD),o_ (.lit false [(.int .i64 0),(.int .i64 0),(.int .i64 0),(.int .i64 0),(.int .i64 0),(.int .i64 0),(.sl .nil []),(.sl .nil []),(.int .i64 0),(.int .i64 0),(.sl .nil []),(.bool false),(.sl .nil []),(.int .i64 0)] 1 [(0,r_2)]),o_ (.append false 14 176 67 r_1 r_3),v_ l_7,o_ (.indexAddrS 2 r_5 (i_ 0)),o_ (.loadN 2 r_6),o_ (.loadN 2 l_4),v_ mI,c_ 25 [r_9],o_ (.lit false [(.int .i64 0),(.int .i64 0)] 3 [(0,r_7),(1,r_8),(2,dU)]),o_ (.call false false 46 [eZ]),o_ (.call false false 23 [r_0,r_4,gK]),o_ (.store 7 l_5 iU)])
.ret)))
.skip))))))
(h_ [v_ l_0,o_ (.call false false 21 [r_0]),w_ 12 r_1]
(.seq (.draw [0,1,2,3,4,5,6,7,8,18] [(9,[6,7],[10]),(11,[],[12]),(13,[],[]),(14,[],[15,16,17]),(19,[],[20])] [v_ l_0,v_ l_0,v_ pF,o_ (.lit false [(.int .i64 0)] 1 [(0,r_2)]),v_ l_7,o_ (.indexAddrS 2 r_4 (i_ 1)),o_ (.loadN 2 r_5),o_ (.loadN 2 l_4),v_ pF,c_ 25 [r_8],o_ (.lit false [(.int .i64 0),(.int .i64 0)] 3 [(0,r_6),(1,r_7),(2,r_9)]),o_ (.call false false 77 [dU]),o_ (.build [(.sl .nil []),(.bool false),(.bool false),(.sl .nil []),(.int .i64 0),(.int .i64 0),(.int .i64 0),(.int .i64 0),(.int .i64 0),(.sl .nil []),(.sl .nil [])] [(0,1,r_3),(1,1,T_),(2,1,T_),(4,7,eZ)]),o_ (.call false false 20 [r_1,gK]),o_ (.call false false 22 [r_0,iU]),v_ oF,o_ (.extract 0 uC),o_ (.extract 1 uC),s_ 13 (.allocH 68 [(.int .i64 0),(.int .i64 0),(.int .i64 0),(.int .i64 0),(.int .i64 0),(.int .i64 0),(.sl .nil []),(.sl .nil []),(.int .i64 0),(.int .i64 0),(.sl .nil []),(.bool false),(.sl .nil []),(.int .i64 0)]),o_ (.store 14 aEg vP),w_ 14 yP])
(.seq (.draw [0,1,2,3,5,6,7,8] [(4,[7],[]),(9,[7],[10]),(11,[],[]),(12,[],[]),(13,[],[])] [v_ l_0,v_ l_6,o_ (.loadN 14 gW),o_ (.lit false [(.int .i64 0),(.int .i64 0),(.int .i64 0),(.int .i64 0),(.int .i64 0),(.int .i64 0),(.sl .nil []),(.sl .nil []),(.int .i64 0),(.int .i64 0),(.sl .nil []),(.bool false),(.sl .nil []),(.int .i64 0)] 1 [(0,r_2)]),o_ (.append false 14 176 67 r_1 r_3),v_ l_7,o_ (.indexAddrS 2 r_5 (i_ 0)),o_ (.loadN 2 r_6),v_ lM,c_ 25 [r_8],o_ (.lit false [(.int .i64 0),(.int .i64 0)] 2 [(0,r_7),(1,r_9)]),o_ (.call false false 46 [dU]),o_ (.call false false 23 [r_0,r_4,eZ]),o_ (.store 7 l_5 gK)])
.ret))))))⟩
def a51:Ann:=⟨[0,1,2,3,4,5,6,8,17,25,34,39,48,56,57,63,73,78,83,87],[4,1],[],[],[]⟩
def t51L0:aQ:=(.seq (.seq (g_ [v_ l_6,f_ 3 l_4,d_ r_1,o_ (.len .sl r_2),s_ 11 (.bin .lss r_0 r_3)])
(.cond mI
.skip
(.exit 2)))
(.seq (.block 3
(h_ [f_ 3 l_4,d_ r_0,v_ l_6,o_ (.indexAddrS 5 r_1 r_2),o_ (.loadN 5 r_3),c_ 51 [r_4],s_ 12 (.un .not r_5)]
(.cond pF
(h_ [w_ 2 F_]
.ret)
.skip)))
(g_ [v_ l_6,o_ (.bin .add r_0 (i_ 1)),w_ 6 r_1])))
def t51L1:aQ:=(.seq (.seq (g_ [v_ l_5,v_ l_3,o_ (.len .sl r_1),s_ 8 (.bin .lss r_0 r_2)])
(.cond l_8
.skip
(.exit 0)))
(.seq (.block 1
(h_ [v_ l_3,v_ l_5,o_ (.indexAddrS 5 r_0 r_1),o_ (.loadN 5 r_2),c_ 51 [r_3],s_ 9 (.un .not r_4)]
(.cond l_9
(h_ [w_ 2 F_]
.ret)
.skip)))
(g_ [v_ l_5,o_ (.bin .add r_0 (i_ 1)),w_ 5 r_1])))
def t51:bE:=⟨1,20,[.loc 2],
(h_ [o_ (.boxL 1 l_0),w_ 2 F_]
(h_ [o_ (.loadN 5 l_1),c_ 78 [r_0],v_ r_1,o_ (.extract 0 r_2),o_ (.extract 1 r_2),o_ (.allocL 4 [(.int .i64 0),(.int .i64 0),(.str []),(.sl .nil []),(.int .i64 0)]),w_ 3 r_3,o_ (.store 5 r_5 r_4)]
(.seq (.seq (g_ [w_ 5 (i_ 0)])
(.block 0
(.loop t51L1)))
(.seq (.seq (g_ [f_ 0 l_4,d_ r_0,o_ (.bin .neq r_1 (i_ 7)),v_ r_2,y_ 3 (.fieldAddr 3 l_4),y_ 3 (.load1 r_4),y_ 3 (.len .sl r_5),y_ 3 (.bin .gtr r_6 (i_ 0)),s_ 10 (.pick r_3 r_7 F_)])
(.cond iD
(h_ [w_ 2 F_]
.ret)
.skip))
(.seq (.seq (g_ [w_ 6 (i_ 0)])
(.block 2
(.loop t51L0)))
(h_ [f_ 2 l_4,d_ r_0,c_ 79 [r_1],v_ r_2,o_ (.extract 0 r_3),o_ (.extract 1 r_3),v_ r_4,w_ 7 r_5]
(.seq (.seq (g_ [f_ 0 l_4,s_ 13 (.load1 r_0)])
(.block 4
(.seq (.seq (g_ [o_ (.bin .eql gW (i_ 0)),w_ 14 r_0])
(.cond lM
.skip
(h_ [o_ (.bin .eql gW (i_ 7)),w_ 14 r_0]
(.cond lM
.skip
(h_ [o_ (.bin .eql gW (i_ 8)),w_ 14 r_0]
(.cond lM
.skip
(h_ [o_ (.bin .eql gW (i_ 9)),w_ 14 r_0]
(.cond lM
.skip
(g_ [o_ (.bin .eql gW (i_ 10)),w_ 14 r_0])))))))))
(.cond lM
(h_ [w_ 2 T_]
.ret)
(h_ [o_ (.bin .eql gW (i_ 1)),w_ 15 r_0]
(.cond xJ
(h_ [f_ 1 l_4,d_ r_0,o_ (.bin .eql r_1 (i_ 0)),v_ r_2,x_ 3 (.fieldAddr 1 l_4),x_ 3 (.load1 r_4),x_ 3 (.bin .eql r_5 (i_ 1)),o_ (.pick r_3 T_ r_6),w_ 2 r_7]
.ret)
(h_ [o_ (.bin .eql gW (i_ 2)),w_ 16 r_0]
(.cond aDq
(h_ [f_ 2 l_4,d_ r_0,c_ 80 [r_1],w_ 2 r_2]
.ret)
(h_ [o_ (.bin .eql gW (i_ 3)),w_ 17 r_0]
(.cond yQ
(h_ [f_ 1 l_4,d_ r_0,c_ 81 [r_1],w_ 2 r_2]
.ret)
(h_ [o_ (.bin .eql gW (i_ 4)),w_ 18 r_0]
(.cond qX
(h_ [v_ l_7,o_ (.bin .eql r_0 (i_ 0)),w_ 2 r_1]
.ret)
(h_ [o_ (.bin .eql gW (i_ 5)),w_ 19 r_0]
(.cond aLp
(h_ [v_ l_7,o_ (.bin .eql r_0 (i_ 0)),v_ r_1,y_ 2 (.fieldAddr 2 l_4),y_ 2 (.load1 r_3),y_ 2 (.len .str r_4),y_ 2 (.bin .gtr r_5 (i_ 0)),o_ (.pick r_2 r_6 F_),w_ 2 r_7]
.ret)
.skip))))))))))))))
(h_ [w_ 2 F_]
.ret))))))))⟩
def a52:Ann:=⟨[0,1,2,3,11,16,25],[1],[],[],[]⟩
def t52L0:aQ:=(.seq (.seq (g_ [v_ l_3,f_ 3 l_1,d_ r_1,o_ (.len .sl r_2),s_ 5 (.bin .lss r_0 r_3)])
(.cond l_5
.skip
(.exit 0)))
(.seq (.block 1
(h_ [f_ 3 l_1,d_ r_0,v_ l_3,o_ (.indexAddrS 5 r_1 r_2),o_ (.loadN 5 r_3),c_ 52 [r_4],s_ 6 (.un .not r_5)]
(.cond l_6
(h_ [w_ 2 F_]
.ret)
.skip)))
(g_ [v_ l_3,o_ (.bin .add r_0 (i_ 1)),w_ 3 r_1])))
def t52:bE:=⟨1,7,[.loc 2],
(h_ [o_ (.boxL 1 l_0),w_ 2 F_]
(.seq (.seq (g_ [f_ 0 l_1,d_ r_0,o_ (.bin .eql r_1 (i_ 5)),v_ r_2,y_ 3 (.fieldAddr 1 l_1),y_ 3 (.load1 r_4),y_ 3 (.bin .neq r_5 (i_ 0)),s_ 4 (.pick r_3 r_6 F_)])
(.cond l_4
(h_ [w_ 2 F_]
.ret)
.skip))
(.seq (.seq (g_ [w_ 3 (i_ 0)])
(.block 0
(.loop t52L0)))
(h_ [w_ 2 T_]
.ret))))⟩
def a53:Ann:=⟨[0,1,2,3,5,8,9,10,11,12,14,21,29,41,66,73,99,104,118],[5],[],[],[(3,⟨[0,1,3,7,0,31,63],[0,1,2,3,4],[(5,[],[6])]⟩),(10,⟨[0,1,3,7,0,16,0,112,240,511],[0,1,2,3,4,5,6,7,8],[(9,[],[])]⟩),(12,⟨[0,0,2,6,14,0,32,0,224,480,992,2046,4095,8191,16383],[0,1,2,3,4,5,6,7,8,9,10],[(11,[],[12,13]),(14,[],[])]⟩),(15,⟨[0,1,3,7,0,16,63],[0,1,2,3,4,5],[(6,[],[])]⟩),(17,⟨[0,0,2,6,14,0,32,96,254,511,1023,2047],[0,1,2,3,4,5,6,7],[(8,[],[9,10]),(11,[],[])]⟩)]⟩
def t53L0:aQ:=(.seq (.seq (g_ [v_ l_8,f_ 4 l_4,d_ r_1,o_ (.len .sl r_2),s_ 17 (.bin .lss r_0 r_3)])
(.cond yQ
.skip
(.exit 2)))
(.seq (.block 3
(h_ [v_ l_0,f_ 4 l_4,d_ r_1,v_ l_8,o_ (.indexAddrS 5 r_2 r_3),o_ (.loadN 5 r_4),v_ l_6,v_ l_3,o_ (.bin .add r_7 (i_ 1)),o_ (.call false false 53 [r_0,r_5,r_6,r_8]),w_ 9 r_9]
(h_ [v_ l_9,s_ 18 (.bin .neq r_0 (i_ 0))]
(.cond qX
(h_ [v_ l_9,w_ 5 r_0]
.ret)
.skip))))
(g_ [v_ l_8,o_ (.bin .add r_0 (i_ 1)),w_ 8 r_1])))
def t53L1:aQ:=(.seq (.seq (g_ [v_ l_7,f_ 2 l_4,d_ r_1,o_ (.len .sl r_2),s_ 12 (.bin .lss r_0 r_3)])
(.cond pF
.skip
(.exit 0)))
(.seq (.block 1
(.seq (.seq (.draw [0,1,2,3,4,5,6,7,8] [(9,[],[])] [v_ l_0,o_ (.nilCheck r_0),f_ 8 r_1,d_ r_2,f_ 2 l_4,d_ r_4,v_ l_7,o_ (.indexAddrS 1 r_5 r_6),d_ r_7,s_ 13 (.call true false 83 [r_3,r_8])])
(.cond gW
(h_ [w_ 5 (i_ 14)]
.ret)
.skip))
(.seq (.draw [0,1,2,3,4,5,6,7,8,9,10] [(11,[],[12,13]),(14,[],[])] [v_ l_0,v_ l_0,o_ (.nilCheck r_1),f_ 8 r_2,d_ r_3,f_ 2 l_4,d_ r_5,v_ l_7,o_ (.indexAddrS 1 r_6 r_7),d_ r_8,o_ (.lit false [(.int .i64 0)] 1 [(0,r_9)]),o_ (.append false 1 8 3 r_4 dU),o_ (.nilCheck r_0),f_ 8 gK,o_ (.store 1 iU eZ)])
(g_ [v_ l_6,f_ 2 l_4,d_ r_1,v_ l_7,o_ (.indexAddrS 1 r_2 r_3),d_ r_4,o_ (.lit false [(.int .i64 0)] 1 [(0,r_5)]),o_ (.append false 1 8 3 r_0 r_6),w_ 6 r_7]))))
(g_ [v_ l_7,o_ (.bin .add r_0 (i_ 1)),w_ 7 r_1])))
def t53:bE:=⟨4,19,[.loc 5],
(h_ [o_ (.boxL 4 l_1),w_ 5 (i_ 0)]
(.seq (.seq (g_ [v_ l_3,s_ 10 (.bin .geq r_0 (i_ 4000))])
(.cond iD
(h_ [w_ 5 (i_ 5)]
.ret)
.skip))
(.seq (.seq (.draw [0,1,2,3,4] [(5,[],[6])] [v_ l_0,o_ (.nilCheck r_0),f_ 0 r_1,o_ (.loadN 8 r_2),o_ (.loadN 5 l_4),c_ 82 [r_3,r_4],s_ 11 (.un .not r_5)])
(.cond mI
(h_ [w_ 5 (i_ 4)]
.ret)
.skip))
(h_ [w_ 6 N_]
(h_ [v_ l_6,v_ l_2,o_ (.append false 1 8 3 r_0 r_1),w_ 6 r_2]
(.seq (.seq (g_ [w_ 7 (i_ 0)])
(.block 0
(.loop t53L1)))
(.seq (.seq (g_ [f_ 0 l_4,d_ r_0,s_ 14 (.bin .eql r_1 (i_ 1))])
(.cond lM
(.seq (.seq (.draw [0,1,2,3,4,5] [(6,[],[])] [v_ l_0,o_ (.nilCheck r_0),f_ 9 r_1,d_ r_2,f_ 1 l_4,d_ r_4,s_ 15 (.call true false 83 [r_3,r_5])])
(.cond xJ
(h_ [w_ 5 (i_ 14)]
.ret)
.skip))
(.draw [0,1,2,3,4,5,6,7] [(8,[],[9,10]),(11,[],[])] [v_ l_0,v_ l_0,o_ (.nilCheck r_1),f_ 9 r_2,d_ r_3,f_ 1 l_4,d_ r_5,o_ (.lit false [(.int .i64 0)] 1 [(0,r_6)]),o_ (.append false 1 8 3 r_4 r_7),o_ (.nilCheck r_0),f_ 9 r_9,o_ (.store 1 dU r_8)]))
.skip))
(.seq (.seq (g_ [f_ 0 l_4,d_ r_0,o_ (.bin .eql r_1 (i_ 2)),v_ r_2,x_ 3 (.fieldAddr 0 l_4),x_ 3 (.load1 r_4),x_ 3 (.bin .eql r_5 (i_ 4)),o_ (.pick r_3 T_ r_6),v_ r_7,y_ 8 (.mov l_6),y_ 8 (.fieldAddr 1 l_4),y_ 8 (.load1 dU),y_ 8 (.call true false 83 [r_9,eZ]),y_ 8 (.un .not gK),s_ 16 (.pick r_8 iU F_)])
(.cond aDq
(h_ [w_ 5 (i_ 6)]
.ret)
.skip))
(.seq (.seq (g_ [w_ 8 (i_ 0)])
(.block 2
(.loop t53L0)))
(h_ [w_ 5 (i_ 0)]
.ret))))))))))⟩
def a54:Ann:=⟨[0,1,3,4,5,6,7,8,9,10,11,12,13,14,15,16,17,18,22,23,28,33,66,71,94,106,108,110,112,116],[11,10,5,3],[],[],[(5,⟨[0,1,3,0,15],[0,1,2,3],[(4,[],[])]⟩),(13,⟨[0,0,2,6,14,0,32,127,0,511],[0,1,2,3,4,5,8],[(6,[2,4],[]),(7,[],[]),(9,[],[])]⟩),(15,⟨[0,1,0,4,12,31,63],[0,1,2,3],[(4,[0],[5]),(6,[],[])]⟩),(19,⟨[0,0,0,4,12,30,62,1,255],[0,1,2,3,4,5,6,7],[(8,[],[])]⟩),(21,⟨[0,0,3,7,0,16,63,127],[0,1,2,3,4],[(5,[0],[6]),(7,[],[])]⟩),(26,⟨[0,0,3,7,0,16,63,127],[0,1,2,3,4],[(5,[0],[6]),(7,[],[])]⟩)]⟩
def t54:bE:=⟨2,30,[.loc 3,.cell 4 2 true],
(h_ [o_ (.boxL 2 l_1),w_ 3 N_,o_ (.allocL 4 [(.int .i64 0),(.int .i64 0)])]
(h_ [f_ 1 l_2,d_ r_0,w_ 5 r_1]
(h_ [w_ 6 (i_ 0)]
(.seq (.seq (g_ [f_ 0 l_2,s_ 18 (.load1 r_0)])
(.block 0
(h_ [o_ (.bin .eql qX (i_ 1)),w_ 19 r_0]
(.cond aLp
(.seq (.draw [0,1,2,3] [(4,[],[])] [f_ 1 l_2,d_ r_0,o_ (.build [(.int .i64 0),(.int .i64 0)] [(0,1,(i_ 2)),(1,1,r_1)]),w_ 3 N_,o_ (.store 2 l_4 r_2)])
.ret)
(h_ [o_ (.bin .eql qX (i_ 2)),w_ 20 r_0]
(.cond aIa
(h_ [f_ 1 l_2,d_ r_0,c_ 32 [r_1],w_ 3 N_,o_ (.store 2 l_4 r_2)]
.ret)
(h_ [o_ (.bin .eql qX (i_ 7)),w_ 21 r_0]
(.cond aDr
(h_ [v_ l_0,o_ (.call false false 28 [r_0]),w_ 7 r_1]
(h_ [w_ 8 N_]
(h_ [v_ l_8,v_ l_7,o_ (.lit false [(.int .i64 0)] 1 [(0,r_1)]),o_ (.append false 1 8 3 r_0 r_2),w_ 8 r_3]
(h_ [v_ l_8,f_ 2 l_2,d_ r_1,o_ (.append false 1 8 3 r_0 r_2),w_ 8 r_3]
(.seq (.draw [0,1,2,3,4,5,8] [(6,[2,4],[]),(7,[],[]),(9,[],[])] [v_ l_0,f_ 4 l_2,d_ r_1,o_ (.indexAddrS 5 r_2 (i_ 0)),o_ (.loadN 5 r_3),v_ l_7,c_ 32 [r_5],o_ (.call false false 31 [r_0,r_4,r_6]),s_ 9 (.allocH 46 [(.int .i64 0),(.int .i64 0),(.int .i64 0),(.int .i64 0),(.int .i64 0),(.sl .nil []),(.sl .nil [])]),o_ (.store 7 r_8 r_7)])
(h_ [v_ l_0,v_ l_0,v_ l_8,f_ 3 l_2,d_ r_3,o_ (.loadN 7 l_9),o_ (.call false false 30 [r_1,r_2,r_4,F_,r_5]),o_ (.call false false 29 [r_0,r_6]),o_ (.allocL 10 [(.bool false),(.int .i64 0),(.int .i64 0),(.int .i64 0),(.int .i64 0),(.int .i64 0),(.sl .nil []),(.sl .nil []),(.int .i64 0),(.int .i64 0),(.sl .nil []),(.bool false),(.sl .nil []),(.int .i64 0)]),o_ (.store 14 r_8 r_7)]
(.seq (.draw [0,1,2,3] [(4,[0],[5]),(6,[],[])] [o_ (.loadN 14 iD),o_ (.lit false [(.bool false),(.int .i64 0),(.int .i64 0),(.int .i64 0),(.int .i64 0),(.int .i64 0),(.sl .nil []),(.sl .nil []),(.int .i64 0),(.int .i64 0),(.sl .nil []),(.bool false),(.sl .nil []),(.int .i64 0)] 1 [(0,r_0)]),f_ 13 iD,d_ r_2,c_ 32 [r_3],w_ 3 r_1,o_ (.store 2 l_4 r_4)])
.ret)))))))
(h_ [o_ (.bin .eql qX (i_ 10)),w_ 22 r_0]
(.cond bJ8
(.seq (.seq (g_ [f_ 4 l_2,d_ r_0,o_ (.len .sl r_1),s_ 23 (.bin .leq r_2 (i_ 64))])
(.cond bJ9
(h_ [v_ l_0,f_ 4 l_2,d_ r_1,o_ (.call false false 55 [r_0,r_2]),v_ r_3,o_ (.extract 0 r_4),o_ (.extract 1 r_4),w_ 11 r_5,w_ 12 r_6]
(.seq (.draw [0,1,2,3,4,5,6,7] [(8,[],[])] [v_ mI,v_ pF,v_ pF,o_ (.len .sl r_2),o_ (.bin .sub r_3 (i_ 1)),o_ (.indexAddrS 2 r_1 r_4),o_ (.loadN 2 r_5),w_ 3 r_0,o_ (.store 2 l_4 r_6)])
.ret))
.skip))
(h_ [v_ l_0,o_ (.call false false 28 [r_0]),w_ 13 r_1]
(.seq (.draw [0,1,2,3,4] [(5,[0],[6]),(7,[],[])] [o_ (.loadN 5 l_2),v_ gW,o_ (.build [(.bool false),(.int .i64 0),(.int .i64 0),(.int .i64 0),(.int .i64 0),(.int .i64 0),(.sl .nil []),(.sl .nil []),(.int .i64 0),(.int .i64 0),(.sl .nil []),(.bool false),(.sl .nil []),(.int .i64 0)] [(0,1,T_),(8,5,r_0),(13,1,r_1)]),o_ (.lit false [(.bool false),(.int .i64 0),(.int .i64 0),(.int .i64 0),(.int .i64 0),(.int .i64 0),(.sl .nil []),(.sl .nil []),(.int .i64 0),(.int .i64 0),(.sl .nil []),(.bool false),(.sl .nil []),(.int .i64 0)] 1 [(0,r_2)]),v_ gW,c_ 32 [r_4],w_ 3 r_3,o_ (.store 2 l_4 r_5)])
.ret)))
(.seq (.seq (g_ [o_ (.bin .eql qX (i_ 8)),w_ 24 r_0])
(.cond aVk
.skip
(h_ [o_ (.bin .eql qX (i_ 6)),w_ 24 r_0]
(.cond aVk
.skip
(g_ [o_ (.bin .eql qX (i_ 11)),w_ 24 r_0])))))
(.cond aVk
(h_ [v_ l_0,o_ (.call false false 28 [r_0]),w_ 14 r_1]
(.seq (.draw [0,1,2,3,4] [(5,[0],[6]),(7,[],[])] [o_ (.loadN 5 l_2),v_ lM,o_ (.build [(.bool false),(.int .i64 0),(.int .i64 0),(.int .i64 0),(.int .i64 0),(.int .i64 0),(.sl .nil []),(.sl .nil []),(.int .i64 0),(.int .i64 0),(.sl .nil []),(.bool false),(.sl .nil []),(.int .i64 0)] [(0,1,T_),(8,5,r_0),(13,1,r_1)]),o_ (.lit false [(.bool false),(.int .i64 0),(.int .i64 0),(.int .i64 0),(.int .i64 0),(.int .i64 0),(.sl .nil []),(.sl .nil []),(.int .i64 0),(.int .i64 0),(.sl .nil []),(.bool false),(.sl .nil []),(.int .i64 0)] 1 [(0,r_2)]),v_ lM,c_ 32 [r_4],w_ 3 r_3,o_ (.store 2 l_4 r_5)])
.ret))
(h_ [o_ (.bin .eql qX (i_ 12)),w_ 25 r_0]
(.cond bGi
(g_ [w_ 5 (i_ 100)])
(h_ [o_ (.bin .eql qX (i_ 13)),w_ 26 r_0]
(.cond aVl
(g_ [w_ 5 (i_ 101)])
(h_ [o_ (.bin .eql qX (i_ 14)),w_ 27 r_0]
(.cond bGj
(g_ [w_ 5 (i_ 102)])
(h_ [o_ (.bin .eql qX (i_ 3)),w_ 28 r_0]
(.cond bLy
(h_ [w_ 5 (i_ 103)]
(g_ [f_ 1 l_2,d_ r_0,w_ 6 r_1]))
(h_ [o_ (.bin .eql qX (i_ 5)),w_ 29 r_0]
(.cond bLz
(h_ [w_ 5 (i_ 104)]
(g_ [f_ 1 l_2,d_ r_0,w_ 6 r_1]))
.skip))))))))))))))))))))))
(h_ [v_ l_0,f_ 4 l_2,d_ r_1,o_ (.call false false 55 [r_0,r_2]),v_ r_3,o_ (.extract 0 r_4),o_ (.extract 1 r_4),w_ 15 r_5,w_ 16 r_6]
(h_ [v_ l_0,o_ (.call false false 28 [r_0]),w_ 17 r_1]
(h_ [v_ xJ,v_ yQ,v_ l_5,v_ l_6,v_ aDq,o_ (.build [(.int .i64 0),(.int .i64 0),(.int .i64 0),(.int .i64 0),(.int .i64 0),(.sl .nil []),(.sl .nil [])] [(0,1,(i_ 1)),(1,1,r_1),(2,1,r_2),(3,1,r_3),(5,1,r_4)]),v_ yQ,o_ (.build [(.bool false),(.int .i64 0),(.int .i64 0),(.int .i64 0),(.int .i64 0),(.int .i64 0),(.sl .nil []),(.sl .nil []),(.int .i64 0),(.int .i64 0),(.sl .nil []),(.bool false),(.sl .nil []),(.int .i64 0)] [(1,7,r_5),(13,1,r_6)]),o_ (.lit false [(.bool false),(.int .i64 0),(.int .i64 0),(.int .i64 0),(.int .i64 0),(.int .i64 0),(.sl .nil []),(.sl .nil []),(.int .i64 0),(.int .i64 0),(.sl .nil []),(.bool false),(.sl .nil []),(.int .i64 0)] 1 [(0,r_7)]),o_ (.append false 14 176 79 r_0 r_8),v_ yQ,c_ 32 [dU],w_ 3 r_9,o_ (.store 2 l_4 eZ)]
.ret)))))))⟩
def a55:Ann:=⟨[0,1,4,5,6,7,8,9,10,14],[10],[],[],[]⟩
def t55L0:aQ:=(.seq (.seq (g_ [v_ l_6,v_ l_1,o_ (.len .sl r_1),s_ 9 (.bin .lss r_0 r_2)])
(.cond l_9
.skip
(.exit 0)))
(.seq (.block 1
(h_ [v_ l_0,v_ l_1,v_ l_6,o_ (.indexAddrS 5 r_1 r_2),o_ (.loadN 5 r_3),o_ (.call false false 54 [r_0,r_4]),v_ r_5,o_ (.extract 0 r_6),o_ (.extract 1 r_6),o_ (.allocL 8 [(.int .i64 0),(.int .i64 0)]),w_ 7 r_7,o_ (.store 2 r_9 r_8)]
(h_ [v_ l_4,v_ l_7,o_ (.append false 14 176 79 r_0 r_1),w_ 4 r_2]
(g_ [v_ l_5,o_ (.loadN 2 l_8),o_ (.lit false [(.int .i64 0),(.int .i64 0)] 1 [(0,r_1)]),o_ (.append false 2 16 53 r_0 r_2),w_ 5 r_3]))))
(g_ [v_ l_6,o_ (.bin .add r_0 (i_ 1)),w_ 6 r_1])))
def t55:bE:=⟨2,10,[.loc 2,.loc 3],
(h_ [w_ 2 N_,w_ 3 N_]
(h_ [w_ 4 N_]
(h_ [w_ 5 N_]
(.seq (.seq (g_ [w_ 6 (i_ 0)])
(.block 0
(.loop t55L0)))
(h_ [v_ l_4,v_ l_5,w_ 2 r_0,w_ 3 r_1]
.ret)))))⟩
def a56:Ann:=⟨[0,1,2],[1],[],[],[]⟩
def t56:bE:=⟨1,3,[.loc 2],
(h_ [o_ (.boxL 1 l_0),w_ 2 F_]
(h_ [f_ 0 l_1,d_ r_0,o_ (.bin .eql r_1 (i_ 6)),v_ r_2,y_ 3 (.fieldAddr 3 l_1),y_ 3 (.load1 r_4),y_ 3 (.len .sl r_5),y_ 3 (.bin .eql r_6 (i_ 2)),o_ (.pick r_3 r_7 F_),w_ 2 r_8]
.ret))⟩
def a57:Ann:=⟨[0,1,4],[],[],[],[]⟩
def t57:bE:=⟨2,3,[.loc 2],
(h_ [w_ 2 F_]
(h_ [v_ l_0,v_ l_1,o_ (.call false false 84 [r_0,r_1]),o_ (.bin .geq r_2 (i_ 0)),w_ 2 r_3]
.ret))⟩
def a58:Ann:=⟨[0,1,2],[1],[],[],[]⟩
def t58:bE:=⟨1,3,[.loc 2],
(h_ [o_ (.boxL 1 l_0),w_ 2 F_]
(h_ [o_ (.loadN 5 l_1),c_ 34 [r_0],o_ (.un .not r_1),w_ 2 r_2]
.ret))⟩
def a59:Ann:=⟨[0,1,2,4,6,7,12,22,27,32],[1],[],[],[]⟩
def t59:bE:=⟨1,10,[.loc 2],
(h_ [o_ (.boxL 1 l_0),w_ 2 F_]
(.seq (.seq (g_ [f_ 0 l_1,s_ 4 (.load1 r_0)])
(.block 0
(.seq (.seq (g_ [o_ (.bin .eql l_4 (i_ 0)),w_ 5 r_0])
(.cond l_5
.skip
(h_ [o_ (.bin .eql l_4 (i_ 8)),w_ 5 r_0]
(.cond l_5
.skip
(h_ [o_ (.bin .eql l_4 (i_ 9)),w_ 5 r_0]
(.cond l_5
.skip
(g_ [o_ (.bin .eql l_4 (i_ 10)),w_ 5 r_0])))))))
(.cond l_5
(h_ [w_ 2 T_]
.ret)
(h_ [o_ (.bin .eql l_4 (i_ 1)),w_ 6 r_0]
(.cond l_6
(h_ [f_ 1 l_1,d_ r_0,o_ (.bin .eql r_1 (i_ 0)),v_ r_2,x_ 3 (.fieldAddr 1 l_1),x_ 3 (.load1 r_4),x_ 3 (.bin .eql r_5 (i_ 1)),o_ (.pick r_3 T_ r_6),w_ 2 r_7]
.ret)
(h_ [o_ (.bin .eql l_4 (i_ 2)),w_ 7 r_0]
(.cond l_7
(h_ [f_ 2 l_1,d_ r_0,c_ 85 [r_1],w_ 2 r_2]
.ret)
(h_ [o_ (.bin .eql l_4 (i_ 3)),w_ 8 r_0]
(.cond l_8
(h_ [f_ 1 l_1,d_ r_0,c_ 86 [r_1],w_ 2 r_2]
.ret)
(.seq (.seq (g_ [o_ (.bin .eql l_4 (i_ 4)),w_ 9 r_0])
(.cond l_9
.skip
(g_ [o_ (.bin .eql l_4 (i_ 5)),w_ 9 r_0])))
(.cond l_9
(h_ [f_ 2 l_1,d_ r_0,c_ 87 [r_1],v_ r_2,o_ (.extract 0 r_3),o_ (.extract 1 r_3),v_ r_4,w_ 3 r_5]
(h_ [v_ l_3,o_ (.bin .eql r_0 (i_ 0)),v_ r_1,y_ 2 (.fieldAddr 0 l_1),y_ 2 (.load1 r_3),y_ 2 (.bin .eql r_4 (i_ 4)),y_ 2 (.mov r_5),x_ 6 (.fieldAddr 2 l_1),x_ 6 (.load1 r_7),x_ 6 (.bin .neq r_8 (.cst (.str []))),y_ 2 (.pick r_6 T_ r_9),o_ (.pick r_2 dU F_),w_ 2 eZ]
.ret))
.skip))))))))))))
(h_ [w_ 2 F_]
.ret)))⟩
def a60:Ann:=⟨[0,1,2],[1],[],[],[]⟩
def t60:bE:=⟨1,3,[.loc 2],
(h_ [o_ (.boxL 1 l_0),w_ 2 F_]
(h_ [o_ (.loadN 5 l_1),c_ 35 [r_0],o_ (.un .not r_1),w_ 2 r_2]
.ret))⟩
def a61:Ann:=⟨[0,1,2,3,4,5,6,7,8,73,75,76,88,100],[5,3],[],[],[(8,⟨[0,0,2,0,8,24,56,120,248,511,1023],[0,1,2,3,4,5,6,7,8],[(9,[],[10])]⟩),(11,⟨[0,0,2,0,8,24,56,120,255,511],[0,1,2,3,4,5,6,7],[(8,[],[9])]⟩),(14,⟨[0,0,2,0,8,24,56,120,255,511],[0,1,2,3,4,5,6,7],[(8,[],[9])]⟩)]⟩
def t61:bE:=⟨2,14,[.loc 4],
(h_ [s_ 2 (.boxH 86 l_0),o_ (.boxL 3 l_1),w_ 4 F_]
(h_ [o_ (.loadN 5 l_3),c_ 88 [r_0],v_ r_1,o_ (.extract 0 r_2),o_ (.extract 1 r_2),o_ (.allocL 5 [(.bool false),(.int .i64 0),(.bool false),(.str [])]),o_ (.store 4 r_5 r_3),w_ 6 r_4]
(h_ [f_ 0 l_3,d_ r_0,o_ (.bin .eql r_1 (i_ 7)),w_ 7 r_2]
(.seq (.seq (g_ [v_ l_6,o_ (.un .not r_0),v_ r_1,x_ 2 (.fieldAddr 4 l_3),x_ 2 (.load1 r_3),x_ 2 (.len .sl r_4),x_ 2 (.fieldAddr 1 l_5),x_ 2 (.load1 r_6),x_ 2 (.bin .lss r_5 r_7),o_ (.pick r_2 T_ r_8),v_ r_9,x_ 10 (.fieldAddr 4 l_3),x_ 10 (.load1 eZ),x_ 10 (.len .sl gK),x_ 10 (.fieldAddr 1 l_5),x_ 10 (.load1 oF),x_ 10 (.bin .gtr iU uC),x_ 10 (.mov vP),y_ 17 (.fieldAddr 2 l_5),y_ 17 (.load1 aEg),y_ 17 (.un .not aO5),x_ 10 (.pick yP aO6 F_),o_ (.pick dU T_ aO7),v_ aVh,x_ 23 (.fieldAddr 0 l_5),x_ 23 (.load1 aVj),x_ 23 (.un .not bGg),x_ 23 (.mov bGh),y_ 27 (.fieldAddr 1 l_3),y_ 27 (.load1 bJ7),y_ 27 (.bin .neq bLx (i_ 0)),x_ 23 (.pick bJ6 bM5 F_),o_ (.pick aVi T_ bM6),v_ bM7,x_ 33 (.mov l_7),x_ 33 (.un .not bM9),x_ 33 (.mov bNa),y_ 36 (.fieldAddr 2 l_3),y_ 36 (.load1 bNc),y_ 36 (.len .sl bNd),y_ 36 (.bin .gtr bNe (i_ 0)),y_ 36 (.mov bNf),x_ 41 (.fieldAddr 3 l_3),x_ 41 (.load1 bNh),y_ 36 (.pick bNg T_ bNi),x_ 33 (.pick bNb bNj F_),o_ (.pick bM8 T_ bNk),v_ bNl,x_ 47 (.fieldAddr 3 l_3),x_ 47 (.load1 bNn),x_ 47 (.mov bNo),y_ 50 (.fieldAddr 2 l_3),y_ 50 (.load1 bNq),y_ 50 (.len .sl bNr),y_ 50 (.bin .eql bNs (i_ 0)),x_ 47 (.pick bNp bNt F_),s_ 9 (.pick bNm T_ bNu)])
(.cond l_9
(h_ [w_ 4 F_]
.ret)
.skip))
(h_ [s_ 8 (.allocH 154 [.nilf]),o_ (.store 1 r_0 (.fn 89))]
(.seq (.seq (g_ [f_ 0 l_3,s_ 10 (.load1 r_0)])
(.block 0
(h_ [o_ (.bin .eql iD (i_ 1)),w_ 11 r_0]
(.cond mI
(.seq (.draw [0,1,2,3,4,5,6,7,8] [(9,[],[10])] [d_ l_8,f_ 1 l_3,d_ r_1,d_ l_2,o_ (.nilCheck r_3),f_ 0 r_4,f_ 7 r_5,d_ r_6,o_ (.len .sl r_7),o_ (.callv r_0 [r_2,r_8]),w_ 4 r_9])
.ret)
(.seq (.seq (g_ [o_ (.bin .eql iD (i_ 2)),w_ 12 r_0])
(.cond pF
.skip
(g_ [o_ (.bin .eql iD (i_ 4)),w_ 12 r_0])))
(.cond pF
(.seq (.draw [0,1,2,3,4,5,6,7] [(8,[],[9])] [d_ l_8,f_ 1 l_3,d_ r_1,d_ l_2,o_ (.nilCheck r_3),f_ 0 r_4,f_ 6 r_5,d_ r_6,o_ (.callv r_0 [r_2,r_7]),w_ 4 r_8])
.ret)
(.seq (.seq (g_ [o_ (.bin .eql iD (i_ 3)),w_ 13 r_0])
(.cond gW
.skip
(g_ [o_ (.bin .eql iD (i_ 5)),w_ 13 r_0])))
(.cond gW
(.seq (.draw [0,1,2,3,4,5,6,7] [(8,[],[9])] [d_ l_8,f_ 1 l_3,d_ r_1,d_ l_2,o_ (.nilCheck r_3),f_ 0 r_4,f_ 5 r_5,d_ r_6,o_ (.callv r_0 [r_2,r_7]),w_ 4 r_8])
.ret)
.skip))))))))
(h_ [f_ 2 l_3,d_ r_0,o_ (.mkFn 91 [] [l_8,l_2]),o_ (.call false false 90 [r_1,r_2]),o_ (.un .not r_3),w_ 4 r_4]
.ret)))))))⟩
def a62:Ann:=⟨[0,1,4,5,6,7,11,19],[],[],[],[]⟩
def t62L0:aQ:=(.seq (.seq (g_ [v_ l_5,v_ l_0,o_ (.len .sl r_1),s_ 6 (.bin .lss r_0 r_2)])
(.cond l_6
.skip
(.exit 0)))
(.seq (.block 1
(h_ [v_ l_0,v_ l_5,o_ (.indexAddrS 1 r_0 r_1),d_ r_2,v_ l_1,s_ 7 (.bin .eql r_3 r_4)]
(.cond l_7
(h_ [v_ l_0,v_ l_5,w_ 2 r_0,w_ 3 r_1,w_ 4 T_]
.ret)
.skip)))
(g_ [v_ l_5,o_ (.bin .add r_0 (i_ 1)),w_ 5 r_1])))
def t62:bE:=⟨2,8,[.loc 2,.loc 3,.loc 4],
(h_ [w_ 2 N_,w_ 3 (i_ 0),w_ 4 F_]
(.seq (.seq (g_ [w_ 5 (i_ 0)])
(.block 0
(.loop t62L0)))
(h_ [v_ l_0,v_ l_1,o_ (.lit false [(.int .i64 0)] 1 [(0,r_1)]),o_ (.append false 1 8 3 r_0 r_2),v_ l_0,o_ (.len .sl r_4),w_ 2 r_3,w_ 3 r_5,w_ 4 F_]
.ret)))⟩
def a63:Ann:=⟨[0,2,4,6],[],[],[],[(5,⟨[0,1,3,0,8,24,56,120,248,511,1023],[0,1,3,4,5,6,7,8],[(2,[8],[9,10])]⟩)]⟩
def t63:bE:=⟨1,4,[.loc 1],
(h_ [s_ 1 (.mov (.cst (.str [])))]
(.seq (.seq (g_ [v_ l_0,s_ 2 (.bin .lss r_0 (i_ 0))])
(.cond l_2
(h_ [s_ 1 (.mov (.cst (.str [45])))]
.ret)
.skip))
(.seq (.seq (g_ [v_ l_0,s_ 3 (.bin .lss r_0 (i_ 10))])
(.cond l_3
(h_ [v_ l_0,o_ (.bin .add (i_ 48) r_0),o_ (.conv (.toInt .u8) r_1),o_ (.lit false [(.int .u8 0)] 1 [(0,r_2)]),o_ (.conv .bytesStr r_3),w_ 1 r_4]
.ret)
.skip))
(.seq (.draw [0,1,3,4,5,6,7,8] [(2,[8],[9,10])] [v_ l_0,o_ (.bin .quo r_0 (i_ 10)),c_ 63 [r_1],v_ l_0,o_ (.bin .rem r_3 (i_ 10)),o_ (.bin .add (i_ 48) r_4),o_ (.conv (.toInt .u8) r_5),o_ (.lit false [(.int .u8 0)] 1 [(0,r_6)]),o_ (.conv .bytesStr r_7),o_ (.bin .add r_2 r_8),w_ 1 r_9])
.ret))))⟩
def a64:Ann:=⟨[0,1,4,5],[],[],[],[]⟩
def t64:bE:=⟨2,4,[.loc 2],
(h_ [s_ 2 (.mov (.cst (.str [])))]
(h_ [w_ 3 (i_ 0)]
(h_ [v_ l_0,v_ l_0,o_ (.nilCheck r_1),f_ 0 r_2,d_ r_3,v_ l_1,o_ (.call false false 62 [r_4,r_5]),v_ r_6,o_ (.extract 0 r_7),o_ (.extract 1 r_7),o_ (.extract 2 r_7),o_ (.nilCheck r_0),f_ 0 eZ,o_ (.store 1 gK r_8),w_ 3 r_9]
(h_ [v_ l_3,c_ 63 [r_0],w_ 2 r_1]
.ret))))⟩
def a65:Ann:=⟨[0,1,2,4,5,6,7,8,9,21,31,50,62,71,106],[5,4],[],[],[(5,⟨[0,1,0,4,12,31,63,0,128,412,1023,2047],[0,1,2,3,7,8],[(4,[8],[5,6]),(9,[],[10,11])]⟩),(13,⟨[0,1,0,4,0,28,60,124,252,511,1023,0,2048,0,14336,30720,63488,129532,262143,524287],[0,1,2,3,4,5,6,7,11,12,13,14,15,16],[(8,[12,16],[9,10]),(17,[],[18,19])]⟩),(17,⟨[0,0,0,0,8,0,56,120,254,511,1023],[0,1,2,3,4,5,6,7],[(8,[],[9,10])]⟩)]⟩
def t65L0:aQ:=(.seq (.seq (g_ [v_ l_8,f_ 6 l_4,d_ r_1,o_ (.len .sl r_2),s_ 14 (.bin .lss r_0 r_3)])
(.cond lM
.skip
(.exit 2)))
(.seq (.block 3
(.draw [0,1,2,3,4,5,6,7] [(8,[],[9,10])] [v_ l_6,v_ l_0,o_ (.loadN 5 l_3),f_ 6 l_4,d_ r_3,v_ l_8,o_ (.indexAddrS 7 r_4 r_5),o_ (.loadN 7 r_6),o_ (.call false false 65 [r_1,r_2,r_7]),o_ (.bin .add r_0 r_8),w_ 6 r_9]))
(g_ [v_ l_8,o_ (.bin .add r_0 (i_ 1)),w_ 8 r_1])))
def t65L1:aQ:=(.seq (.seq (g_ [v_ l_7,f_ 5 l_4,d_ r_1,o_ (.len .sl r_2),s_ 12 (.bin .lss r_0 r_3)])
(.cond pF
.skip
(.exit 0)))
(.seq (.block 1
(h_ [f_ 5 l_4,d_ r_0,v_ l_7,o_ (.indexAddrS 2 r_1 r_2),f_ 0 r_3,d_ r_4,s_ 13 (.bin .eql r_5 (i_ 1))]
(.cond gW
(g_ [v_ l_6,o_ (.bin .add r_0 (.cst (.str [32]))),v_ l_0,f_ 5 l_4,d_ r_3,v_ l_7,o_ (.indexAddrS 2 r_4 r_5),f_ 1 r_6,d_ r_7,o_ (.call false false 64 [r_2,r_8]),o_ (.bin .add r_1 r_9),w_ 6 dU])
(.draw [0,1,2,3,4,5,6,7,11,12,13,14,15,16] [(8,[12,16],[9,10]),(17,[],[18,19])] [v_ l_6,o_ (.bin .add r_0 (.cst (.str [32,99]))),f_ 5 l_4,d_ r_2,v_ l_7,o_ (.indexAddrS 2 r_3 r_4),f_ 0 r_5,d_ r_6,c_ 63 [r_7],o_ (.bin .add r_1 r_8),o_ (.bin .add r_9 (.cst (.str [46]))),f_ 5 l_4,d_ eZ,v_ l_7,o_ (.indexAddrS 2 gK iU),f_ 1 oF,d_ uC,c_ 63 [vP],o_ (.bin .add dU yP),w_ 6 aEg]))))
(g_ [v_ l_7,o_ (.bin .add r_0 (i_ 1)),w_ 7 r_1])))
def t65:bE:=⟨3,15,[.loc 5],
(h_ [o_ (.boxL 3 l_1),o_ (.boxL 4 l_2),s_ 5 (.mov (.cst (.str [])))]
(h_ [f_ 0 l_4,d_ r_0,c_ 63 [r_1],o_ (.bin .add (.cst (.str [40])) r_2),w_ 6 r_3]
(.seq (.seq (g_ [f_ 0 l_4,d_ r_0,o_ (.bin .eql r_1 (i_ 1)),v_ r_2,x_ 3 (.fieldAddr 0 l_4),x_ 3 (.load1 r_4),x_ 3 (.bin .eql r_5 (i_ 2)),s_ 9 (.pick r_3 T_ r_6)])
(.cond l_9
(g_ [v_ l_6,o_ (.bin .add r_0 (.cst (.str [32,118]))),v_ l_0,f_ 1 l_4,d_ r_3,o_ (.call false false 64 [r_2,r_4]),o_ (.bin .add r_1 r_5),w_ 6 r_6])
.skip))
(.seq (.seq (g_ [f_ 0 l_4,d_ r_0,s_ 10 (.bin .eql r_1 (i_ 1))])
(.cond iD
(.draw [0,1,2,3,7,8] [(4,[8],[5,6]),(9,[],[10,11])] [v_ l_6,o_ (.bin .add r_0 (.cst (.str [32,111]))),f_ 2 l_4,d_ r_2,c_ 63 [r_3],o_ (.bin .add r_1 r_4),o_ (.bin .add r_5 (.cst (.str [44]))),f_ 3 l_4,d_ r_7,c_ 63 [r_8],o_ (.bin .add r_6 r_9),w_ 6 dU])
.skip))
(.seq (.seq (g_ [f_ 0 l_4,d_ r_0,o_ (.bin .eql r_1 (i_ 2)),v_ r_2,x_ 3 (.fieldAddr 0 l_4),x_ 3 (.load1 r_4),x_ 3 (.bin .eql r_5 (i_ 5)),s_ 11 (.pick r_3 T_ r_6)])
(.cond mI
(g_ [v_ l_6,v_ l_0,o_ (.loadN 5 l_3),f_ 4 l_4,d_ r_3,o_ (.call false false 37 [r_1,r_2,r_4]),o_ (.bin .add r_0 r_5),w_ 6 r_6])
.skip))
(.seq (.seq (g_ [w_ 7 (i_ 0)])
(.block 0
(.loop t65L1)))
(.seq (.seq (g_ [w_ 8 (i_ 0)])
(.block 2
(.loop t65L0)))
(h_ [v_ l_6,o_ (.bin .add r_0 (.cst (.str [41]))),w_ 5 r_1]
.ret))))))))⟩
end Go.Proofs.YtageemgcnoblnaaDoor
