/- The functions of this seat, compiled for the evaluator TM, a part. By program. Condition: none. -/
import Derived.Test.YtookmpaholmmfaaGreatDoorTmProg1
set_option maxRecDepth 100000
set_option linter.unusedVariables false
namespace Go.Proofs.YtookmpaholmmfaaGreatDoor
open Go Go.TM
def a95:Ann:=⟨[0,1,2,3,15,41,43,45,64,71],[1],[],[],[]⟩
def t95:aO:=⟨1,10,[.loc 2],
(h_ [o_ (.boxL 1 l_0),w_ 2 (i_ 0)]
(h_ [f_ 0 l_1,d_ r_0,w_ 3 r_1]
(.seq (.seq (g_ [v_ l_3,o_ (.bin .eql r_0 (i_ 1)),v_ r_1,x_ 2 (.mov l_3),x_ 2 (.bin .eql r_3 (i_ 2)),o_ (.pick r_2 T_ r_4),v_ r_5,x_ 6 (.mov l_3),x_ 6 (.bin .eql r_7 (i_ 3)),s_ 4 (.pick r_6 T_ r_8)])
(.cond l_4
(h_ [w_ 2 (i_ 0)]
.ret)
.skip))
(.seq (.seq (g_ [v_ l_3,o_ (.bin .eql r_0 (i_ 4)),v_ r_1,x_ 2 (.mov l_3),x_ 2 (.bin .eql r_3 (i_ 5)),o_ (.pick r_2 T_ r_4),v_ r_5,x_ 6 (.mov l_3),x_ 6 (.bin .eql r_7 (i_ 7)),o_ (.pick r_6 T_ r_8),v_ r_9,x_ 10 (.mov l_3),x_ 10 (.bin .eql eU (i_ 8)),o_ (.pick dN T_ iI),v_ hP,x_ 14 (.mov l_3),x_ 14 (.bin .eql sC (i_ 10)),o_ (.pick nG T_ sD),v_ tS,x_ 18 (.mov l_3),x_ 18 (.bin .eql yV (i_ 12)),o_ (.pick wY T_ aCd),v_ aCe,x_ 22 (.mov l_3),x_ 22 (.bin .eql aHb (i_ 13)),s_ 5 (.pick aC4 T_ aKn)])
(.cond l_5
(h_ [w_ 2 (i_ 1)]
.ret)
.skip))
(.seq (.seq (g_ [v_ l_3,s_ 6 (.bin .eql r_0 (i_ 6))])
(.cond l_6
(h_ [w_ 2 (i_ 3)]
.ret)
.skip))
(.seq (.seq (g_ [v_ l_3,s_ 7 (.bin .eql r_0 (i_ 9))])
(.cond l_7
(h_ [f_ 1 l_1,d_ r_0,c_ 108 [r_1],w_ 2 r_2]
.ret)
.skip))
(.seq (.seq (g_ [v_ l_3,o_ (.bin .eql r_0 (i_ 14)),v_ r_1,x_ 2 (.mov l_3),x_ 2 (.bin .eql r_3 (i_ 11)),x_ 2 (.mov r_4),y_ 5 (.fieldAddr 1 l_1),y_ 5 (.load1 r_6),y_ 5 (.bin .eql r_7 (i_ 1)),y_ 5 (.mov r_8),x_ 9 (.fieldAddr 1 l_1),x_ 9 (.load1 dN),x_ 9 (.bin .eql eU (i_ 2)),y_ 5 (.pick r_9 T_ iI),x_ 2 (.pick r_5 hP F_),s_ 8 (.pick r_2 T_ nG)])
(.cond l_8
(h_ [w_ 2 (i_ 2)]
.ret)
.skip))
(.seq (.seq (g_ [v_ l_3,o_ (.bin .eql r_0 (i_ 11)),v_ r_1,y_ 2 (.fieldAddr 1 l_1),y_ 2 (.load1 r_3),y_ 2 (.bin .eql r_4 (i_ 0)),s_ 9 (.pick r_2 r_5 F_)])
(.cond l_9
(h_ [w_ 2 (i_ 1)]
.ret)
.skip))
(h_ [s_ 2 (.mov (i_ (-1)))]
.ret)))))))))⟩
def a96:Ann:=⟨[0,1,2,3,7,13,19,21,23,28,35,42,44,46,48],[1],[],[],[]⟩
def t96:aO:=⟨1,15,[.loc 2],
(h_ [o_ (.boxL 1 l_0),s_ 2 (.mov (.cst (.str [])))]
(h_ [f_ 0 l_1,d_ r_0,w_ 3 r_1]
(.seq (.seq (g_ [v_ l_3,s_ 4 (.bin .eql r_0 (i_ 4))])
(.cond l_4
(h_ [f_ 1 l_1,d_ r_0,c_ 62 [r_1],o_ (.bin .add (.cst (.str [115,101,116,33,32,118])) r_2),w_ 2 r_3]
.ret)
.skip))
(.seq (.seq (g_ [v_ l_3,s_ 5 (.bin .eql r_0 (i_ 5))])
(.cond l_5
(h_ [f_ 1 l_1,d_ r_0,c_ 62 [r_1],o_ (.bin .add (.cst (.str [115,101,116,33,32,103])) r_2),w_ 2 r_3]
.ret)
.skip))
(.seq (.seq (g_ [v_ l_3,s_ 6 (.bin .eql r_0 (i_ 6))])
(.cond l_6
(h_ [s_ 2 (.mov (.cst (.str [105,102])))]
.ret)
.skip))
(.seq (.seq (g_ [v_ l_3,s_ 7 (.bin .eql r_0 (i_ 8))])
(.cond l_7
(h_ [s_ 2 (.mov (.cst (.str [99,97,108,108])))]
.ret)
.skip))
(.seq (.seq (g_ [v_ l_3,s_ 8 (.bin .eql r_0 (i_ 9))])
(.cond l_8
(h_ [f_ 1 l_1,d_ r_0,c_ 109 [r_1],w_ 2 r_2]
.ret)
.skip))
(.seq (.seq (g_ [v_ l_3,s_ 9 (.bin .eql r_0 (i_ 10))])
(.cond l_9
(h_ [s_ 2 (.mov (.cst (.str [98,101,103,105,110])))]
.ret)
.skip))
(.seq (.seq (g_ [v_ l_3,o_ (.bin .eql r_0 (i_ 11)),v_ r_1,y_ 2 (.fieldAddr 1 l_1),y_ 2 (.load1 r_3),y_ 2 (.bin .eql r_4 (i_ 0)),s_ 10 (.pick r_2 r_5 F_)])
(.cond dD
(h_ [s_ 2 (.mov (.cst (.str [99,97,108,108,47,99,99])))]
.ret)
.skip))
(.seq (.seq (g_ [v_ l_3,o_ (.bin .eql r_0 (i_ 11)),v_ r_1,y_ 2 (.fieldAddr 1 l_1),y_ 2 (.load1 r_3),y_ 2 (.bin .eql r_4 (i_ 1)),s_ 11 (.pick r_2 r_5 F_)])
(.cond iM
(h_ [s_ 2 (.mov (.cst (.str [97,112,112,108,121])))]
.ret)
.skip))
(.seq (.seq (g_ [v_ l_3,s_ 12 (.bin .eql r_0 (i_ 11))])
(.cond kE
(h_ [s_ 2 (.mov (.cst (.str [99,97,108,108,45,119,105,116,104,45,118,97,108,117,101,115])))]
.ret)
.skip))
(.seq (.seq (g_ [v_ l_3,s_ 13 (.bin .eql r_0 (i_ 12))])
(.cond jC
(h_ [s_ 2 (.mov (.cst (.str [98,111,120])))]
.ret)
.skip))
(.seq (.seq (g_ [v_ l_3,s_ 14 (.bin .eql r_0 (i_ 13))])
(.cond lZ
(h_ [s_ 2 (.mov (.cst (.str [117,110,98,111,120])))]
.ret)
.skip))
(h_ [s_ 2 (.mov (.cst (.str [115,101,116,45,98,111,120,33])))]
.ret))))))))))))))⟩
def a97:Ann:=⟨[0,1,4],[],[],[],[]⟩
def t97:aO:=⟨2,3,[.loc 2],
(h_ [w_ 2 F_]
(h_ [v_ l_0,v_ l_1,o_ (.call false false 131 [r_0,r_1]),o_ (.bin .geq r_2 (i_ 0)),w_ 2 r_3]
.ret))⟩
def a98:Ann:=⟨[0,1,2,3,4,5,6,7,8,9,22],[9,7,4,3],[],[],[(3,⟨[0,0,2,6,14,31,0,127],[0,1,2,3,4,6],[(5,[],[]),(7,[],[])]⟩)]⟩
def t98:aO:=⟨2,11,[.cell 4 5 true],
(h_ [s_ 2 (.boxH 77 l_0),o_ (.boxL 3 l_1),o_ (.allocL 4 [(.int .i64 0),(.int .i64 0),(.sl .nil []),(.bool false),(.sl .nil [])])]
(h_ [s_ 5 (.allocH 23 [(.sl .nil [])])]
(h_ [f_ 2 l_3,d_ r_0,o_ (.mkFn 133 [] [l_2,l_5]),o_ (.call false false 132 [r_1,r_2]),w_ 6 r_3]
(.seq (.draw [0,1,2,3,4,6] [(5,[],[]),(7,[],[])] [d_ l_2,f_ 4 l_3,d_ r_1,o_ (.indexAddrS 5 r_2 (i_ 0)),o_ (.loadN 5 r_3),o_ (.call false false 66 [r_0,r_4]),s_ 7 (.allocH 26 [(.int .i64 0),(.int .i64 0),(.sl .nil []),(.bool false),(.sl .nil [])]),o_ (.store 5 r_6 r_5)])
(.seq (.seq (g_ [d_ l_5,o_ (.len .sl r_0),s_ 10 (.bin .gtr r_1 (i_ 0))])
(.cond dD
(h_ [d_ l_5,o_ (.mkFn 135 [] [l_2]),o_ (.call false false 134 [r_0,r_1]),w_ 8 r_2]
(h_ [d_ l_5,o_ (.loadN 5 l_7),o_ (.lit false [(.int .i64 0),(.int .i64 0),(.sl .nil []),(.bool false),(.sl .nil [])] 1 [(0,r_1)]),o_ (.build [(.int .i64 0),(.int .i64 0),(.sl .nil []),(.bool false),(.sl .nil [])] [(0,1,(i_ 7)),(2,1,r_0),(4,1,r_2)]),o_ (.allocL 9 [(.int .i64 0),(.int .i64 0),(.sl .nil []),(.bool false),(.sl .nil [])]),o_ (.store 5 r_4 r_3)]
(g_ [o_ (.loadN 5 l_9),o_ (.lit false [(.int .i64 0),(.int .i64 0),(.sl .nil []),(.bool false),(.sl .nil [])] 1 [(0,r_0)]),v_ l_8,o_ (.append false 5 72 25 r_1 r_2),o_ (.build [(.int .i64 0),(.int .i64 0),(.sl .nil []),(.bool false),(.sl .nil [])] [(0,1,(i_ 8)),(4,1,r_3)]),o_ (.store 5 l_7 r_4)])))
.skip))
(h_ [v_ l_6,f_ 3 l_3,d_ r_1,o_ (.loadN 5 l_7),o_ (.lit false [(.int .i64 0),(.int .i64 0),(.sl .nil []),(.bool false),(.sl .nil [])] 1 [(0,r_3)]),o_ (.build [(.int .i64 0),(.int .i64 0),(.sl .nil []),(.bool false),(.sl .nil [])] [(0,1,(i_ 7)),(2,1,r_0),(3,1,r_2),(4,1,r_4)]),o_ (.store 5 l_4 r_5)]
.ret))))))⟩
def a99:Ann:=⟨[0,1,4,5,6],[5],[],[],[]⟩
def t99:aO:=⟨2,5,[.loc 2],
(h_ [w_ 2 F_]
(h_ [v_ l_0,o_ (.nilCheck r_0),f_ 0 r_1,d_ r_2,v_ l_1,o_ (.lookup (.leaf .int) (.agg [(.int .i64 0)]) true r_3 r_4),v_ r_5,o_ (.extract 0 r_6),o_ (.extract 1 r_6),o_ (.allocL 3 [(.int .i64 0)]),o_ (.store 1 r_9 r_7),w_ 4 r_8]
(h_ [v_ l_4,w_ 2 r_0]
.ret)))⟩
def a100:Ann:=⟨[0,2],[2],[],[],[]⟩
def t100:aO:=⟨1,2,[.cell 1 5 true],
(h_ [o_ (.allocL 1 [(.int .i64 0),(.int .i64 0),(.sl .nil []),(.bool false),(.sl .nil [])])]
(h_ [v_ l_0,o_ (.build [(.int .i64 0),(.int .i64 0),(.sl .nil []),(.bool false),(.sl .nil [])] [(0,1,(i_ 2)),(1,1,r_0)]),o_ (.store 5 l_1 r_1)]
.ret))⟩
def a101:Ann:=⟨[0,1,4,6,7,8,9,10],[6],[],[],[]⟩
def t101L0:aK:=(.seq (g_ [s_ 7 (.bin .lss l_6 l_5)])
(.seq (.cond l_7
.skip
(.exit 0))
(.seq (.block 1
(h_ [o_ (.indexAddrS 5 l_4 l_6),o_ (.loadN 5 r_0),o_ (.allocL 3 [(.int .i64 0),(.int .i64 0),(.sl .nil []),(.bool false),(.sl .nil [])]),o_ (.store 5 r_2 r_1)]
(g_ [v_ l_2,v_ l_1,o_ (.loadN 5 l_3),o_ (.callv r_1 [r_2]),o_ (.lit false [(.int .i64 0),(.int .i64 0),(.sl .nil []),(.bool false),(.sl .nil [])] 1 [(0,r_3)]),o_ (.append false 5 72 25 r_0 r_4),w_ 2 r_5])))
(g_ [o_ (.bin .add l_6 (i_ 1)),w_ 6 r_0]))))
def t101:aO:=⟨2,8,[.loc 2],
(h_ [w_ 2 N_]
(.seq (.seq (g_ [w_ 4 l_0,s_ 5 (.len .sl r_0),w_ 6 (i_ 0)])
(.block 0
(.loop t101L0)))
(h_ [v_ l_2,w_ 2 r_0]
.ret)))⟩
def a102:Ann:=⟨[0,1,2,3,11,16,25],[1],[],[],[]⟩
def t102L0:aK:=(.seq (.seq (g_ [v_ l_3,f_ 3 l_1,d_ r_1,o_ (.len .sl r_2),s_ 5 (.bin .lss r_0 r_3)])
(.cond l_5
.skip
(.exit 0)))
(.seq (.block 1
(h_ [f_ 3 l_1,d_ r_0,v_ l_3,o_ (.indexAddrS 5 r_1 r_2),o_ (.loadN 5 r_3),c_ 102 [r_4],s_ 6 (.un .not r_5)]
(.cond l_6
(h_ [w_ 2 F_]
.ret)
.skip)))
(g_ [v_ l_3,o_ (.bin .add r_0 (i_ 1)),w_ 3 r_1])))
def t102:aO:=⟨1,7,[.loc 2],
(h_ [o_ (.boxL 1 l_0),w_ 2 F_]
(.seq (.seq (g_ [f_ 0 l_1,d_ r_0,o_ (.bin .eql r_1 (i_ 5)),v_ r_2,y_ 3 (.fieldAddr 1 l_1),y_ 3 (.load1 r_4),y_ 3 (.bin .neq r_5 (i_ 0)),s_ 4 (.pick r_3 r_6 F_)])
(.cond l_4
(h_ [w_ 2 F_]
.ret)
.skip))
(.seq (.seq (g_ [w_ 3 (i_ 0)])
(.block 0
(.loop t102L0)))
(h_ [w_ 2 T_]
.ret))))⟩
def a103:Ann:=⟨[0,1,2,3,5,8,9,10,11,12,14,21,29,41,66,73,99,104,118],[5],[],[],[(3,⟨[0,1,3,7,0,31,63],[0,1,2,3,4],[(5,[],[6])]⟩),(10,⟨[0,1,3,7,0,16,0,112,240,511],[0,1,2,3,4,5,6,7,8],[(9,[],[])]⟩),(12,⟨[0,0,2,6,14,0,32,0,224,480,992,2046,4095,8191,16383],[0,1,2,3,4,5,6,7,8,9,10],[(11,[],[12,13]),(14,[],[])]⟩),(15,⟨[0,1,3,7,0,16,63],[0,1,2,3,4,5],[(6,[],[])]⟩),(17,⟨[0,0,2,6,14,0,32,96,254,511,1023,2047],[0,1,2,3,4,5,6,7],[(8,[],[9,10]),(11,[],[])]⟩)]⟩
def t103L0:aK:=(.seq (.seq (g_ [v_ l_8,f_ 4 l_4,d_ r_1,o_ (.len .sl r_2),s_ 17 (.bin .lss r_0 r_3)])
(.cond yW
.skip
(.exit 2)))
(.seq (.block 3
(h_ [v_ l_0,f_ 4 l_4,d_ r_1,v_ l_8,o_ (.indexAddrS 5 r_2 r_3),o_ (.loadN 5 r_4),v_ l_6,v_ l_3,o_ (.bin .add r_7 (i_ 1)),o_ (.call false false 103 [r_0,r_5,r_6,r_8]),w_ 9 r_9]
(h_ [v_ l_9,s_ 18 (.bin .neq r_0 (i_ 0))]
(.cond aCf
(h_ [v_ l_9,w_ 5 r_0]
.ret)
.skip))))
(g_ [v_ l_8,o_ (.bin .add r_0 (i_ 1)),w_ 8 r_1])))
def t103L1:aK:=(.seq (.seq (g_ [v_ l_7,f_ 2 l_4,d_ r_1,o_ (.len .sl r_2),s_ 12 (.bin .lss r_0 r_3)])
(.cond kE
.skip
(.exit 0)))
(.seq (.block 1
(.seq (.seq (.draw [0,1,2,3,4,5,6,7,8] [(9,[],[])] [v_ l_0,o_ (.nilCheck r_0),f_ 8 r_1,d_ r_2,f_ 2 l_4,d_ r_4,v_ l_7,o_ (.indexAddrS 1 r_5 r_6),d_ r_7,s_ 13 (.call true false 104 [r_3,r_8])])
(.cond jC
(h_ [w_ 5 (i_ 14)]
.ret)
.skip))
(.seq (.draw [0,1,2,3,4,5,6,7,8,9,10] [(11,[],[12,13]),(14,[],[])] [v_ l_0,v_ l_0,o_ (.nilCheck r_1),f_ 8 r_2,d_ r_3,f_ 2 l_4,d_ r_5,v_ l_7,o_ (.indexAddrS 1 r_6 r_7),d_ r_8,o_ (.lit false [(.int .i64 0)] 1 [(0,r_9)]),o_ (.append false 1 8 3 r_4 dN),o_ (.nilCheck r_0),f_ 8 iI,o_ (.store 1 hP eU)])
(g_ [v_ l_6,f_ 2 l_4,d_ r_1,v_ l_7,o_ (.indexAddrS 1 r_2 r_3),d_ r_4,o_ (.lit false [(.int .i64 0)] 1 [(0,r_5)]),o_ (.append false 1 8 3 r_0 r_6),w_ 6 r_7]))))
(g_ [v_ l_7,o_ (.bin .add r_0 (i_ 1)),w_ 7 r_1])))
def t103:aO:=⟨4,19,[.loc 5],
(h_ [o_ (.boxL 4 l_1),w_ 5 (i_ 0)]
(.seq (.seq (g_ [v_ l_3,s_ 10 (.bin .geq r_0 (i_ 4000))])
(.cond dD
(h_ [w_ 5 (i_ 5)]
.ret)
.skip))
(.seq (.seq (.draw [0,1,2,3,4] [(5,[],[6])] [v_ l_0,o_ (.nilCheck r_0),f_ 0 r_1,o_ (.loadN 8 r_2),o_ (.loadN 5 l_4),c_ 136 [r_3,r_4],s_ 11 (.un .not r_5)])
(.cond iM
(h_ [w_ 5 (i_ 4)]
.ret)
.skip))
(h_ [w_ 6 N_]
(h_ [v_ l_6,v_ l_2,o_ (.append false 1 8 3 r_0 r_1),w_ 6 r_2]
(.seq (.seq (g_ [w_ 7 (i_ 0)])
(.block 0
(.loop t103L1)))
(.seq (.seq (g_ [f_ 0 l_4,d_ r_0,s_ 14 (.bin .eql r_1 (i_ 1))])
(.cond lZ
(.seq (.seq (.draw [0,1,2,3,4,5] [(6,[],[])] [v_ l_0,o_ (.nilCheck r_0),f_ 9 r_1,d_ r_2,f_ 1 l_4,d_ r_4,s_ 15 (.call true false 104 [r_3,r_5])])
(.cond wZ
(h_ [w_ 5 (i_ 14)]
.ret)
.skip))
(.draw [0,1,2,3,4,5,6,7] [(8,[],[9,10]),(11,[],[])] [v_ l_0,v_ l_0,o_ (.nilCheck r_1),f_ 9 r_2,d_ r_3,f_ 1 l_4,d_ r_5,o_ (.lit false [(.int .i64 0)] 1 [(0,r_6)]),o_ (.append false 1 8 3 r_4 r_7),o_ (.nilCheck r_0),f_ 9 r_9,o_ (.store 1 dN r_8)]))
.skip))
(.seq (.seq (g_ [f_ 0 l_4,d_ r_0,o_ (.bin .eql r_1 (i_ 2)),v_ r_2,x_ 3 (.fieldAddr 0 l_4),x_ 3 (.load1 r_4),x_ 3 (.bin .eql r_5 (i_ 4)),o_ (.pick r_3 T_ r_6),v_ r_7,y_ 8 (.mov l_6),y_ 8 (.fieldAddr 1 l_4),y_ 8 (.load1 dN),y_ 8 (.call true false 104 [r_9,eU]),y_ 8 (.un .not iI),s_ 16 (.pick r_8 hP F_)])
(.cond vQ
(h_ [w_ 5 (i_ 6)]
.ret)
.skip))
(.seq (.seq (g_ [w_ 8 (i_ 0)])
(.block 2
(.loop t103L0)))
(h_ [w_ 5 (i_ 0)]
.ret))))))))))⟩
def a104:Ann:=⟨[0,1,4,5,9,17],[],[],[],[]⟩
def t104L0:aK:=(.seq (.seq (g_ [v_ l_3,v_ l_0,o_ (.len .sl r_1),s_ 4 (.bin .lss r_0 r_2)])
(.cond l_4
.skip
(.exit 0)))
(.seq (.block 1
(h_ [v_ l_0,v_ l_3,o_ (.indexAddrS 1 r_0 r_1),d_ r_2,v_ l_1,s_ 5 (.bin .eql r_3 r_4)]
(.cond l_5
(h_ [w_ 2 T_]
.ret)
.skip)))
(g_ [v_ l_3,o_ (.bin .add r_0 (i_ 1)),w_ 3 r_1])))
def t104:aO:=⟨2,6,[.loc 2],
(h_ [w_ 2 F_]
(.seq (.seq (g_ [w_ 3 (i_ 0)])
(.block 0
(.loop t104L0)))
(h_ [w_ 2 F_]
.ret)))⟩
def a105:Ann:=⟨[0,1,3,4,5,8,17],[3],[],[],[]⟩
def t105L0:aK:=(.seq (.seq (g_ [v_ l_4,f_ 4 l_2,d_ r_1,o_ (.len .sl r_2),s_ 6 (.bin .lss r_0 r_3)])
(.cond l_6
.skip
(.exit 0)))
(.seq (.block 1
(g_ [v_ l_0,f_ 4 l_2,d_ r_1,v_ l_4,o_ (.indexAddrS 5 r_2 r_3),o_ (.loadN 5 r_4),c_ 105 [r_0,r_5],w_ 0 r_6]))
(g_ [v_ l_4,o_ (.bin .add r_0 (i_ 1)),w_ 4 r_1])))
def t105:aO:=⟨2,7,[.loc 3],
(h_ [o_ (.boxL 2 l_1),w_ 3 N_]
(.seq (.seq (g_ [f_ 0 l_2,d_ r_0,s_ 5 (.bin .eql r_1 (i_ 4))])
(.cond l_5
(g_ [v_ l_0,f_ 1 l_2,d_ r_1,c_ 137 [r_0,r_2],w_ 0 r_3])
.skip))
(.seq (.seq (g_ [w_ 4 (i_ 0)])
(.block 0
(.loop t105L0)))
(h_ [v_ l_0,w_ 3 r_0]
.ret))))⟩
def a106:Ann:=⟨[0,1,4,5,9,17],[],[],[],[]⟩
def t106L0:aK:=(.seq (.seq (g_ [v_ l_3,v_ l_0,o_ (.len .sl r_1),s_ 4 (.bin .lss r_0 r_2)])
(.cond l_4
.skip
(.exit 0)))
(.seq (.block 1
(h_ [v_ l_0,v_ l_3,o_ (.indexAddrS 1 r_0 r_1),d_ r_2,v_ l_1,s_ 5 (.bin .eql r_3 r_4)]
(.cond l_5
(h_ [v_ l_3,w_ 2 r_0]
.ret)
.skip)))
(g_ [v_ l_3,o_ (.bin .add r_0 (i_ 1)),w_ 3 r_1])))
def t106:aO:=⟨2,6,[.loc 2],
(h_ [w_ 2 (i_ 0)]
(.seq (.seq (g_ [w_ 3 (i_ 0)])
(.block 0
(.loop t106L0)))
(h_ [s_ 2 (.mov (i_ (-1)))]
.ret)))⟩
def a107:Ann:=⟨[0,2],[2],[],[],[]⟩
def t107:aO:=⟨1,2,[.cell 1 5 true],
(h_ [o_ (.allocL 1 [(.int .i64 0),(.int .i64 0),(.sl .nil []),(.bool false),(.sl .nil [])])]
(h_ [v_ l_0,o_ (.build [(.int .i64 0),(.int .i64 0),(.sl .nil []),(.bool false),(.sl .nil [])] [(0,1,(i_ 2)),(1,1,r_0)]),o_ (.store 5 l_1 r_1)]
.ret))⟩
def a108:Ann:=⟨[0,2,3,10],[3],[],[],[]⟩
def t108:aO:=⟨1,4,[.loc 1],
(h_ [w_ 1 (i_ 0)]
(h_ [o_ (.build [(.int .i64 0),(.int .i64 0),(.int .i64 0),(.int .i64 0),(.int .i64 0),(.int .i64 0),(.int .i64 0),(.int .i64 0),(.int .i64 0),(.int .i64 0),(.int .i64 0),(.int .i64 0),(.int .i64 0),(.int .i64 0),(.int .i64 0),(.int .i64 0),(.int .i64 0),(.int .i64 0),(.int .i64 0),(.int .i64 0),(.int .i64 0),(.int .i64 0),(.int .i64 0),(.int .i64 0),(.int .i64 0),(.int .i64 0),(.int .i64 0),(.int .i64 0),(.int .i64 0),(.int .i64 0),(.int .i64 0),(.int .i64 0),(.int .i64 0),(.int .i64 0),(.int .i64 0),(.int .i64 0),(.int .i64 0),(.int .i64 0),(.int .i64 0),(.int .i64 0),(.int .i64 0),(.int .i64 0)] [(0,1,(i_ 2)),(1,1,(i_ 1)),(2,1,(i_ 2)),(3,1,(i_ 1)),(4,1,(i_ 1)),(5,1,(i_ 2)),(6,1,(i_ 2)),(7,1,(i_ 1)),(8,1,(i_ 2)),(9,1,(i_ 2)),(10,1,(i_ 2)),(11,1,(i_ 2)),(12,1,(i_ 2)),(13,1,(i_ 2)),(14,1,(i_ 2)),(15,1,(i_ 1)),(16,1,(i_ 1)),(17,1,(i_ 1)),(18,1,(i_ 1)),(19,1,(i_ 2)),(20,1,(i_ 1)),(21,1,(i_ 2)),(22,1,(i_ 3)),(23,1,(i_ 1)),(24,1,(i_ 1)),(25,1,(i_ 1)),(26,1,(i_ 1)),(27,1,(i_ 2)),(28,1,(i_ 1)),(29,1,(i_ 2)),(30,1,(i_ 3)),(31,1,(i_ 1)),(32,1,(i_ 2)),(33,1,(i_ 1)),(34,1,(i_ 2)),(35,1,(i_ 3)),(36,1,(i_ 1)),(37,1,(i_ 0)),(38,1,(i_ 1)),(39,1,(i_ 1)),(40,1,(i_ 0)),(41,1,(i_ 0))]),o_ (.allocL 2 [(.int .i64 0),(.int .i64 0),(.int .i64 0),(.int .i64 0),(.int .i64 0),(.int .i64 0),(.int .i64 0),(.int .i64 0),(.int .i64 0),(.int .i64 0),(.int .i64 0),(.int .i64 0),(.int .i64 0),(.int .i64 0),(.int .i64 0),(.int .i64 0),(.int .i64 0),(.int .i64 0),(.int .i64 0),(.int .i64 0),(.int .i64 0),(.int .i64 0),(.int .i64 0),(.int .i64 0),(.int .i64 0),(.int .i64 0),(.int .i64 0),(.int .i64 0),(.int .i64 0),(.int .i64 0),(.int .i64 0),(.int .i64 0),(.int .i64 0),(.int .i64 0),(.int .i64 0),(.int .i64 0),(.int .i64 0),(.int .i64 0),(.int .i64 0),(.int .i64 0),(.int .i64 0),(.int .i64 0)]),o_ (.store 42 r_1 r_0)]
(.seq (.seq (g_ [v_ l_0,o_ (.bin .lss r_0 (i_ 0)),v_ r_1,x_ 2 (.mov l_0),x_ 2 (.bin .geq r_3 (i_ 42)),s_ 3 (.pick r_2 T_ r_4)])
(.cond l_3
(h_ [s_ 1 (.mov (i_ (-1)))]
.ret)
.skip))
(h_ [v_ l_0,o_ (.indexAddrA 42 1 l_2 r_0),d_ r_1,w_ 1 r_2]
.ret))))⟩
def a109:Ann:=⟨[0,2,3,10],[3],[],[],[]⟩
def t109:aO:=⟨1,4,[.loc 1],
(h_ [s_ 1 (.mov (.cst (.str [])))]
(h_ [o_ (.build [(.str []),(.str []),(.str []),(.str []),(.str []),(.str []),(.str []),(.str []),(.str []),(.str []),(.str []),(.str []),(.str []),(.str []),(.str []),(.str []),(.str []),(.str []),(.str []),(.str []),(.str []),(.str []),(.str []),(.str []),(.str []),(.str []),(.str []),(.str []),(.str []),(.str []),(.str []),(.str []),(.str []),(.str []),(.str []),(.str []),(.str []),(.str []),(.str []),(.str []),(.str []),(.str [])] [(0,1,(.cst (.str [101,113,63]))),(1,1,(.cst (.str [112,97,105,114,63]))),(2,1,(.cst (.str [99,111,110,115]))),(3,1,(.cst (.str [99,97,114]))),(4,1,(.cst (.str [99,100,114]))),(5,1,(.cst (.str [115,101,116,45,99,97,114,33]))),(6,1,(.cst (.str [115,101,116,45,99,100,114,33]))),(7,1,(.cst (.str [105,110,116,101,103,101,114,63]))),(8,1,(.cst (.str [37,43]))),(9,1,(.cst (.str [37,45]))),(10,1,(.cst (.str [37,42]))),(11,1,(.cst (.str [113,117,111,116,105,101,110,116]))),(12,1,(.cst (.str [114,101,109,97,105,110,100,101,114]))),(13,1,(.cst (.str [37,61]))),(14,1,(.cst (.str [37,60]))),(15,1,(.cst (.str [99,104,97,114,63]))),(16,1,(.cst (.str [99,104,97,114,45,62,105,110,116,101,103,101,114]))),(17,1,(.cst (.str [105,110,116,101,103,101,114,45,62,99,104,97,114]))),(18,1,(.cst (.str [115,116,114,105,110,103,63]))),(19,1,(.cst (.str [109,97,107,101,45,115,116,114,105,110,103]))),(20,1,(.cst (.str [115,116,114,105,110,103,45,108,101,110,103,116,104]))),(21,1,(.cst (.str [115,116,114,105,110,103,45,114,101,102]))),(22,1,(.cst (.str [115,116,114,105,110,103,45,115,101,116,33]))),(23,1,(.cst (.str [115,121,109,98,111,108,63]))),(24,1,(.cst (.str [115,121,109,98,111,108,45,62,115,116,114,105,110,103]))),(25,1,(.cst (.str [115,116,114,105,110,103,45,62,115,121,109,98,111,108]))),(26,1,(.cst (.str [118,101,99,116,111,114,63]))),(27,1,(.cst (.str [109,97,107,101,45,118,101,99,116,111,114]))),(28,1,(.cst (.str [118,101,99,116,111,114,45,108,101,110,103,116,104]))),(29,1,(.cst (.str [118,101,99,116,111,114,45,114,101,102]))),(30,1,(.cst (.str [118,101,99,116,111,114,45,115,101,116,33]))),(31,1,(.cst (.str [98,121,116,101,118,101,99,116,111,114,63]))),(32,1,(.cst (.str [109,97,107,101,45,98,121,116,101,118,101,99,116,111,114]))),(33,1,(.cst (.str [98,121,116,101,118,101,99,116,111,114,45,108,101,110,103,116,104]))),(34,1,(.cst (.str [98,121,116,101,118,101,99,116,111,114,45,117,56,45,114,101,102]))),(35,1,(.cst (.str [98,121,116,101,118,101,99,116,111,114,45,117,56,45,115,101,116,33]))),(36,1,(.cst (.str [112,114,111,99,101,100,117,114,101,63]))),(37,1,(.cst (.str [114,101,97,100,45,117,56]))),(38,1,(.cst (.str [119,114,105,116,101,45,117,56]))),(39,1,(.cst (.str [37,104,97,108,116]))),(40,1,(.cst (.str [101,111,102,45,111,98,106,101,99,116]))),(41,1,(.cst (.str [37,110,111,110,101])))]),o_ (.allocL 2 [(.str []),(.str []),(.str []),(.str []),(.str []),(.str []),(.str []),(.str []),(.str []),(.str []),(.str []),(.str []),(.str []),(.str []),(.str []),(.str []),(.str []),(.str []),(.str []),(.str []),(.str []),(.str []),(.str []),(.str []),(.str []),(.str []),(.str []),(.str []),(.str []),(.str []),(.str []),(.str []),(.str []),(.str []),(.str []),(.str []),(.str []),(.str []),(.str []),(.str []),(.str []),(.str [])]),o_ (.store 42 r_1 r_0)]
(.seq (.seq (g_ [v_ l_0,o_ (.bin .lss r_0 (i_ 0)),v_ r_1,x_ 2 (.mov l_0),x_ 2 (.bin .geq r_3 (i_ 42)),s_ 3 (.pick r_2 T_ r_4)])
(.cond l_3
(h_ [s_ 1 (.mov (.cst (.str [])))]
.ret)
.skip))
(h_ [v_ l_0,o_ (.indexAddrA 42 1 l_2 r_0),d_ r_1,w_ 1 r_2]
.ret))))⟩
def a110:Ann:=⟨[0,2],[],[],[],[]⟩
def t110:aO:=⟨1,2,[.loc 1],
(h_ [s_ 1 (.mov (.cst (.str [])))]
(h_ [v_ l_0,c_ 138 [r_0,(i_ 10)],w_ 1 r_1]
.ret))⟩
def a111:Ann:=⟨[0,2],[],[],[],[]⟩
def t111:aO:=⟨1,2,[.loc 1],
(h_ [s_ 1 (.mov (.cst (.str [])))]
(h_ [v_ l_0,c_ 75 [r_0],o_ (.bin .add (.cst (.str [118])) r_1),w_ 1 r_2]
.ret))⟩
def a112:Ann:=⟨[0,1,7,21],[],[],[],[(3,⟨[0,1,3,7,15,0,32,96,224,480,1023,0,4095],[0,1,2,3,4,5,6,7,8,9,10,11,12],[]⟩)]⟩
def t112:aO:=⟨2,4,[],
(h_ [v_ l_0,o_ (.prim 113 [r_0])]
(.seq (.seq (g_ [v_ l_1,s_ 2 (.bin .lss r_0 (i_ 0))])
(.cond l_2
(g_ [o_ (.bad),o_ (.bad)])
.skip))
(.seq (.draw [0,1,2,3,4,5,6,7,8,9,10,11,12] [] [v_ l_0,o_ (.nilCheck r_0),f_ 1 r_1,d_ r_2,o_ (.cap r_3),v_ l_0,o_ (.nilCheck r_5),f_ 1 r_6,d_ r_7,o_ (.len .sl r_8),o_ (.bin .sub r_4 r_9),v_ l_1,s_ 3 (.bin .lss dN eU)])
(.cond l_3
(g_ [v_ l_0,v_ l_1,o_ (.call false false 139 [r_0,r_1])])
.skip))))⟩
def a115:Ann:=⟨[0,1,4,5,7,8,9,16],[],[],[],[]⟩
def t115L0:aK:=(.seq (g_ [s_ 6 (.bin .lss l_5 l_4)])
(.seq (.cond l_6
.skip
(.exit 0))
(.seq (.block 1
(h_ [v_ l_5,w_ 3 r_0]
(h_ [v_ l_1,v_ l_0,v_ l_3,o_ (.indexAddrS 5 r_1 r_2),o_ (.loadN 5 r_3),s_ 7 (.callv r_0 [r_4])]
(.cond l_7
(h_ [v_ l_3,w_ 2 r_0]
.ret)
.skip))))
(g_ [o_ (.bin .add l_5 (i_ 1)),w_ 5 r_0]))))
def t115:aO:=⟨2,8,[.loc 2],
(h_ [w_ 2 (i_ 0)]
(.seq (.seq (g_ [v_ l_0,s_ 4 (.len .sl r_0),w_ 5 (i_ 0)])
(.block 0
(.loop t115L0)))
(h_ [s_ 2 (.mov (i_ (-1)))]
.ret)))⟩
def a116:Ann:=⟨[0,2,3,16],[],[],[],[]⟩
def t116:aO:=⟨1,4,[.loc 1],
(h_ [w_ 1 F_]
(h_ [v_ l_0,o_ (.call true false 148 [r_0,(.cst (.str [45]))]),w_ 2 r_1]
(.seq (.seq (g_ [v_ l_2,o_ (.bin .eql r_0 (.cst (.str []))),v_ r_1,x_ 2 (.mov l_2),x_ 2 (.indexS r_3 (i_ 0)),x_ 2 (.bin .eql r_4 (.cst (.int .u8 48))),x_ 2 (.mov r_5),y_ 6 (.mov l_0),y_ 6 (.bin .neq r_7 (.cst (.str [48]))),x_ 2 (.pick r_6 r_8 F_),s_ 3 (.pick r_2 T_ r_9)])
(.cond l_3
(h_ [w_ 1 F_]
.ret)
.skip))
(h_ [v_ l_2,o_ (.call false false 149 [r_0,(.fn 150)]),o_ (.un .not r_1),w_ 1 r_2]
.ret))))⟩
def a117:Ann:=⟨[0,2],[],[],[],[]⟩
def t117:aO:=⟨1,2,[.loc 1],
(h_ [w_ 1 F_]
(h_ [v_ l_0,o_ (.bin .geq r_0 (i_ 0)),v_ r_1,y_ 2 (.mov l_0),y_ 2 (.bin .leq r_3 (i_ 1114111)),o_ (.pick r_2 r_4 F_),v_ r_5,y_ 6 (.mov l_0),y_ 6 (.conv (.toInt .i32) r_7),y_ 6 (.call true false 151 [r_8]),o_ (.pick r_6 r_9 F_),w_ 1 dN]
.ret))⟩
def a118:Ann:=⟨[0,2,3,4,5,6,8,17,20,21,22,23],[8,5],[],[],[(3,⟨[0,1,0,7],[0,1,2,3],[]⟩)]⟩
def t118L0:aK:=(.seq (g_ [s_ 11 (.bin .lss dD l_9)])
(.seq (.cond iM
.skip
(.exit 0))
(.seq (.block 1
(h_ [o_ (.indexAddrS 2 l_8 dD),o_ (.loadN 2 r_0),o_ (.allocL 6 [(.int .i64 0),(.int .i64 0)]),o_ (.store 2 r_2 r_1)]
(g_ [v_ l_5,f_ 0 l_6,d_ r_1,o_ (.lit false [(.int .i64 0)] 1 [(0,r_2)]),o_ (.append false 1 8 3 r_0 r_3),w_ 5 r_4])))
(g_ [o_ (.bin .add dD (i_ 1)),w_ 10 r_0]))))
def t118:aO:=⟨1,12,[.loc 1,.loc 2],
(h_ [w_ 1 N_,w_ 2 (i_ 0)]
(h_ [v_ l_0,o_ (.conv .strBytes r_0),c_ 152 [r_1],v_ r_2,o_ (.extract 0 r_3),o_ (.extract 1 r_3),o_ (.allocL 4 [(.int .i64 0),(.int .i64 0)]),w_ 3 r_4,o_ (.store 2 r_6 r_5)]
(.seq (.seq (g_ [f_ 0 l_4,d_ r_0,s_ 7 (.bin .neq r_1 (i_ 0))])
(.cond l_7
(.seq (.draw [0,1,2,3] [] [f_ 0 l_4,d_ r_0,w_ 1 N_,w_ 2 r_1])
.ret)
.skip))
(h_ [w_ 5 N_]
(.seq (.seq (g_ [w_ 8 l_3,s_ 9 (.len .sl r_0),w_ 10 (i_ 0)])
(.block 0
(.loop t118L0)))
(h_ [v_ l_5,w_ 1 r_0,w_ 2 (i_ 0)]
.ret))))))⟩
def a119:Ann:=⟨[0,1,4],[],[],[],[]⟩
def t119:aO:=⟨2,3,[.loc 2],
(h_ [w_ 2 F_]
(h_ [v_ l_0,o_ (.bin .geq r_0 (i_ 0)),v_ r_1,y_ 2 (.mov l_0),y_ 2 (.mov l_1),y_ 2 (.bin .lss r_3 r_4),o_ (.pick r_2 r_5 F_),w_ 2 r_6]
.ret))⟩
def a120:Ann:=⟨[0,1,4],[],[],[],[]⟩
def t120:aO:=⟨2,3,[.loc 2],
(h_ [w_ 2 F_]
(h_ [v_ l_0,v_ l_1,o_ (.call false false 153 [r_0,r_1]),o_ (.bin .geq r_2 (i_ 0)),w_ 2 r_3]
.ret))⟩
def a121:Ann:=⟨[0,1,2,4],[],[],[],[(1,⟨[0,0,0,4,12,28,60,127,255,511],[0,1,2,3,4,5,6],[(7,[],[8,9])]⟩)]⟩
def t121:aO:=⟨3,4,[.loc 3],
(h_ [w_ 3 F_]
(.seq (.draw [0,1,2,3,4,5,6] [(7,[],[8,9])] [d_ l_1,v_ l_0,d_ l_2,o_ (.nilCheck r_2),f_ 0 r_3,f_ 6 r_4,d_ r_5,o_ (.callv r_0 [r_1,r_6]),o_ (.un .not r_7),w_ 3 r_8])
.ret))⟩
def a125:Ann:=⟨[0,1,4,5,6,7,8,16,26,50],[],[],[],[(7,⟨[0,1,3,7,15,31,7,7,7,7,775,1991,4039,8191,16383],[0],[(1,[],[2,3,6,7,8,9,10,11,12]),(4,[11,12],[5,13,14])]⟩)]⟩
def t125L0:aK:=(.seq (.seq (g_ [v_ l_5,o_ (.bin .leq r_0 (i_ 4)),v_ r_1,y_ 2 (.mov l_1),y_ 2 (.mov l_5),y_ 2 (.bin .add r_3 r_4),y_ 2 (.mov l_0),y_ 2 (.len .sl r_6),y_ 2 (.bin .leq r_5 r_7),s_ 8 (.pick r_2 r_8 F_)])
(.cond l_8
.skip
(.exit 0)))
(.seq (.block 1
(h_ [v_ l_0,v_ l_1,v_ l_1,v_ l_5,o_ (.bin .add r_2 r_3),o_ (.slice (.sl 1) r_0 (some r_1) (some r_4) none),c_ 157 [r_5],w_ 6 r_6]
(.seq (.draw [0] [(1,[],[2,3,6,7,8,9,10,11,12]),(4,[11,12],[5,13,14])] [v_ l_6,c_ 53 [r_0],v_ r_1,y_ 2 (.mov l_6),y_ 2 (.call true false 158 [r_3]),y_ 2 (.conv .bytesStr r_4),y_ 2 (.mov l_0),y_ 2 (.mov l_1),y_ 2 (.mov l_1),y_ 2 (.mov l_5),y_ 2 (.bin .add r_8 r_9),y_ 2 (.slice (.sl 1) r_6 (some r_7) (some dN) none),y_ 2 (.conv .bytesStr eU),y_ 2 (.bin .eql r_5 iI),s_ 9 (.pick r_2 hP F_)])
(.cond l_9
(h_ [v_ l_6,v_ l_5,w_ 2 r_0,w_ 3 r_1,w_ 4 (i_ 0)]
.ret)
.skip))))
(g_ [v_ l_5,o_ (.bin .add r_0 (i_ 1)),w_ 5 r_1])))
def t125:aO:=⟨2,10,[.loc 2,.loc 3,.loc 4],
(h_ [w_ 2 (i_ 0),w_ 3 (i_ 0),w_ 4 (i_ 0)]
(.seq (.seq (g_ [v_ l_1,o_ (.bin .lss r_0 (i_ 0)),v_ r_1,x_ 2 (.mov l_1),x_ 2 (.mov l_0),x_ 2 (.len .sl r_4),x_ 2 (.bin .geq r_3 r_5),s_ 7 (.pick r_2 T_ r_6)])
(.cond l_7
(h_ [w_ 2 (i_ 0),w_ 3 (i_ 0),w_ 4 (i_ 2)]
.ret)
.skip))
(.seq (.seq (g_ [w_ 5 (i_ 1)])
(.block 0
(.loop t125L0)))
(h_ [w_ 2 (i_ 0),w_ 3 (i_ 0),w_ 4 (i_ 4)]
.ret))))⟩
def a126:Ann:=⟨[0,2,3,6],[],[],[],[]⟩
def t126:aO:=⟨1,4,[.loc 1,.loc 2],
(h_ [s_ 1 (.mov (.cst (.str []))),w_ 2 (i_ 0)]
(.seq (.seq (g_ [v_ l_0,c_ 53 [r_0],s_ 3 (.un .not r_1)])
(.cond l_3
(h_ [s_ 1 (.mov (.cst (.str []))),w_ 2 (i_ 2)]
.ret)
.skip))
(h_ [v_ l_0,c_ 158 [r_0],o_ (.conv .bytesStr r_1),w_ 1 r_2,w_ 2 (i_ 0)]
.ret)))⟩
def a127:Ann:=⟨[0,2,3,6,8,10,16],[],[],[],[]⟩
def t127:aO:=⟨1,7,[.loc 1],
(h_ [s_ 1 (.mov (.cst (.str [])))]
(.seq (.seq (g_ [v_ l_0,s_ 3 (.bin .eql r_0 (i_ 32))])
(.cond l_3
(h_ [s_ 1 (.mov (.cst (.str [115,112,97,99,101])))]
.ret)
.skip))
(.seq (.seq (g_ [v_ l_0,s_ 4 (.bin .eql r_0 (i_ 10))])
(.cond l_4
(h_ [s_ 1 (.mov (.cst (.str [110,101,119,108,105,110,101])))]
.ret)
.skip))
(.seq (.seq (g_ [v_ l_0,s_ 5 (.bin .eql r_0 (i_ 9))])
(.cond l_5
(h_ [s_ 1 (.mov (.cst (.str [116,97,98])))]
.ret)
.skip))
(.seq (.seq (g_ [v_ l_0,o_ (.bin .lss r_0 (i_ 32)),v_ r_1,x_ 2 (.mov l_0),x_ 2 (.bin .eql r_3 (i_ 127)),s_ 6 (.pick r_2 T_ r_4)])
(.cond l_6
(h_ [v_ l_0,c_ 159 [r_0],o_ (.bin .add (.cst (.str [120])) r_1),w_ 1 r_2]
.ret)
.skip))
(h_ [v_ l_0,c_ 126 [r_0],v_ r_1,o_ (.extract 0 r_2),o_ (.extract 1 r_2),w_ 2 r_3,v_ r_4]
(h_ [v_ l_2,w_ 1 r_0]
.ret)))))))⟩
def a128:Ann:=⟨[0,2,3,5,6,7,8,18,35,41,45,53],[],[],[],[]⟩
def t128L0:aK:=(.seq (.seq (g_ [v_ l_4,v_ l_2,o_ (.len .sl r_1),s_ 7 (.bin .lss r_0 r_2)])
(.cond l_7
.skip
(.exit 0)))
(.seq (.block 1
(h_ [v_ l_2,v_ l_4,o_ (.indexAddrS 1 r_0 r_1),d_ r_2,w_ 5 r_3]
(h_ [v_ l_5,c_ 126 [r_0],v_ r_1,o_ (.extract 0 r_2),o_ (.extract 1 r_2),w_ 6 r_3,v_ r_4]
(h_ [v_ l_5,o_ (.bin .eql r_0 (i_ 34)),v_ r_1,x_ 2 (.mov l_5),x_ 2 (.bin .eql r_3 (i_ 92)),s_ 8 (.pick r_2 T_ r_4)]
(.cond l_8
(g_ [v_ l_3,o_ (.bin .add r_0 (.cst (.str [92]))),v_ l_6,o_ (.bin .add r_1 r_2),w_ 3 r_3])
(h_ [v_ l_5,s_ 9 (.bin .eql r_0 (i_ 10))]
(.cond l_9
(g_ [v_ l_3,o_ (.bin .add r_0 (.cst (.str [92,110]))),w_ 3 r_1])
(h_ [v_ l_5,s_ 10 (.bin .eql r_0 (i_ 9))]
(.cond dD
(g_ [v_ l_3,o_ (.bin .add r_0 (.cst (.str [92,116]))),w_ 3 r_1])
(h_ [v_ l_5,o_ (.bin .lss r_0 (i_ 32)),v_ r_1,x_ 2 (.mov l_5),x_ 2 (.bin .eql r_3 (i_ 127)),s_ 11 (.pick r_2 T_ r_4)]
(.cond iM
(g_ [v_ l_3,o_ (.bin .add r_0 (.cst (.str [92,120]))),v_ l_5,c_ 159 [r_2],o_ (.bin .add r_1 r_3),o_ (.bin .add r_4 (.cst (.str [59]))),w_ 3 r_5])
(g_ [v_ l_3,v_ l_6,o_ (.bin .add r_0 r_1),w_ 3 r_2]))))))))))))
(g_ [v_ l_4,o_ (.bin .add r_0 (i_ 1)),w_ 4 r_1])))
def t128:aO:=⟨1,12,[.loc 1],
(h_ [s_ 1 (.mov (.cst (.str [])))]
(h_ [v_ l_0,c_ 51 [r_0],v_ r_1,o_ (.extract 0 r_2),o_ (.extract 1 r_2),w_ 2 r_3,v_ r_4]
(h_ [s_ 3 (.mov (.cst (.str [34])))]
(.seq (.seq (g_ [w_ 4 (i_ 0)])
(.block 0
(.loop t128L0)))
(h_ [v_ l_3,o_ (.bin .add r_0 (.cst (.str [34]))),w_ 1 r_1]
.ret)))))⟩
def a129:Ann:=⟨[0,1,4,5,6,10,14],[],[],[],[]⟩
def t129L0:aK:=(.seq (.seq (g_ [v_ l_4,v_ l_0,o_ (.len .sl r_1),s_ 5 (.bin .lss r_0 r_2)])
(.cond l_5
.skip
(.exit 0)))
(.seq (.block 1
(.seq (.seq (g_ [v_ l_4,s_ 6 (.bin .gtr r_0 (i_ 0))])
(.cond l_6
(g_ [v_ l_3,o_ (.bin .add r_0 (.cst (.str [32]))),w_ 3 r_1])
.skip))
(g_ [v_ l_3,v_ l_0,v_ l_4,o_ (.indexAddrS 5 r_1 r_2),o_ (.loadN 5 r_3),v_ l_1,c_ 94 [r_4,r_5],o_ (.bin .add r_0 r_6),w_ 3 r_7])))
(g_ [v_ l_4,o_ (.bin .add r_0 (i_ 1)),w_ 4 r_1])))
def t129:aO:=⟨2,7,[.loc 2],
(h_ [s_ 2 (.mov (.cst (.str [])))]
(h_ [s_ 3 (.mov (.cst (.str [])))]
(.seq (.seq (g_ [w_ 4 (i_ 0)])
(.block 0
(.loop t129L0)))
(h_ [v_ l_3,w_ 2 r_0]
.ret))))⟩
def a130:Ann:=⟨[0,2,4],[],[],[],[(3,⟨[0,1,3,0,8,24,56,120,248,511,1023],[0,1,3,4,5,6,7,8],[(2,[8],[9,10])]⟩)]⟩
def t130:aO:=⟨1,3,[.loc 1],
(h_ [s_ 1 (.mov (.cst (.str [])))]
(.seq (.seq (g_ [v_ l_0,s_ 2 (.bin .lss r_0 (i_ 10))])
(.cond l_2
(h_ [v_ l_0,o_ (.bin .add (i_ 48) r_0),o_ (.conv (.toInt .u8) r_1),o_ (.lit false [(.int .u8 0)] 1 [(0,r_2)]),o_ (.conv .bytesStr r_3),w_ 1 r_4]
.ret)
.skip))
(.seq (.draw [0,1,3,4,5,6,7,8] [(2,[8],[9,10])] [v_ l_0,o_ (.bin .quo r_0 (i_ 10)),c_ 130 [r_1],v_ l_0,o_ (.bin .rem r_3 (i_ 10)),o_ (.bin .add (i_ 48) r_4),o_ (.conv (.toInt .u8) r_5),o_ (.lit false [(.int .u8 0)] 1 [(0,r_6)]),o_ (.conv .bytesStr r_7),o_ (.bin .add r_2 r_8),w_ 1 r_9])
.ret)))⟩
def a131:Ann:=⟨[0,1,4,5,7,8,9,16],[],[],[],[]⟩
def t131L0:aK:=(.seq (g_ [s_ 6 (.bin .lss l_5 l_4)])
(.seq (.cond l_6
.skip
(.exit 0))
(.seq (.block 1
(h_ [v_ l_5,w_ 3 r_0]
(h_ [v_ l_1,v_ l_0,v_ l_3,o_ (.indexAddrS 5 r_1 r_2),o_ (.loadN 5 r_3),s_ 7 (.callv r_0 [r_4])]
(.cond l_7
(h_ [v_ l_3,w_ 2 r_0]
.ret)
.skip))))
(g_ [o_ (.bin .add l_5 (i_ 1)),w_ 5 r_0]))))
def t131:aO:=⟨2,8,[.loc 2],
(h_ [w_ 2 (i_ 0)]
(.seq (.seq (g_ [v_ l_0,s_ 4 (.len .sl r_0),w_ 5 (i_ 0)])
(.block 0
(.loop t131L0)))
(h_ [s_ 2 (.mov (i_ (-1)))]
.ret)))⟩
def a132:Ann:=⟨[0,1,4,6,7,8,9,10],[],[],[],[]⟩
def t132L0:aK:=(.seq (g_ [s_ 7 (.bin .lss l_6 l_5)])
(.seq (.cond l_7
.skip
(.exit 0))
(.seq (.block 1
(h_ [o_ (.indexAddrS 1 l_4 l_6),d_ r_0,w_ 3 r_1]
(g_ [v_ l_2,v_ l_1,v_ l_3,o_ (.callv r_1 [r_2]),o_ (.lit false [(.int .i64 0)] 1 [(0,r_3)]),o_ (.append false 1 8 3 r_0 r_4),w_ 2 r_5])))
(g_ [o_ (.bin .add l_6 (i_ 1)),w_ 6 r_0]))))
def t132:aO:=⟨2,8,[.loc 2],
(h_ [w_ 2 N_]
(.seq (.seq (g_ [w_ 4 l_0,s_ 5 (.len .sl r_0),w_ 6 (i_ 0)])
(.block 0
(.loop t132L0)))
(h_ [v_ l_2,w_ 2 r_0]
.ret)))⟩
def a133:Ann:=⟨[0,1,2,4,8],[],[],[],[(4,⟨[0,1,3,7,0,0,32,96,224,480,1023],[0,1,2,3,4,5,6,7,8,9],[(10,[],[])]⟩)]⟩
def t133:aO:=⟨3,5,[.loc 3],
(h_ [w_ 3 (i_ 0)]
(.seq (.seq (g_ [d_ l_1,v_ l_0,o_ (.call false false 99 [r_0,r_1]),s_ 4 (.un .not r_2)])
(.cond l_4
(h_ [v_ l_0,w_ 3 r_0]
.ret)
.skip))
(h_ [d_ l_2,v_ l_0,o_ (.lit false [(.int .i64 0)] 1 [(0,r_1)]),o_ (.append false 1 8 3 r_0 r_2),o_ (.store 1 l_2 r_3)]
(.seq (.draw [0,1,2,3,4,5,6,7,8,9] [(10,[],[])] [d_ l_1,o_ (.nilCheck r_0),f_ 0 r_1,d_ r_2,v_ l_0,d_ l_1,o_ (.nilCheck r_5),f_ 1 r_6,d_ r_7,o_ (.build [(.int .i64 0)] [(0,1,r_8)]),o_ (.update (.leaf .int) r_3 r_4 r_9)])
(h_ [d_ l_1,o_ (.nilCheck r_0),f_ 1 r_1,d_ r_2,o_ (.bin .add r_3 (i_ 1)),o_ (.nilCheck r_0),f_ 1 r_5,o_ (.store 1 r_6 r_4)]
(h_ [d_ l_1,o_ (.nilCheck r_0),f_ 0 r_1,d_ r_2,v_ l_0,o_ (.lookup (.leaf .int) (.agg [(.int .i64 0)]) false r_3 r_4),o_ (.field 0 1 false r_5),w_ 3 r_6]
.ret))))))⟩
def a134:Ann:=⟨[0,1,4,6,7,8,9,10],[],[],[],[]⟩
def t134L0:aK:=(.seq (g_ [s_ 7 (.bin .lss l_6 l_5)])
(.seq (.cond l_7
.skip
(.exit 0))
(.seq (.block 1
(h_ [o_ (.indexAddrS 1 l_4 l_6),d_ r_0,w_ 3 r_1]
(g_ [v_ l_2,v_ l_1,v_ l_3,o_ (.callv r_1 [r_2]),o_ (.lit false [(.int .i64 0),(.int .i64 0),(.sl .nil []),(.bool false),(.sl .nil [])] 1 [(0,r_3)]),o_ (.append false 5 72 25 r_0 r_4),w_ 2 r_5])))
(g_ [o_ (.bin .add l_6 (i_ 1)),w_ 6 r_0]))))
def t134:aO:=⟨2,8,[.loc 2],
(h_ [w_ 2 N_]
(.seq (.seq (g_ [w_ 4 l_0,s_ 5 (.len .sl r_0),w_ 6 (i_ 0)])
(.block 0
(.loop t134L0)))
(h_ [v_ l_2,w_ 2 r_0]
.ret)))⟩
def a135:Ann:=⟨[0,1,3],[3],[],[],[]⟩
def t135:aO:=⟨2,3,[.cell 2 5 true],
(h_ [o_ (.allocL 2 [(.int .i64 0),(.int .i64 0),(.sl .nil []),(.bool false),(.sl .nil [])])]
(h_ [d_ l_1,o_ (.nilCheck r_0),f_ 0 r_1,d_ r_2,v_ l_0,o_ (.lookup (.leaf .int) (.agg [(.int .i64 0)]) false r_3 r_4),o_ (.field 0 1 false r_5),c_ 100 [r_6],o_ (.lit false [(.int .i64 0),(.int .i64 0),(.sl .nil []),(.bool false),(.sl .nil [])] 1 [(0,r_7)]),o_ (.build [(.int .i64 0),(.int .i64 0),(.sl .nil []),(.bool false),(.sl .nil [])] [(0,1,(i_ 12)),(4,1,r_8)]),o_ (.store 5 l_2 r_9)]
.ret))⟩
def a136:Ann:=⟨[0,1,2,3,4,5,6,7,48,71,76,94,97,116,134],[3,2],[],[],[(10,⟨[0,1,0,7,15,31,63,127,255,127,1023,2047,127,4223,16383,32767],[0,1,2,3,4,5,6,7,8,9,10,11,12,13,14,15],[]⟩)]⟩
def t136L0:aK:=(.seq (.seq (g_ [v_ l_7,f_ 2 l_3,d_ r_1,o_ (.len .sl r_2),s_ 10 (.bin .lss r_0 r_3)])
(.cond dD
.skip
(.exit 0)))
(.seq (.block 1
(.seq (.draw [0,1,2,3,4,5,6,7,8,9,10,11,12,13,14,15] [] [f_ 2 l_3,d_ r_0,v_ l_7,o_ (.indexAddrS 1 r_1 r_2),d_ r_3,o_ (.bin .lss r_4 (i_ 0)),v_ r_5,x_ 6 (.fieldAddr 2 l_3),x_ 6 (.load1 r_7),x_ 6 (.mov l_7),x_ 6 (.indexAddrS 1 r_8 r_9),x_ 6 (.load1 dN),x_ 6 (.fieldAddr 6 l_2),x_ 6 (.load1 iI),x_ 6 (.bin .geq eU hP),s_ 11 (.pick r_6 T_ nG)])
(.cond iM
(h_ [w_ 4 F_]
.ret)
.skip)))
(g_ [v_ l_7,o_ (.bin .add r_0 (i_ 1)),w_ 7 r_1])))
def t136:aO:=⟨2,15,[.loc 4],
(h_ [o_ (.boxL 2 l_0),o_ (.boxL 3 l_1),w_ 4 F_]
(h_ [o_ (.loadN 5 l_3),c_ 95 [r_0],w_ 5 r_1]
(h_ [f_ 0 l_3,d_ r_0,o_ (.bin .eql r_1 (i_ 8)),v_ r_2,x_ 3 (.fieldAddr 0 l_3),x_ 3 (.load1 r_4),x_ 3 (.bin .eql r_5 (i_ 10)),o_ (.pick r_3 T_ r_6),w_ 6 r_7]
(.seq (.seq (g_ [v_ l_5,o_ (.bin .lss r_0 (i_ 0)),v_ r_1,x_ 2 (.fieldAddr 4 l_3),x_ 2 (.load1 r_3),x_ 2 (.len .sl r_4),x_ 2 (.mov l_5),x_ 2 (.bin .lss r_5 r_6),o_ (.pick r_2 T_ r_7),v_ r_8,x_ 9 (.fieldAddr 4 l_3),x_ 9 (.load1 dN),x_ 9 (.len .sl eU),x_ 9 (.mov l_5),x_ 9 (.bin .gtr iI hP),x_ 9 (.mov nG),y_ 15 (.mov l_6),y_ 15 (.un .not sD),x_ 9 (.pick sC tS F_),o_ (.pick r_9 T_ wY),v_ yV,x_ 20 (.fieldAddr 0 l_3),x_ 20 (.load1 aCe),x_ 20 (.call true false 160 [aC4]),x_ 20 (.un .not aHb),x_ 20 (.mov aKn),y_ 25 (.fieldAddr 1 l_3),y_ 25 (.load1 bBs),y_ 25 (.bin .neq bBt (i_ 0)),x_ 20 (.pick aOc bBu F_),s_ 8 (.pick aCd T_ bBv)])
(.cond l_8
(h_ [w_ 4 F_]
.ret)
.skip))
(.seq (.seq (g_ [f_ 0 l_3,d_ r_0,o_ (.bin .neq r_1 (i_ 7)),v_ r_2,y_ 3 (.fieldAddr 2 l_3),y_ 3 (.load1 r_4),y_ 3 (.len .sl r_5),y_ 3 (.bin .gtr r_6 (i_ 0)),y_ 3 (.mov r_7),x_ 8 (.fieldAddr 3 l_3),x_ 8 (.load1 r_9),y_ 3 (.pick r_8 T_ dN),o_ (.pick r_3 eU F_),v_ iI,x_ 13 (.fieldAddr 3 l_3),x_ 13 (.load1 nG),x_ 13 (.mov sC),y_ 16 (.fieldAddr 2 l_3),y_ 16 (.load1 tS),y_ 16 (.len .sl wY),y_ 16 (.bin .eql yV (i_ 0)),x_ 13 (.pick sD aCd F_),s_ 9 (.pick hP T_ aCe)])
(.cond l_9
(h_ [w_ 4 F_]
.ret)
.skip))
(.seq (.seq (g_ [w_ 7 (i_ 0)])
(.block 0
(.loop t136L0)))
(.seq (.seq (g_ [f_ 0 l_3,d_ r_0,s_ 12 (.bin .eql r_1 (i_ 1))])
(.cond kE
(h_ [f_ 1 l_3,d_ r_0,o_ (.bin .geq r_1 (i_ 0)),v_ r_2,y_ 3 (.fieldAddr 1 l_3),y_ 3 (.load1 r_4),y_ 3 (.fieldAddr 7 l_2),y_ 3 (.load1 r_6),y_ 3 (.len .sl r_7),y_ 3 (.bin .lss r_5 r_8),o_ (.pick r_3 r_9 F_),w_ 4 dN]
.ret)
.skip))
(.seq (.seq (g_ [f_ 0 l_3,d_ r_0,o_ (.bin .eql r_1 (i_ 2)),v_ r_2,x_ 3 (.fieldAddr 0 l_3),x_ 3 (.load1 r_4),x_ 3 (.bin .eql r_5 (i_ 4)),s_ 13 (.pick r_3 T_ r_6)])
(.cond jC
(h_ [f_ 1 l_3,d_ r_0,o_ (.bin .geq r_1 (i_ 0)),v_ r_2,y_ 3 (.fieldAddr 1 l_3),y_ 3 (.load1 r_4),y_ 3 (.fieldAddr 6 l_2),y_ 3 (.load1 r_6),y_ 3 (.bin .lss r_5 r_7),o_ (.pick r_3 r_8 F_),w_ 4 r_9]
.ret)
.skip))
(.seq (.seq (g_ [f_ 0 l_3,d_ r_0,o_ (.bin .eql r_1 (i_ 3)),v_ r_2,x_ 3 (.fieldAddr 0 l_3),x_ 3 (.load1 r_4),x_ 3 (.bin .eql r_5 (i_ 5)),s_ 14 (.pick r_3 T_ r_6)])
(.cond lZ
(h_ [f_ 1 l_3,d_ r_0,o_ (.bin .geq r_1 (i_ 0)),v_ r_2,y_ 3 (.fieldAddr 1 l_3),y_ 3 (.load1 r_4),y_ 3 (.fieldAddr 5 l_2),y_ 3 (.load1 r_6),y_ 3 (.bin .lss r_5 r_7),o_ (.pick r_3 r_8 F_),w_ 4 r_9]
.ret)
.skip))
(h_ [w_ 4 T_]
.ret))))))))))⟩
def a137:Ann:=⟨[0,1,4,5,6,9,22],[],[],[],[]⟩
def t137L0:aK:=(.seq (.seq (g_ [v_ l_3,v_ l_0,o_ (.len .sl r_1),o_ (.bin .lss r_0 r_2),v_ r_3,y_ 4 (.mov l_0),y_ 4 (.mov l_3),y_ 4 (.indexAddrS 1 r_5 r_6),y_ 4 (.load1 r_7),y_ 4 (.mov l_1),y_ 4 (.bin .lss r_8 r_9),s_ 6 (.pick r_4 dN F_)])
(.cond l_6
.skip
(.exit 0)))
(.block 1
(g_ [v_ l_3,o_ (.bin .add r_0 (i_ 1)),w_ 3 r_1])))
def t137:aO:=⟨2,7,[.loc 2],
(h_ [w_ 2 N_]
(.seq (.seq (g_ [v_ l_0,v_ l_1,s_ 5 (.call true false 104 [r_0,r_1])])
(.cond l_5
(h_ [v_ l_0,w_ 2 r_0]
.ret)
.skip))
(h_ [w_ 3 (i_ 0)]
(.seq (.block 0
(.loop t137L0))
(h_ [w_ 4 N_]
(h_ [v_ l_4,v_ l_0,v_ l_3,o_ (.slice (.sl 1) r_1 none (some r_2) none),o_ (.append false 1 8 3 r_0 r_3),w_ 4 r_4]
(h_ [v_ l_4,v_ l_1,o_ (.lit false [(.int .i64 0)] 1 [(0,r_1)]),o_ (.append false 1 8 3 r_0 r_2),w_ 4 r_3]
(h_ [v_ l_4,v_ l_0,v_ l_3,o_ (.slice (.sl 1) r_1 (some r_2) none none),o_ (.append false 1 8 3 r_0 r_3),w_ 2 r_4]
.ret))))))))⟩
def a138:Ann:=⟨[0,1,4,5,6,7,9,11,17,23,34],[],[],[],[]⟩
def t138:aO:=⟨2,11,[.loc 2],
(h_ [s_ 2 (.mov (.cst (.str [])))]
(.seq (.seq (g_ [v_ l_1,s_ 7 (.bin .eql r_0 (i_ 10))])
(.cond l_7
(.seq (.seq (g_ [v_ l_0,o_ (.bin .leq (i_ 0) r_0),v_ r_1,y_ 2 (.mov l_0),y_ 2 (.bin .lss r_3 (i_ 100)),s_ 8 (.pick r_2 r_4 F_)])
(.cond l_8
(h_ [v_ l_0,c_ 161 [r_0],w_ 2 r_1]
.ret)
.skip))
(h_ [s_ 3 (.allocH 176 [(.int .u8 0),(.int .u8 0),(.int .u8 0),(.int .u8 0),(.int .u8 0),(.int .u8 0),(.int .u8 0),(.int .u8 0),(.int .u8 0),(.int .u8 0),(.int .u8 0),(.int .u8 0),(.int .u8 0),(.int .u8 0),(.int .u8 0),(.int .u8 0),(.int .u8 0),(.int .u8 0),(.int .u8 0),(.int .u8 0),(.int .u8 0),(.int .u8 0),(.int .u8 0),(.int .u8 0)])]
(h_ [v_ l_0,o_ (.conv (.toInt .u64) r_0),w_ 4 r_1]
(.seq (.seq (g_ [v_ l_0,s_ 9 (.bin .lss r_0 (i_ 0))])
(.cond l_9
(g_ [v_ l_4,o_ (.un .neg r_0),w_ 4 r_1])
.skip))
(h_ [v_ l_4,c_ 162 [r_0],w_ 5 r_1]
(h_ [v_ l_5,o_ (.bin .add (i_ 1) r_0),o_ (.slice (.arr 24 1) l_3 (some (i_ 1)) (some r_1) none),v_ l_4,o_ (.call false false 163 [r_2,r_3])]
(.seq (.seq (g_ [v_ l_0,s_ 10 (.bin .lss r_0 (i_ 0))])
(.cond dD
(h_ [o_ (.indexAddrA 24 1 l_3 (i_ 0)),o_ (.store 1 r_0 (.cst (.int .u8 45)))]
(h_ [v_ l_5,o_ (.bin .add (i_ 1) r_0),o_ (.slice (.arr 24 1) l_3 none (some r_1) none),o_ (.conv .bytesStr r_2),w_ 2 r_3]
.ret))
.skip))
(h_ [v_ l_5,o_ (.bin .add (i_ 1) r_0),o_ (.slice (.arr 24 1) l_3 (some (i_ 1)) (some r_1) none),o_ (.conv .bytesStr r_2),w_ 2 r_3]
.ret))))))))
.skip))
(h_ [v_ l_0,o_ (.conv (.toInt .u64) r_0),v_ l_1,v_ l_0,o_ (.bin .lss r_3 (i_ 0)),c_ 164 [N_,r_1,r_2,r_4,F_],v_ r_5,o_ (.extract 0 r_6),o_ (.extract 1 r_6),v_ r_7,w_ 6 r_8]
(h_ [v_ l_6,w_ 2 r_0]
.ret))))⟩
def a139:Ann:=⟨[0,1,4],[],[],[],[(0,⟨[0,1,3,7,15,31,0,127,255,0,512,1536,3584,7680,16383,32767],[0,1,2,3,4,5,6,7,9,10,11,12,13],[(8,[12,13],[14,15])]⟩)]⟩
def t139:aO:=⟨2,3,[],
(.seq (.draw [0,1,2,3,4,5,6,7,9,10,11,12,13] [(8,[12,13],[14,15])] [v_ l_0,o_ (.nilCheck r_0),f_ 1 r_1,d_ r_2,o_ (.cap r_3),o_ (.bin .mul (i_ 2) r_4),v_ l_1,o_ (.bin .add r_5 r_6),o_ (.prim 165 [r_7]),v_ l_0,o_ (.nilCheck r_9),f_ 1 dN,d_ eU,o_ (.len .sl iI),o_ (.slice (.sl 1) r_8 none (some hP) none),w_ 2 nG])
(h_ [v_ l_2,v_ l_0,o_ (.nilCheck r_1),f_ 1 r_2,d_ r_3,o_ (.copy 1 r_0 r_4)]
(g_ [v_ l_0,v_ l_2,o_ (.nilCheck r_0),f_ 1 r_2,o_ (.store 1 r_3 r_1)])))⟩
def a148:Ann:=⟨[0,1,4],[],[],[],[]⟩
def t148:aO:=⟨2,3,[.loc 2],
(h_ [s_ 2 (.mov (.cst (.str [])))]
(h_ [v_ l_0,v_ l_1,c_ 170 [r_0,r_1],w_ 2 r_2]
.ret))⟩
def a149:Ann:=⟨[0,1,4],[],[],[],[]⟩
def t149:aO:=⟨2,3,[.loc 2],
(h_ [w_ 2 F_]
(h_ [v_ l_0,v_ l_1,o_ (.call false false 171 [r_0,r_1]),o_ (.bin .geq r_2 (i_ 0)),w_ 2 r_3]
.ret))⟩
def a150:Ann:=⟨[0,2],[],[],[],[]⟩
def t150:aO:=⟨1,2,[.loc 1],
(h_ [w_ 1 F_]
(h_ [v_ l_0,o_ (.bin .lss r_0 (.cst (.int .i32 48))),v_ r_1,x_ 2 (.mov l_0),x_ 2 (.bin .gtr r_3 (.cst (.int .i32 57))),o_ (.pick r_2 T_ r_4),w_ 1 r_5]
.ret))⟩
def a151:Ann:=⟨[0,2,3,10],[],[],[],[]⟩
def t151:aO:=⟨1,4,[.loc 1],
(h_ [w_ 1 F_]
(.seq (.block 0
(h_ [v_ l_0,o_ (.bin .leq (.cst (.int .i32 0)) r_0),v_ r_1,y_ 2 (.mov l_0),y_ 2 (.bin .lss r_3 (.cst (.int .i32 55296))),o_ (.pick r_2 r_4 F_),w_ 2 r_5]
(.cond l_2
(h_ [w_ 1 T_]
.ret)
(h_ [v_ l_0,o_ (.bin .lss (.cst (.int .i32 57343)) r_0),v_ r_1,y_ 2 (.mov l_0),y_ 2 (.bin .leq r_3 (.cst (.int .i32 1114111))),o_ (.pick r_2 r_4 F_),w_ 3 r_5]
(.cond l_3
(h_ [w_ 1 T_]
.ret)
.skip)))))
(h_ [w_ 1 F_]
.ret)))⟩
def a152:Ann:=⟨[0,2,3,4,5,6,8,11,12,13,17,27],[3],[],[],[]⟩
def t152L0:aK:=(.seq (g_ [s_ 8 (.nextS l_7),s_ 9 (.extract 0 r_0)])
(.seq (.cond l_9
.skip
(.exit 0))
(.block 1
(h_ [o_ (.extract 1 l_8),o_ (.extract 2 l_8),w_ 4 r_0,w_ 5 r_1]
(.seq (.seq (g_ [v_ l_5,s_ 10 (.bin .eql r_0 (.cst (.int .i32 65533)))])
(.cond dD
(h_ [v_ l_0,v_ l_4,o_ (.slice (.sl 1) r_0 (some r_1) none none),c_ 172 [r_2],v_ r_3,o_ (.extract 0 r_4),o_ (.extract 1 r_4),v_ r_5,w_ 6 r_6]
(h_ [v_ l_5,v_ l_6,s_ 11 (.call true false 173 [r_0,r_1])]
(.cond iM
(h_ [v_ l_4,o_ (.build [(.int .i64 0),(.int .i64 0)] [(0,1,(i_ 4)),(1,1,r_0)]),w_ 1 N_,o_ (.store 2 l_2 r_1)]
.ret)
.skip)))
.skip))
(g_ [v_ l_3,v_ l_5,o_ (.conv (.toInt .i64) r_1),v_ l_4,o_ (.build [(.int .i64 0),(.int .i64 0)] [(0,1,r_2),(1,1,r_3)]),o_ (.lit false [(.int .i64 0),(.int .i64 0)] 1 [(0,r_4)]),o_ (.append false 2 16 167 r_0 r_5),w_ 3 r_6]))))))
def t152:aO:=⟨1,12,[.loc 1,.cell 2 2 true],
(h_ [w_ 1 N_,o_ (.allocL 2 [(.int .i64 0),(.int .i64 0)])]
(h_ [w_ 3 N_]
(.seq (.seq (g_ [v_ l_0,o_ (.conv .bytesStr r_0),s_ 7 (.range true r_1)])
(.block 0
(.loop t152L0)))
(h_ [v_ l_3,o_ (.build [(.int .i64 0),(.int .i64 0)] []),w_ 1 r_0,o_ (.store 2 l_2 r_1)]
.ret))))⟩
def a153:Ann:=⟨[0,1,4,5,7,8,9,16],[],[],[],[]⟩
def t153L0:aK:=(.seq (g_ [s_ 6 (.bin .lss l_5 l_4)])
(.seq (.cond l_6
.skip
(.exit 0))
(.seq (.block 1
(h_ [v_ l_5,w_ 3 r_0]
(h_ [v_ l_1,v_ l_0,v_ l_3,o_ (.indexAddrS 1 r_1 r_2),d_ r_3,s_ 7 (.callv r_0 [r_4])]
(.cond l_7
(h_ [v_ l_3,w_ 2 r_0]
.ret)
.skip))))
(g_ [o_ (.bin .add l_5 (i_ 1)),w_ 5 r_0]))))
def t153:aO:=⟨2,8,[.loc 2],
(h_ [w_ 2 (i_ 0)]
(.seq (.seq (g_ [v_ l_0,s_ 4 (.len .sl r_0),w_ 5 (i_ 0)])
(.block 0
(.loop t153L0)))
(h_ [s_ 2 (.mov (i_ (-1)))]
.ret)))⟩
def a157:Ann:=⟨[0,2,3,4,5,13,18,23,29],[],[],[],[]⟩
def t157L0:aK:=(.seq (.seq (g_ [v_ l_4,v_ l_0,o_ (.len .sl r_1),s_ 8 (.bin .lss r_0 r_2)])
(.cond l_8
.skip
(.exit 0)))
(.seq (.block 1
(g_ [v_ l_3,o_ (.bin .mul (i_ 64) r_0),v_ l_0,v_ l_4,o_ (.indexAddrS 1 r_2 r_3),d_ r_4,o_ (.conv (.toInt .i64) r_5),o_ (.bin .rem r_6 (i_ 64)),o_ (.bin .add r_1 r_7),w_ 3 r_8]))
(g_ [v_ l_4,o_ (.bin .add r_0 (i_ 1)),w_ 4 r_1])))
def t157:aO:=⟨1,9,[.loc 1],
(h_ [w_ 1 (i_ 0)]
(h_ [v_ l_0,o_ (.indexAddrS 1 r_0 (i_ 0)),d_ r_1,o_ (.conv (.toInt .i64) r_2),w_ 2 r_3]
(h_ [v_ l_2,w_ 3 r_0]
(.seq (.seq (g_ [v_ l_0,o_ (.len .sl r_0),s_ 5 (.bin .eql r_1 (i_ 2))])
(.cond l_5
(g_ [v_ l_2,o_ (.bin .rem r_0 (i_ 32)),w_ 3 r_1])
.skip))
(.seq (.seq (g_ [v_ l_0,o_ (.len .sl r_0),s_ 6 (.bin .eql r_1 (i_ 3))])
(.cond l_6
(g_ [v_ l_2,o_ (.bin .rem r_0 (i_ 16)),w_ 3 r_1])
.skip))
(.seq (.seq (g_ [v_ l_0,o_ (.len .sl r_0),s_ 7 (.bin .eql r_1 (i_ 4))])
(.cond l_7
(g_ [v_ l_2,o_ (.bin .rem r_0 (i_ 8)),w_ 3 r_1])
.skip))
(.seq (.seq (g_ [w_ 4 (i_ 1)])
(.block 0
(.loop t157L0)))
(h_ [v_ l_3,w_ 1 r_0]
.ret))))))))⟩
def a158:Ann:=⟨[0,2,4,9,20],[],[],[],[]⟩
def t158:aO:=⟨1,5,[.loc 1],
(h_ [w_ 1 N_]
(.seq (.seq (g_ [v_ l_0,s_ 2 (.bin .lss r_0 (i_ 128))])
(.cond l_2
(h_ [v_ l_0,o_ (.conv (.toInt .u8) r_0),o_ (.lit false [(.int .u8 0)] 1 [(0,r_1)]),w_ 1 r_2]
.ret)
.skip))
(.seq (.seq (g_ [v_ l_0,s_ 3 (.bin .lss r_0 (i_ 2048))])
(.cond l_3
(h_ [v_ l_0,o_ (.bin .quo r_0 (i_ 64)),o_ (.bin .add (i_ 192) r_1),o_ (.conv (.toInt .u8) r_2),v_ l_0,o_ (.bin .rem r_4 (i_ 64)),o_ (.bin .add (i_ 128) r_5),o_ (.conv (.toInt .u8) r_6),o_ (.lit false [(.int .u8 0)] 2 [(0,r_3),(1,r_7)]),w_ 1 r_8]
.ret)
.skip))
(.seq (.seq (g_ [v_ l_0,s_ 4 (.bin .lss r_0 (i_ 65536))])
(.cond l_4
(h_ [v_ l_0,o_ (.bin .quo r_0 (i_ 4096)),o_ (.bin .add (i_ 224) r_1),o_ (.conv (.toInt .u8) r_2),v_ l_0,o_ (.bin .quo r_4 (i_ 64)),o_ (.bin .rem r_5 (i_ 64)),o_ (.bin .add (i_ 128) r_6),o_ (.conv (.toInt .u8) r_7),v_ l_0,o_ (.bin .rem r_9 (i_ 64)),o_ (.bin .add (i_ 128) dN),o_ (.conv (.toInt .u8) eU),o_ (.lit false [(.int .u8 0)] 3 [(0,r_3),(1,r_8),(2,iI)]),w_ 1 hP]
.ret)
.skip))
(h_ [v_ l_0,o_ (.bin .quo r_0 (i_ 262144)),o_ (.bin .add (i_ 240) r_1),o_ (.conv (.toInt .u8) r_2),v_ l_0,o_ (.bin .quo r_4 (i_ 4096)),o_ (.bin .rem r_5 (i_ 64)),o_ (.bin .add (i_ 128) r_6),o_ (.conv (.toInt .u8) r_7),v_ l_0,o_ (.bin .quo r_9 (i_ 64)),o_ (.bin .rem dN (i_ 64)),o_ (.bin .add (i_ 128) eU),o_ (.conv (.toInt .u8) iI),v_ l_0,o_ (.bin .rem nG (i_ 64)),o_ (.bin .add (i_ 128) sC),o_ (.conv (.toInt .u8) sD),o_ (.lit false [(.int .u8 0)] 4 [(0,r_3),(1,r_8),(2,hP),(3,tS)]),w_ 1 wY]
.ret)))))⟩
def a159:Ann:=⟨[0,2,3,5],[],[],[],[(4,⟨[0,1,3,0,0,16,56,120,248,511,1023],[0,1,3,4,5,6,7,8],[(2,[8],[9,10])]⟩)]⟩
def t159:aO:=⟨1,4,[.loc 1],
(h_ [s_ 1 (.mov (.cst (.str [])))]
(h_ [s_ 2 (.mov (.cst (.str [48,49,50,51,52,53,54,55,56,57,97,98,99,100,101,102])))]
(.seq (.seq (g_ [v_ l_0,s_ 3 (.bin .lss r_0 (i_ 16))])
(.cond l_3
(h_ [v_ l_2,v_ l_0,o_ (.indexS r_0 r_1),o_ (.lit false [(.int .u8 0)] 1 [(0,r_2)]),o_ (.conv .bytesStr r_3),w_ 1 r_4]
.ret)
.skip))
(.seq (.draw [0,1,3,4,5,6,7,8] [(2,[8],[9,10])] [v_ l_0,o_ (.bin .quo r_0 (i_ 16)),c_ 159 [r_1],v_ l_2,v_ l_0,o_ (.bin .rem r_4 (i_ 16)),o_ (.indexS r_3 r_5),o_ (.lit false [(.int .u8 0)] 1 [(0,r_6)]),o_ (.conv .bytesStr r_7),o_ (.bin .add r_2 r_8),w_ 1 r_9])
.ret))))⟩
def a160:Ann:=⟨[0,2],[],[],[],[]⟩
def t160:aO:=⟨1,2,[.loc 1],
(h_ [w_ 1 F_]
(h_ [v_ l_0,o_ (.bin .geq r_0 (i_ 1)),v_ r_1,y_ 2 (.mov l_0),y_ 2 (.bin .leq r_3 (i_ 5)),o_ (.pick r_2 r_4 F_),v_ r_5,x_ 6 (.mov l_0),x_ 6 (.bin .eql r_7 (i_ 9)),o_ (.pick r_6 T_ r_8),v_ r_9,x_ 10 (.mov l_0),x_ 10 (.bin .eql eU (i_ 11)),o_ (.pick dN T_ iI),w_ 1 hP]
.ret))⟩
def a161:Ann:=⟨[0,2,4],[],[],[],[]⟩
def t161:aO:=⟨1,3,[.loc 1],
(h_ [s_ 1 (.mov (.cst (.str [])))]
(.seq (.seq (g_ [v_ l_0,s_ 2 (.bin .lss r_0 (i_ 10))])
(.cond l_2
(h_ [v_ l_0,v_ l_0,o_ (.bin .add r_1 (i_ 1)),o_ (.slice .str (.cst (.str [48,49,50,51,52,53,54,55,56,57,97,98,99,100,101,102,103,104,105,106,107,108,109,110,111,112,113,114,115,116,117,118,119,120,121,122])) (some r_0) (some r_2) none),w_ 1 r_3]
.ret)
.skip))
(h_ [v_ l_0,o_ (.bin .mul r_0 (i_ 2)),v_ l_0,o_ (.bin .mul r_2 (i_ 2)),o_ (.bin .add r_3 (i_ 2)),o_ (.slice .str (.cst (.str D_)) (some r_1) (some r_4) none),w_ 1 r_5]
.ret)))⟩
def a162:Ann:=⟨[0,2,3],[],[],[],[]⟩
def t162:aO:=⟨1,3,[.loc 1],
(h_ [w_ 1 (i_ 0)]
(h_ [v_ l_0,c_ 184 [r_0],c_ 185 [r_1],w_ 2 r_2]
(h_ [v_ l_2,v_ l_0,v_ l_2,o_ (.indexAddrA 20 1 (.glob 0) r_2),d_ r_3,o_ (.bin .geq r_1 r_4),c_ 186 [r_5],o_ (.bin .add r_0 r_6),w_ 1 r_7]
.ret)))⟩
def a163:Ann:=⟨[0,1,4,5,6,7,8,9,10,11,12,13,14,15,16,20,99,139,161],[],[],[],[(7,⟨[0,0,2,0,0,16,0,64,192,0,512,455,2503,8191,16383],[0,1,2,3,4,5,6,7,8,9,10,11],[(12,[],[13]),(14,[],[])]⟩),(8,⟨[0,0,2,0,0,16,0,64,192,0,512,455,2503,8191,16383],[0,1,2,3,4,5,6,7,8,9,10,11],[(12,[],[13]),(14,[],[])]⟩),(9,⟨[0,0,2,0,0,16,0,64,192,0,512,455,2503,8191,16383],[0,1,2,3,4,5,6,7,8,9,10,11],[(12,[],[13]),(14,[],[])]⟩),(10,⟨[0,0,2,0,0,16,0,64,192,0,512,455,2503,8191,16383],[0,1,2,3,4,5,6,7,8,9,10,11],[(12,[],[13]),(14,[],[])]⟩),(17,⟨[0,0,2,0,0,16,0,64,192,0,512,455,2503,8191,16383],[0,1,2,3,4,5,6,7,8,9,10,11],[(12,[],[13]),(14,[],[])]⟩),(18,⟨[0,0,2,0,0,16,0,64,192,0,512,455,2503,8191,16383],[0,1,2,3,4,5,6,7,8,9,10,11],[(12,[],[13]),(14,[],[])]⟩),(23,⟨[0,0,2,0,0,16,0,64,192,0,512,455,2503,8191,16383],[0,1,2,3,4,5,6,7,8,9,10,11],[(12,[],[13]),(14,[],[])]⟩)]⟩
def t163L0:aK:=(.seq (.seq (g_ [v_ l_2,s_ 15 (.bin .geq r_0 (i_ 8))])
(.cond wZ
.skip
(.exit 0)))
(.block 1
(h_ [v_ l_1,o_ (.bin .rem r_0 (.cst (.int .u64 100000000))),o_ (.conv (.toInt .u32) r_1),w_ 3 r_2]
(h_ [v_ l_1,o_ (.bin .quo r_0 (.cst (.int .u64 100000000))),w_ 1 r_1]
(h_ [v_ l_3,o_ (.bin .quo r_0 (.cst (.int .u32 10000))),v_ l_3,o_ (.bin .rem r_2 (.cst (.int .u32 10000))),w_ 4 r_1,w_ 5 r_3]
(h_ [v_ l_5,o_ (.bin .quo r_0 (.cst (.int .u32 100))),o_ (.bin .mul r_1 (.cst (.int .u32 2))),v_ l_5,o_ (.bin .rem r_3 (.cst (.int .u32 100))),o_ (.bin .mul r_4 (.cst (.int .u32 2))),w_ 6 r_2,w_ 7 r_5]
(h_ [v_ l_4,o_ (.bin .quo r_0 (.cst (.int .u32 100))),o_ (.bin .mul r_1 (.cst (.int .u32 2))),v_ l_4,o_ (.bin .rem r_3 (.cst (.int .u32 100))),o_ (.bin .mul r_4 (.cst (.int .u32 2))),w_ 8 r_2,w_ 9 r_5]
(.seq (.draw [0,1,2,3,4,5,6,7,8,9,10,11] [(12,[],[13]),(14,[],[])] [v_ l_0,v_ l_2,o_ (.bin .sub r_1 (i_ 1)),v_ l_0,v_ l_2,o_ (.bin .sub r_4 (i_ 2)),v_ l_7,o_ (.bin .add r_6 (.cst (.int .u32 1))),o_ (.indexS (.cst (.str D_)) r_7),v_ l_7,o_ (.indexS (.cst (.str D_)) r_9),o_ (.indexAddrS 1 r_0 r_2),o_ (.store 1 eU r_8),o_ (.indexAddrS 1 r_3 r_5),o_ (.store 1 hP dN)])
(.seq (.draw [0,1,2,3,4,5,6,7,8,9,10,11] [(12,[],[13]),(14,[],[])] [v_ l_0,v_ l_2,o_ (.bin .sub r_1 (i_ 3)),v_ l_0,v_ l_2,o_ (.bin .sub r_4 (i_ 4)),v_ l_6,o_ (.bin .add r_6 (.cst (.int .u32 1))),o_ (.indexS (.cst (.str D_)) r_7),v_ l_6,o_ (.indexS (.cst (.str D_)) r_9),o_ (.indexAddrS 1 r_0 r_2),o_ (.store 1 eU r_8),o_ (.indexAddrS 1 r_3 r_5),o_ (.store 1 hP dN)])
(.seq (.draw [0,1,2,3,4,5,6,7,8,9,10,11] [(12,[],[13]),(14,[],[])] [v_ l_0,v_ l_2,o_ (.bin .sub r_1 (i_ 5)),v_ l_0,v_ l_2,o_ (.bin .sub r_4 (i_ 6)),v_ l_9,o_ (.bin .add r_6 (.cst (.int .u32 1))),o_ (.indexS (.cst (.str D_)) r_7),v_ l_9,o_ (.indexS (.cst (.str D_)) r_9),o_ (.indexAddrS 1 r_0 r_2),o_ (.store 1 eU r_8),o_ (.indexAddrS 1 r_3 r_5),o_ (.store 1 hP dN)])
(.seq (.draw [0,1,2,3,4,5,6,7,8,9,10,11] [(12,[],[13]),(14,[],[])] [v_ l_0,v_ l_2,o_ (.bin .sub r_1 (i_ 7)),v_ l_0,v_ l_2,o_ (.bin .sub r_4 (i_ 8)),v_ l_8,o_ (.bin .add r_6 (.cst (.int .u32 1))),o_ (.indexS (.cst (.str D_)) r_7),v_ l_8,o_ (.indexS (.cst (.str D_)) r_9),o_ (.indexAddrS 1 r_0 r_2),o_ (.store 1 eU r_8),o_ (.indexAddrS 1 r_3 r_5),o_ (.store 1 hP dN)])
(g_ [v_ l_2,o_ (.bin .sub r_0 (i_ 8)),w_ 2 r_1]))))))))))))
def t163:aO:=⟨2,19,[],
(h_ [v_ l_0,o_ (.len .sl r_0),w_ 2 r_1]
(.seq (.block 0
(.loop t163L0))
(h_ [v_ l_1,o_ (.conv (.toInt .u32) r_0),w_ 10 r_1]
(.seq (.seq (g_ [v_ l_2,s_ 16 (.bin .geq r_0 (i_ 4))])
(.cond vQ
(h_ [v_ dD,o_ (.bin .rem r_0 (.cst (.int .u32 10000))),w_ 11 r_1]
(h_ [v_ dD,o_ (.bin .quo r_0 (.cst (.int .u32 10000))),w_ 10 r_1]
(h_ [v_ iM,o_ (.bin .quo r_0 (.cst (.int .u32 100))),o_ (.bin .mul r_1 (.cst (.int .u32 2))),v_ iM,o_ (.bin .rem r_3 (.cst (.int .u32 100))),o_ (.bin .mul r_4 (.cst (.int .u32 2))),w_ 12 r_2,w_ 13 r_5]
(.seq (.draw [0,1,2,3,4,5,6,7,8,9,10,11] [(12,[],[13]),(14,[],[])] [v_ l_0,v_ l_2,o_ (.bin .sub r_1 (i_ 1)),v_ l_0,v_ l_2,o_ (.bin .sub r_4 (i_ 2)),v_ jC,o_ (.bin .add r_6 (.cst (.int .u32 1))),o_ (.indexS (.cst (.str D_)) r_7),v_ jC,o_ (.indexS (.cst (.str D_)) r_9),o_ (.indexAddrS 1 r_0 r_2),o_ (.store 1 eU r_8),o_ (.indexAddrS 1 r_3 r_5),o_ (.store 1 hP dN)])
(.seq (.draw [0,1,2,3,4,5,6,7,8,9,10,11] [(12,[],[13]),(14,[],[])] [v_ l_0,v_ l_2,o_ (.bin .sub r_1 (i_ 3)),v_ l_0,v_ l_2,o_ (.bin .sub r_4 (i_ 4)),v_ kE,o_ (.bin .add r_6 (.cst (.int .u32 1))),o_ (.indexS (.cst (.str D_)) r_7),v_ kE,o_ (.indexS (.cst (.str D_)) r_9),o_ (.indexAddrS 1 r_0 r_2),o_ (.store 1 eU r_8),o_ (.indexAddrS 1 r_3 r_5),o_ (.store 1 hP dN)])
(g_ [v_ l_2,o_ (.bin .sub r_0 (i_ 4)),w_ 2 r_1]))))))
.skip))
(.seq (.seq (g_ [v_ l_2,s_ 17 (.bin .geq r_0 (i_ 2))])
(.cond yW
(h_ [v_ dD,o_ (.bin .rem r_0 (.cst (.int .u32 100))),o_ (.bin .mul r_1 (.cst (.int .u32 2))),w_ 14 r_2]
(h_ [v_ dD,o_ (.bin .quo r_0 (.cst (.int .u32 100))),w_ 10 r_1]
(.seq (.draw [0,1,2,3,4,5,6,7,8,9,10,11] [(12,[],[13]),(14,[],[])] [v_ l_0,v_ l_2,o_ (.bin .sub r_1 (i_ 1)),v_ l_0,v_ l_2,o_ (.bin .sub r_4 (i_ 2)),v_ lZ,o_ (.bin .add r_6 (.cst (.int .u32 1))),o_ (.indexS (.cst (.str D_)) r_7),v_ lZ,o_ (.indexS (.cst (.str D_)) r_9),o_ (.indexAddrS 1 r_0 r_2),o_ (.store 1 eU r_8),o_ (.indexAddrS 1 r_3 r_5),o_ (.store 1 hP dN)])
(g_ [v_ l_2,o_ (.bin .sub r_0 (i_ 2)),w_ 2 r_1]))))
.skip))
(h_ [v_ l_2,s_ 18 (.bin .gtr r_0 (i_ 0))]
(.cond aCf
(g_ [v_ l_0,v_ dD,o_ (.bin .add (.cst (.int .u32 48)) r_1),o_ (.conv (.toInt .u8) r_2),o_ (.indexAddrS 1 r_0 (i_ 0)),o_ (.store 1 r_4 r_3)])
.skip)))))))⟩
def a164:Ann:=⟨[0,1,2,3,4,10,11,12,13,14,15,16,17,18,28,30,34,46,68,89,94],[],[],[],[]⟩
def t164L0:aK:=(.seq (.seq (g_ [v_ l_1,v_ kE,s_ 18 (.bin .geq r_0 r_1)])
(.cond aCf
.skip
(.exit 2)))
(.block 3
(h_ [v_ l_8,o_ (.bin .sub r_0 (i_ 1)),w_ 8 r_1]
(h_ [v_ l_1,v_ kE,o_ (.bin .quo r_0 r_1),w_ 13 r_2]
(h_ [v_ l_8,v_ l_1,v_ jC,v_ kE,o_ (.bin .mul r_2 r_3),o_ (.bin .sub r_1 r_4),o_ (.indexS (.cst (.str [48,49,50,51,52,53,54,55,56,57,97,98,99,100,101,102,103,104,105,106,107,108,109,110,111,112,113,114,115,116,117,118,119,120,121,122])) r_5),o_ (.indexAddrA 65 1 l_7 r_0),o_ (.store 1 r_7 r_6)]
(g_ [v_ jC,w_ 1 r_0]))))))
def t164L1:aK:=(.seq (.seq (g_ [v_ l_1,v_ dD,s_ 17 (.bin .geq r_0 r_1)])
(.cond yW
.skip
(.exit 0)))
(.block 1
(h_ [v_ l_8,o_ (.bin .sub r_0 (i_ 1)),w_ 8 r_1]
(h_ [v_ l_8,v_ l_1,v_ iM,o_ (.bin .and r_1 r_2),o_ (.indexS (.cst (.str [48,49,50,51,52,53,54,55,56,57,97,98,99,100,101,102,103,104,105,106,107,108,109,110,111,112,113,114,115,116,117,118,119,120,121,122])) r_3),o_ (.indexAddrA 65 1 l_7 r_0),o_ (.store 1 r_5 r_4)]
(g_ [v_ l_1,v_ l_9,o_ (.bin .shr r_0 r_1),w_ 1 r_2])))))
def t164:aO:=⟨5,21,[.loc 5,.loc 6],
(h_ [w_ 5 N_,s_ 6 (.mov (.cst (.str [])))]
(.seq (.seq (g_ [v_ l_2,o_ (.bin .lss r_0 (i_ 2)),v_ r_1,x_ 2 (.mov l_2),x_ 2 (.bin .eql r_3 (i_ 10)),o_ (.pick r_2 T_ r_4),v_ r_5,x_ 6 (.mov l_2),x_ 6 (.bin .gtr r_7 (i_ 36)),s_ 14 (.pick r_6 T_ r_8)])
(.cond lZ
(g_ [o_ (.bad),o_ (.bad)])
.skip))
(h_ [s_ 7 (.allocH 200 [(.int .u8 0),(.int .u8 0),(.int .u8 0),(.int .u8 0),(.int .u8 0),(.int .u8 0),(.int .u8 0),(.int .u8 0),(.int .u8 0),(.int .u8 0),(.int .u8 0),(.int .u8 0),(.int .u8 0),(.int .u8 0),(.int .u8 0),(.int .u8 0),(.int .u8 0),(.int .u8 0),(.int .u8 0),(.int .u8 0),(.int .u8 0),(.int .u8 0),(.int .u8 0),(.int .u8 0),(.int .u8 0),(.int .u8 0),(.int .u8 0),(.int .u8 0),(.int .u8 0),(.int .u8 0),(.int .u8 0),(.int .u8 0),(.int .u8 0),(.int .u8 0),(.int .u8 0),(.int .u8 0),(.int .u8 0),(.int .u8 0),(.int .u8 0),(.int .u8 0),(.int .u8 0),(.int .u8 0),(.int .u8 0),(.int .u8 0),(.int .u8 0),(.int .u8 0),(.int .u8 0),(.int .u8 0),(.int .u8 0),(.int .u8 0),(.int .u8 0),(.int .u8 0),(.int .u8 0),(.int .u8 0),(.int .u8 0),(.int .u8 0),(.int .u8 0),(.int .u8 0),(.int .u8 0),(.int .u8 0),(.int .u8 0),(.int .u8 0),(.int .u8 0),(.int .u8 0),(.int .u8 0)])]
(h_ [w_ 8 (i_ 65)]
(.seq (.seq (g_ [w_ 15 l_3])
(.cond wZ
(g_ [v_ l_1,o_ (.un .neg r_0),w_ 1 r_1])
.skip))
(.seq (.seq (g_ [v_ l_2,s_ 16 (.call true false 187 [r_0])])
(.cond vQ
(h_ [v_ l_2,o_ (.conv (.toInt .u64) r_0),c_ 188 [r_1],o_ (.conv (.toInt .u64) r_2),w_ 9 r_3]
(h_ [v_ l_2,o_ (.conv (.toInt .u64) r_0),w_ 10 r_1]
(h_ [v_ l_2,o_ (.conv (.toInt .u64) r_0),o_ (.bin .sub r_1 (.cst (.int .u64 1))),w_ 11 r_2]
(.seq (.block 0
(.loop t164L1))
(h_ [v_ l_8,o_ (.bin .sub r_0 (i_ 1)),w_ 8 r_1]
(g_ [v_ l_8,v_ l_1,o_ (.indexS (.cst (.str [48,49,50,51,52,53,54,55,56,57,97,98,99,100,101,102,103,104,105,106,107,108,109,110,111,112,113,114,115,116,117,118,119,120,121,122])) r_1),o_ (.indexAddrA 65 1 l_7 r_0),o_ (.store 1 r_3 r_2)]))))))
(h_ [v_ l_2,o_ (.conv (.toInt .u64) r_0),w_ 12 r_1]
(.seq (.block 2
(.loop t164L0))
(h_ [v_ l_8,o_ (.bin .sub r_0 (i_ 1)),w_ 8 r_1]
(g_ [v_ l_8,v_ l_1,o_ (.indexS (.cst (.str [48,49,50,51,52,53,54,55,56,57,97,98,99,100,101,102,103,104,105,106,107,108,109,110,111,112,113,114,115,116,117,118,119,120,121,122])) r_1),o_ (.indexAddrA 65 1 l_7 r_0),o_ (.store 1 r_3 r_2)]))))))
(.seq (.seq (g_ [w_ 19 l_3])
(.cond aCg
(h_ [v_ l_8,o_ (.bin .sub r_0 (i_ 1)),w_ 8 r_1]
(g_ [v_ l_8,o_ (.indexAddrA 65 1 l_7 r_0),o_ (.store 1 r_1 (.cst (.int .u8 45)))]))
.skip))
(.seq (.seq (g_ [w_ 20 l_4])
(.cond bBw
(h_ [v_ l_0,v_ l_8,o_ (.slice (.arr 65 1) l_7 (some r_1) none none),o_ (.append false 1 1 5 r_0 r_2),w_ 5 r_3]
.ret)
.skip))
(h_ [v_ l_8,o_ (.slice (.arr 65 1) l_7 (some r_0) none none),o_ (.conv .bytesStr r_1),w_ 6 r_2]
.ret)))))))))⟩
def a170:Ann:=⟨[0,1,4,7],[],[],[],[]⟩
def t170:aO:=⟨2,4,[.loc 2],
(h_ [s_ 2 (.mov (.cst (.str [])))]
(.seq (.seq (g_ [v_ l_0,v_ l_1,s_ 3 (.call true false 190 [r_0,r_1])])
(.cond l_3
(h_ [v_ l_0,v_ l_1,o_ (.len .str r_1),o_ (.slice .str r_0 (some r_2) none none),w_ 2 r_3]
.ret)
.skip))
(h_ [v_ l_0,w_ 2 r_0]
.ret)))⟩
def a171:Ann:=⟨[0,1,4],[],[],[],[]⟩
def t171:aO:=⟨2,3,[.loc 2],
(h_ [w_ 2 (i_ 0)]
(h_ [v_ l_0,v_ l_1,o_ (.call false false 191 [r_0,r_1,T_]),w_ 2 r_2]
.ret))⟩
def a172:Ann:=⟨[0,2,3,5,6,7,8,9,13],[],[],[],[]⟩
def t172L0:aK:=(.seq (g_ [s_ 7 (.bin .lss l_6 l_5)])
(.seq (.cond l_7
.skip
(.exit 0))
(.seq (.block 1
(h_ [o_ (.indexAddrS 1 l_4 l_6),d_ r_0,w_ 3 r_1]
(.seq (.seq (g_ [v_ l_3,s_ 8 (.bin .lss r_0 (.cst (.int .u8 128)))])
(.cond l_8
(h_ [v_ l_3,o_ (.conv (.toInt .i32) r_0),w_ 1 r_1,w_ 2 (i_ 1)]
.ret)
.skip))
(.exit 0))))
(g_ [o_ (.bin .add l_6 (i_ 1)),w_ 6 r_0]))))
def t172:aO:=⟨1,9,[.loc 1,.loc 2],
(h_ [s_ 1 (.mov (.cst (.int .i32 0))),w_ 2 (i_ 0)]
(.seq (.seq (g_ [w_ 4 l_0,s_ 5 (.len .sl r_0),w_ 6 (i_ 0)])
(.block 0
(.loop t172L0)))
(h_ [v_ l_0,c_ 192 [r_0],v_ r_1,o_ (.extract 0 r_2),o_ (.extract 1 r_2),w_ 1 r_3,w_ 2 r_4]
.ret)))⟩
def a173:Ann:=⟨[0,1,4],[],[],[],[]⟩
def t173:aO:=⟨2,3,[.loc 2],
(h_ [w_ 2 F_]
(h_ [v_ l_0,o_ (.bin .eql r_0 (.cst (.int .i32 65533))),v_ r_1,y_ 2 (.mov l_1),y_ 2 (.bin .leq r_3 (i_ 1)),o_ (.pick r_2 r_4 F_),w_ 2 r_5]
.ret))⟩
def a184:Ann:=⟨[0,2,4,8,14],[],[],[],[]⟩
def t184:aO:=⟨1,5,[.loc 1],
(h_ [w_ 1 (i_ 0)]
(.seq (.seq (g_ [v_ l_0,s_ 2 (.bin .geq r_0 (.cst (.int .u64 4294967296)))])
(.cond l_2
(h_ [v_ l_0,o_ (.bin .shr r_0 (.cst (.int .u64 32))),w_ 0 r_1]
(g_ [w_ 1 (i_ 32)]))
.skip))
(.seq (.seq (g_ [v_ l_0,s_ 3 (.bin .geq r_0 (.cst (.int .u64 65536)))])
(.cond l_3
(h_ [v_ l_0,o_ (.bin .shr r_0 (.cst (.int .u64 16))),w_ 0 r_1]
(g_ [v_ l_1,o_ (.bin .add r_0 (i_ 16)),w_ 1 r_1]))
.skip))
(.seq (.seq (g_ [v_ l_0,s_ 4 (.bin .geq r_0 (.cst (.int .u64 256)))])
(.cond l_4
(h_ [v_ l_0,o_ (.bin .shr r_0 (.cst (.int .u64 8))),w_ 0 r_1]
(g_ [v_ l_1,o_ (.bin .add r_0 (i_ 8)),w_ 1 r_1]))
.skip))
(h_ [v_ l_1,v_ l_0,o_ (.conv (.toInt .u8) r_1),o_ (.indexS (.cst (.str [0,1,2,2,3,3,3,3,4,4,4,4,4,4,4,4,5,5,5,5,5,5,5,5,5,5,5,5,5,5,5,5,6,6,6,6,6,6,6,6,6,6,6,6,6,6,6,6,6,6,6,6,6,6,6,6,6,6,6,6,6,6,6,6,7,7,7,7,7,7,7,7,7,7,7,7,7,7,7,7,7,7,7,7,7,7,7,7,7,7,7,7,7,7,7,7,7,7,7,7,7,7,7,7,7,7,7,7,7,7,7,7,7,7,7,7,7,7,7,7,7,7,7,7,7,7,7,7,8,8,8,8,8,8,8,8,8,8,8,8,8,8,8,8,8,8,8,8,8,8,8,8,8,8,8,8,8,8,8,8,8,8,8,8,8,8,8,8,8,8,8,8,8,8,8,8,8,8,8,8,8,8,8,8,8,8,8,8,8,8,8,8,8,8,8,8,8,8,8,8,8,8,8,8,8,8,8,8,8,8,8,8,8,8,8,8,8,8,8,8,8,8,8,8,8,8,8,8,8,8,8,8,8,8,8,8,8,8,8,8,8,8,8,8,8,8,8,8,8,8,8,8,8,8,8,8])) r_2),o_ (.conv (.toInt .i64) r_3),o_ (.bin .add r_0 r_4),w_ 1 r_5]
.ret)))))⟩
def a185:Ann:=⟨[0,2],[],[],[],[]⟩
def t185:aO:=⟨1,2,[.loc 1],
(h_ [w_ 1 (i_ 0)]
(h_ [v_ l_0,o_ (.bin .mul r_0 (i_ 78913)),o_ (.bin .shr r_1 (.cst (.int .u64 18))),w_ 1 r_2]
.ret))⟩
def a186:Ann:=⟨[0,2,3],[],[],[],[]⟩
def t186:aO:=⟨1,3,[.loc 1],
(h_ [w_ 1 (i_ 0)]
(.seq (.seq (g_ [w_ 2 l_0])
(.cond l_2
(h_ [w_ 1 (i_ 1)]
.ret)
.skip))
(h_ [w_ 1 (i_ 0)]
.ret)))⟩
def a187:Ann:=⟨[0,2],[],[],[],[]⟩
def t187:aO:=⟨1,2,[.loc 1],
(h_ [w_ 1 F_]
(h_ [v_ l_0,v_ l_0,o_ (.bin .sub r_1 (i_ 1)),o_ (.bin .and r_0 r_2),o_ (.bin .eql r_3 (i_ 0)),w_ 1 r_4]
.ret))⟩
def a188:Ann:=⟨[0,2],[],[],[],[]⟩
def t188:aO:=⟨1,2,[.loc 1],
(h_ [w_ 1 (i_ 0)]
(.seq (.cond F_
(h_ [v_ l_0,o_ (.conv (.toInt .u32) r_0),c_ 199 [r_1],w_ 1 r_2]
.ret)
.skip)
(h_ [v_ l_0,c_ 200 [r_0],w_ 1 r_1]
.ret)))⟩
def a190:Ann:=⟨[0,1,4],[],[],[],[]⟩
def t190:aO:=⟨2,3,[.loc 2],
(h_ [w_ 2 F_]
(h_ [v_ l_0,o_ (.len .str r_0),v_ l_1,o_ (.len .str r_2),o_ (.bin .geq r_1 r_3),v_ r_4,y_ 5 (.mov l_0),y_ 5 (.mov l_1),y_ 5 (.len .str r_7),y_ 5 (.slice .str r_6 none (some r_8) none),y_ 5 (.mov l_1),y_ 5 (.bin .eql r_9 dN),o_ (.pick r_5 eU F_),w_ 2 iI]
.ret))⟩
def a191:Ann:=⟨[0,1,2,6,7,8,10,11,12,19],[],[],[],[]⟩
def t191L0:aK:=(.seq (g_ [s_ 7 (.nextS l_6),s_ 8 (.extract 0 r_0)])
(.seq (.cond l_8
.skip
(.exit 0))
(.block 1
(h_ [o_ (.extract 1 l_7),o_ (.extract 2 l_7),w_ 4 r_0,w_ 5 r_1]
(h_ [v_ l_1,v_ l_5,o_ (.callv r_0 [r_1]),v_ l_2,s_ 9 (.eqB false .bool r_2 r_3)]
(.cond l_9
(h_ [v_ l_4,w_ 3 r_0]
.ret)
.skip))))))
def t191:aO:=⟨3,10,[.loc 3],
(h_ [w_ 3 (i_ 0)]
(.seq (.seq (g_ [v_ l_0,s_ 6 (.range true r_0)])
(.block 0
(.loop t191L0)))
(h_ [s_ 3 (.mov (i_ (-1)))]
.ret)))⟩
def a192:Ann:=⟨[0,2,3,4,5,6,7,8,9,10,11,12,16,24,47,60,62,79,81,103],[9],[],[],[]⟩
def t192:aO:=⟨1,20,[.loc 1,.loc 2],
(h_ [s_ 1 (.mov (.cst (.int .i32 0))),w_ 2 (i_ 0)]
(h_ [v_ l_0,o_ (.len .sl r_0),w_ 3 r_1]
(.seq (.seq (g_ [v_ l_3,s_ 12 (.bin .lss r_0 (i_ 1))])
(.cond kE
(h_ [s_ 1 (.mov (.cst (.int .i32 65533))),w_ 2 (i_ 0)]
.ret)
.skip))
(h_ [v_ l_0,o_ (.indexAddrS 1 r_0 (i_ 0)),d_ r_1,w_ 4 r_2]
(h_ [v_ l_4,o_ (.indexAddrA 256 1 (.glob 2) r_0),d_ r_1,w_ 5 r_2]
(.seq (.seq (g_ [v_ l_5,s_ 13 (.bin .geq r_0 (.cst (.int .u8 240)))])
(.cond jC
(h_ [v_ l_5,o_ (.conv (.toInt .i32) r_0),o_ (.bin .shl r_1 (.cst (.int .u64 31))),o_ (.bin .shr r_2 (.cst (.int .u64 31))),w_ 6 r_3]
(h_ [v_ l_0,o_ (.indexAddrS 1 r_0 (i_ 0)),d_ r_1,o_ (.conv (.toInt .i32) r_2),v_ l_6,o_ (.bin .andNot r_3 r_4),v_ l_6,o_ (.bin .and (.cst (.int .i32 65533)) r_6),o_ (.bin .or r_5 r_7),w_ 1 r_8,w_ 2 (i_ 1)]
.ret))
.skip))
(h_ [v_ l_5,o_ (.bin .and r_0 (.cst (.int .u8 7))),o_ (.conv (.toInt .i64) r_1),w_ 7 r_2]
(h_ [v_ l_5,o_ (.bin .shr r_0 (.cst (.int .u64 4))),o_ (.indexAddrA 16 2 (.glob 3) r_1),o_ (.loadN 2 r_2),o_ (.allocL 8 [(.int .u8 0),(.int .u8 0)]),o_ (.store 2 r_4 r_3)]
(.seq (.seq (g_ [v_ l_3,v_ l_7,s_ 14 (.bin .lss r_0 r_1)])
(.cond lZ
(h_ [s_ 1 (.mov (.cst (.int .i32 65533))),w_ 2 (i_ 1)]
.ret)
.skip))
(h_ [v_ l_0,o_ (.indexAddrS 1 r_0 (i_ 1)),d_ r_1,w_ 9 r_2]
(.seq (.seq (g_ [v_ l_9,f_ 0 l_8,d_ r_1,o_ (.bin .lss r_0 r_2),v_ r_3,x_ 4 (.fieldAddr 1 l_8),x_ 4 (.load1 r_5),x_ 4 (.mov l_9),x_ 4 (.bin .lss r_6 r_7),s_ 15 (.pick r_4 T_ r_8)])
(.cond wZ
(h_ [s_ 1 (.mov (.cst (.int .i32 65533))),w_ 2 (i_ 1)]
.ret)
.skip))
(.seq (.seq (g_ [v_ l_7,s_ 16 (.bin .leq r_0 (i_ 2))])
(.cond vQ
(h_ [v_ l_4,o_ (.bin .and r_0 (.cst (.int .u8 31))),o_ (.conv (.toInt .i32) r_1),o_ (.bin .shl r_2 (.cst (.int .u64 6))),v_ l_9,o_ (.bin .and r_4 (.cst (.int .u8 63))),o_ (.conv (.toInt .i32) r_5),o_ (.bin .or r_3 r_6),w_ 1 r_7,w_ 2 (i_ 2)]
.ret)
.skip))
(h_ [v_ l_0,o_ (.indexAddrS 1 r_0 (i_ 2)),d_ r_1,w_ 10 r_2]
(.seq (.seq (g_ [v_ dD,o_ (.bin .lss r_0 (.cst (.int .u8 128))),v_ r_1,x_ 2 (.mov dD),x_ 2 (.bin .lss (.cst (.int .u8 191)) r_3),s_ 17 (.pick r_2 T_ r_4)])
(.cond yW
(h_ [s_ 1 (.mov (.cst (.int .i32 65533))),w_ 2 (i_ 1)]
.ret)
.skip))
(.seq (.seq (g_ [v_ l_7,s_ 18 (.bin .leq r_0 (i_ 3))])
(.cond aCf
(h_ [v_ l_4,o_ (.bin .and r_0 (.cst (.int .u8 15))),o_ (.conv (.toInt .i32) r_1),o_ (.bin .shl r_2 (.cst (.int .u64 12))),v_ l_9,o_ (.bin .and r_4 (.cst (.int .u8 63))),o_ (.conv (.toInt .i32) r_5),o_ (.bin .shl r_6 (.cst (.int .u64 6))),o_ (.bin .or r_3 r_7),v_ dD,o_ (.bin .and r_9 (.cst (.int .u8 63))),o_ (.conv (.toInt .i32) dN),o_ (.bin .or r_8 eU),w_ 1 iI,w_ 2 (i_ 3)]
.ret)
.skip))
(h_ [v_ l_0,o_ (.indexAddrS 1 r_0 (i_ 3)),d_ r_1,w_ 11 r_2]
(.seq (.seq (g_ [v_ iM,o_ (.bin .lss r_0 (.cst (.int .u8 128))),v_ r_1,x_ 2 (.mov iM),x_ 2 (.bin .lss (.cst (.int .u8 191)) r_3),s_ 19 (.pick r_2 T_ r_4)])
(.cond aCg
(h_ [s_ 1 (.mov (.cst (.int .i32 65533))),w_ 2 (i_ 1)]
.ret)
.skip))
(h_ [v_ l_4,o_ (.bin .and r_0 (.cst (.int .u8 7))),o_ (.conv (.toInt .i32) r_1),o_ (.bin .shl r_2 (.cst (.int .u64 18))),v_ l_9,o_ (.bin .and r_4 (.cst (.int .u8 63))),o_ (.conv (.toInt .i32) r_5),o_ (.bin .shl r_6 (.cst (.int .u64 12))),o_ (.bin .or r_3 r_7),v_ dD,o_ (.bin .and r_9 (.cst (.int .u8 63))),o_ (.conv (.toInt .i32) dN),o_ (.bin .shl eU (.cst (.int .u64 6))),o_ (.bin .or r_8 iI),v_ iM,o_ (.bin .and nG (.cst (.int .u8 63))),o_ (.conv (.toInt .i32) sC),o_ (.bin .or hP sD),w_ 1 tS,w_ 2 (i_ 4)]
.ret))))))))))))))))))⟩
def a199:Ann:=⟨[0,2,4],[],[],[],[]⟩
def t199:aO:=⟨1,3,[.loc 1],
(h_ [w_ 1 (i_ 0)]
(.seq (.seq (g_ [v_ l_0,s_ 2 (.bin .eql r_0 (.cst (.int .u32 0)))])
(.cond l_2
(h_ [w_ 1 (i_ 32)]
.ret)
.skip))
(h_ [v_ l_0,v_ l_0,o_ (.un .neg r_1),o_ (.bin .and r_0 r_2),o_ (.bin .mul r_3 (.cst (.int .u32 125613361))),o_ (.bin .shr r_4 (.cst (.int .u64 27))),o_ (.indexAddrA 32 1 (.glob 4) r_5),d_ r_6,o_ (.conv (.toInt .i64) r_7),w_ 1 r_8]
.ret)))⟩
def a200:Ann:=⟨[0,2,4],[],[],[],[]⟩
def t200:aO:=⟨1,3,[.loc 1],
(h_ [w_ 1 (i_ 0)]
(.seq (.seq (g_ [v_ l_0,s_ 2 (.bin .eql r_0 (.cst (.int .u64 0)))])
(.cond l_2
(h_ [w_ 1 (i_ 64)]
.ret)
.skip))
(h_ [v_ l_0,v_ l_0,o_ (.un .neg r_1),o_ (.bin .and r_0 r_2),o_ (.bin .mul r_3 (.cst (.int .u64 285870213051353865))),o_ (.bin .shr r_4 (.cst (.int .u64 58))),o_ (.indexAddrA 64 1 (.glob 5) r_5),d_ r_6,o_ (.conv (.toInt .i64) r_7),w_ 1 r_8]
.ret)))⟩
def g0:List IV:=[(.int .u64 1),(.int .u64 10),(.int .u64 100),(.int .u64 1000),(.int .u64 10000),(.int .u64 100000),(.int .u64 1000000),(.int .u64 10000000),(.int .u64 100000000),(.int .u64 1000000000),(.int .u64 10000000000),(.int .u64 100000000000),(.int .u64 1000000000000),(.int .u64 10000000000000),(.int .u64 100000000000000),(.int .u64 1000000000000000),(.int .u64 10000000000000000),(.int .u64 100000000000000000),(.int .u64 1000000000000000000),(.int .u64 10000000000000000000)]
def g2:List IV:=[(.int .u8 240),(.int .u8 240),(.int .u8 240),(.int .u8 240),(.int .u8 240),(.int .u8 240),(.int .u8 240),(.int .u8 240),(.int .u8 240),(.int .u8 240),(.int .u8 240),(.int .u8 240),(.int .u8 240),(.int .u8 240),(.int .u8 240),(.int .u8 240),(.int .u8 240),(.int .u8 240),(.int .u8 240),(.int .u8 240),(.int .u8 240),(.int .u8 240),(.int .u8 240),(.int .u8 240),(.int .u8 240),(.int .u8 240),(.int .u8 240),(.int .u8 240),(.int .u8 240),(.int .u8 240),(.int .u8 240),(.int .u8 240),(.int .u8 240),(.int .u8 240),(.int .u8 240),(.int .u8 240),(.int .u8 240),(.int .u8 240),(.int .u8 240),(.int .u8 240),(.int .u8 240),(.int .u8 240),(.int .u8 240),(.int .u8 240),(.int .u8 240),(.int .u8 240),(.int .u8 240),(.int .u8 240),(.int .u8 240),(.int .u8 240),(.int .u8 240),(.int .u8 240),(.int .u8 240),(.int .u8 240),(.int .u8 240),(.int .u8 240),(.int .u8 240),(.int .u8 240),(.int .u8 240),(.int .u8 240),(.int .u8 240),(.int .u8 240),(.int .u8 240),(.int .u8 240),(.int .u8 240),(.int .u8 240),(.int .u8 240),(.int .u8 240),(.int .u8 240),(.int .u8 240),(.int .u8 240),(.int .u8 240),(.int .u8 240),(.int .u8 240),(.int .u8 240),(.int .u8 240),(.int .u8 240),(.int .u8 240),(.int .u8 240),(.int .u8 240),(.int .u8 240),(.int .u8 240),(.int .u8 240),(.int .u8 240),(.int .u8 240),(.int .u8 240),(.int .u8 240),(.int .u8 240),(.int .u8 240),(.int .u8 240),(.int .u8 240),(.int .u8 240),(.int .u8 240),(.int .u8 240),(.int .u8 240),(.int .u8 240),(.int .u8 240),(.int .u8 240),(.int .u8 240),(.int .u8 240),(.int .u8 240),(.int .u8 240),(.int .u8 240),(.int .u8 240),(.int .u8 240),(.int .u8 240),(.int .u8 240),(.int .u8 240),(.int .u8 240),(.int .u8 240),(.int .u8 240),(.int .u8 240),(.int .u8 240),(.int .u8 240),(.int .u8 240),(.int .u8 240),(.int .u8 240),(.int .u8 240),(.int .u8 240),(.int .u8 240),(.int .u8 240),(.int .u8 240),(.int .u8 240),(.int .u8 240),(.int .u8 240),(.int .u8 240),(.int .u8 240),(.int .u8 240),(.int .u8 241),(.int .u8 241),(.int .u8 241),(.int .u8 241),(.int .u8 241),(.int .u8 241),(.int .u8 241),(.int .u8 241),(.int .u8 241),(.int .u8 241),(.int .u8 241),(.int .u8 241),(.int .u8 241),(.int .u8 241),(.int .u8 241),(.int .u8 241),(.int .u8 241),(.int .u8 241),(.int .u8 241),(.int .u8 241),(.int .u8 241),(.int .u8 241),(.int .u8 241),(.int .u8 241),(.int .u8 241),(.int .u8 241),(.int .u8 241),(.int .u8 241),(.int .u8 241),(.int .u8 241),(.int .u8 241),(.int .u8 241),(.int .u8 241),(.int .u8 241),(.int .u8 241),(.int .u8 241),(.int .u8 241),(.int .u8 241),(.int .u8 241),(.int .u8 241),(.int .u8 241),(.int .u8 241),(.int .u8 241),(.int .u8 241),(.int .u8 241),(.int .u8 241),(.int .u8 241),(.int .u8 241),(.int .u8 241),(.int .u8 241),(.int .u8 241),(.int .u8 241),(.int .u8 241),(.int .u8 241),(.int .u8 241),(.int .u8 241),(.int .u8 241),(.int .u8 241),(.int .u8 241),(.int .u8 241),(.int .u8 241),(.int .u8 241),(.int .u8 241),(.int .u8 241),(.int .u8 241),(.int .u8 241),(.int .u8 2),(.int .u8 2),(.int .u8 2),(.int .u8 2),(.int .u8 2),(.int .u8 2),(.int .u8 2),(.int .u8 2),(.int .u8 2),(.int .u8 2),(.int .u8 2),(.int .u8 2),(.int .u8 2),(.int .u8 2),(.int .u8 2),(.int .u8 2),(.int .u8 2),(.int .u8 2),(.int .u8 2),(.int .u8 2),(.int .u8 2),(.int .u8 2),(.int .u8 2),(.int .u8 2),(.int .u8 2),(.int .u8 2),(.int .u8 2),(.int .u8 2),(.int .u8 2),(.int .u8 2),(.int .u8 19),(.int .u8 3),(.int .u8 3),(.int .u8 3),(.int .u8 3),(.int .u8 3),(.int .u8 3),(.int .u8 3),(.int .u8 3),(.int .u8 3),(.int .u8 3),(.int .u8 3),(.int .u8 3),(.int .u8 35),(.int .u8 3),(.int .u8 3),(.int .u8 52),(.int .u8 4),(.int .u8 4),(.int .u8 4),(.int .u8 68),(.int .u8 241),(.int .u8 241),(.int .u8 241),(.int .u8 241),(.int .u8 241),(.int .u8 241),(.int .u8 241),(.int .u8 241),(.int .u8 241),(.int .u8 241),(.int .u8 241)]
def g3:List IV:=[(.int .u8 128),(.int .u8 191),(.int .u8 160),(.int .u8 191),(.int .u8 128),(.int .u8 159),(.int .u8 144),(.int .u8 191),(.int .u8 128),(.int .u8 143),(.int .u8 0),(.int .u8 0),(.int .u8 0),(.int .u8 0),(.int .u8 0),(.int .u8 0),(.int .u8 0),(.int .u8 0),(.int .u8 0),(.int .u8 0),(.int .u8 0),(.int .u8 0),(.int .u8 0),(.int .u8 0),(.int .u8 0),(.int .u8 0),(.int .u8 0),(.int .u8 0),(.int .u8 0),(.int .u8 0),(.int .u8 0),(.int .u8 0)]
def g4:List IV:=[(.int .u8 0),(.int .u8 1),(.int .u8 28),(.int .u8 2),(.int .u8 29),(.int .u8 14),(.int .u8 24),(.int .u8 3),(.int .u8 30),(.int .u8 22),(.int .u8 20),(.int .u8 15),(.int .u8 25),(.int .u8 17),(.int .u8 4),(.int .u8 8),(.int .u8 31),(.int .u8 27),(.int .u8 13),(.int .u8 23),(.int .u8 21),(.int .u8 19),(.int .u8 16),(.int .u8 7),(.int .u8 26),(.int .u8 12),(.int .u8 18),(.int .u8 6),(.int .u8 11),(.int .u8 5),(.int .u8 10),(.int .u8 9)]
def g5:List IV:=[(.int .u8 0),(.int .u8 1),(.int .u8 56),(.int .u8 2),(.int .u8 57),(.int .u8 49),(.int .u8 28),(.int .u8 3),(.int .u8 61),(.int .u8 58),(.int .u8 42),(.int .u8 50),(.int .u8 38),(.int .u8 29),(.int .u8 17),(.int .u8 4),(.int .u8 62),(.int .u8 47),(.int .u8 59),(.int .u8 36),(.int .u8 45),(.int .u8 43),(.int .u8 51),(.int .u8 22),(.int .u8 53),(.int .u8 39),(.int .u8 33),(.int .u8 30),(.int .u8 24),(.int .u8 18),(.int .u8 12),(.int .u8 5),(.int .u8 63),(.int .u8 55),(.int .u8 48),(.int .u8 27),(.int .u8 60),(.int .u8 41),(.int .u8 37),(.int .u8 16),(.int .u8 46),(.int .u8 35),(.int .u8 44),(.int .u8 21),(.int .u8 52),(.int .u8 32),(.int .u8 23),(.int .u8 11),(.int .u8 54),(.int .u8 26),(.int .u8 40),(.int .u8 15),(.int .u8 34),(.int .u8 20),(.int .u8 31),(.int .u8 10),(.int .u8 25),(.int .u8 14),(.int .u8 19),(.int .u8 9),(.int .u8 13),(.int .u8 8),(.int .u8 7),(.int .u8 6)]
def tbl:List (Option aO):=[none,none,none,none,none,some t5,none,none,none,some t9,some t10,none,some t12,some t13,some t14,some t15,some t16,some t17,some t18,some t19,some t20,some t21,some t22,some t23,some t24,some t25,some t26,some t27,some t28,some t29,none,some t31,some t32,none,none,none,none,none,some t38,none,some t40,none,some t42,some t43,some t44,some t45,some t46,none,some t48,some t49,some t50,some t51,some t52,some t53,some t54,some t55,some t56,some t57,some t58,some t59,some t60,some t61,some t62,some t63,some t64,some t65,some t66,some t67,some t68,some t69,some t70,some t71,some t72,none,some t74,some t75,some t76,some t77,some t78,none,none,none,some t82,some t83,some t84,some t85,some t86,some t87,none,none,some t90,some t91,some t92,some t93,some t94,some t95,some t96,some t97,some t98,some t99,some t100,some t101,some t102,some t103,some t104,some t105,some t106,some t107,some t108,some t109,some t110,some t111,some t112,none,none,some t115,some t116,some t117,some t118,some t119,some t120,some t121,none,none,none,some t125,some t126,some t127,some t128,some t129,some t130,some t131,some t132,some t133,some t134,some t135,some t136,some t137,some t138,some t139,none,none,none,none,none,none,none,none,some t148,some t149,some t150,some t151,some t152,some t153,none,none,none,some t157,some t158,some t159,some t160,some t161,some t162,some t163,some t164,none,none,none,none,none,some t170,some t171,some t172,some t173,none,none,none,none,none,none,none,none,none,none,some t184,some t185,some t186,some t187,some t188,none,some t190,some t191,some t192,none,none,none,none,none,none,some t199,some t200]
def gtbl:List (Option (List IV)):=[some g0,none,some g2,some g3,some g4,some g5]
def K:TM.bO:=⟨fun k=>tbl.getD k none,fun g=>gtbl.getD g none,fun f=>aB9 prims f⟩
def bI (k : Nat) (tf : aO) : Prop := ∃ (A : Ann) (fn : Func), Tryz.prog.funcs[k]? = some fn ∧ fn.name ≠ "runtime.NumGoroutine" ∧ qE Tryz.prog opts A fn = some tf
theorem m_ {k : Nat} {t : aO} (a : Ann) {f : Func} (h : Tryz.prog.funcs[k]? = some f) (n : (f.name == "runtime.NumGoroutine") = false := by kernel_rfl) (c : qE Tryz.prog opts a f = some t := by kernel_rfl) : bI k t := ⟨a,f,h,fun e => by rw [e] at n; simp at n,c⟩
theorem q5:bI 5 t5:=m_ a5 Tryz.func5
theorem q9:bI 9 t9:=m_ a9 Tryz.func9
theorem q10:bI 10 t10:=m_ a10 Tryz.func10
theorem q12:bI 12 t12:=m_ a12 Tryz.func12
theorem q13:bI 13 t13:=m_ a13 Tryz.func13
theorem q14:bI 14 t14:=m_ a14 Tryz.func14
theorem q15:bI 15 t15:=m_ a15 Tryz.func15
theorem q16:bI 16 t16:=m_ a16 Tryz.func16
theorem q17:bI 17 t17:=m_ a17 Tryz.func17
theorem q18:bI 18 t18:=m_ a18 Tryz.func18
theorem q19:bI 19 t19:=m_ a19 Tryz.func19
theorem q20:bI 20 t20:=m_ a20 Tryz.func20
theorem q21:bI 21 t21:=m_ a21 Tryz.func21
theorem q22:bI 22 t22:=m_ a22 Tryz.func22
theorem q23:bI 23 t23:=m_ a23 Tryz.func23
theorem q24:bI 24 t24:=m_ a24 Tryz.func24
theorem q25:bI 25 t25:=m_ a25 Tryz.func25
theorem q26:bI 26 t26:=m_ a26 Tryz.func26
theorem q27:bI 27 t27:=m_ a27 Tryz.func27
theorem q28:bI 28 t28:=m_ a28 Tryz.func28
theorem q29:bI 29 t29:=m_ a29 Tryz.func29
theorem q31:bI 31 t31:=m_ a31 Tryz.func31
theorem q32:bI 32 t32:=m_ a32 Tryz.func32
theorem q38:bI 38 t38:=m_ a38 Tryz.func38
theorem q40:bI 40 t40:=m_ a40 Tryz.func40
theorem q42:bI 42 t42:=m_ a42 Tryz.func42
theorem q43:bI 43 t43:=m_ a43 Tryz.func43
theorem q44:bI 44 t44:=m_ a44 Tryz.func44
theorem q45:bI 45 t45:=m_ a45 Tryz.func45
theorem q46:bI 46 t46:=m_ a46 Tryz.func46
theorem q48:bI 48 t48:=m_ a48 Tryz.func48
theorem q49:bI 49 t49:=m_ a49 Tryz.func49
theorem q50:bI 50 t50:=m_ a50 Tryz.func50
theorem q51:bI 51 t51:=m_ a51 Tryz.func51
theorem q52:bI 52 t52:=m_ a52 Tryz.func52
theorem q53:bI 53 t53:=m_ a53 Tryz.func53
theorem q54:bI 54 t54:=m_ a54 Tryz.func54
theorem q55:bI 55 t55:=m_ a55 Tryz.func55
theorem q56:bI 56 t56:=m_ a56 Tryz.func56
theorem q57:bI 57 t57:=m_ a57 Tryz.func57
theorem q58:bI 58 t58:=m_ a58 Tryz.func58
theorem q59:bI 59 t59:=m_ a59 Tryz.func59
theorem q60:bI 60 t60:=m_ a60 Tryz.func60
theorem q61:bI 61 t61:=m_ a61 Tryz.func61
theorem q62:bI 62 t62:=m_ a62 Tryz.func62
theorem q63:bI 63 t63:=m_ a63 Tryz.func63
theorem q64:bI 64 t64:=m_ a64 Tryz.func64
theorem q65:bI 65 t65:=m_ a65 Tryz.func65
theorem q66:bI 66 t66:=m_ a66 Tryz.func66
theorem q67:bI 67 t67:=m_ a67 Tryz.func67
theorem q68:bI 68 t68:=m_ a68 Tryz.func68
theorem q69:bI 69 t69:=m_ a69 Tryz.func69
theorem q70:bI 70 t70:=m_ a70 Tryz.func70
theorem q71:bI 71 t71:=m_ a71 Tryz.func71
theorem q72:bI 72 t72:=m_ a72 Tryz.func72
theorem q74:bI 74 t74:=m_ a74 Tryz.func74
theorem q75:bI 75 t75:=m_ a75 Tryz.func75
theorem q76:bI 76 t76:=m_ a76 Tryz.func76
theorem q77:bI 77 t77:=m_ a77 Tryz.func77
theorem q78:bI 78 t78:=m_ a78 Tryz.func78
theorem q82:bI 82 t82:=m_ a82 Tryz.func82
theorem q83:bI 83 t83:=m_ a83 Tryz.func83
theorem q84:bI 84 t84:=m_ a84 Tryz.func84
theorem q85:bI 85 t85:=m_ a85 Tryz.func85
theorem q86:bI 86 t86:=m_ a86 Tryz.func86
theorem q87:bI 87 t87:=m_ a87 Tryz.func87
theorem q90:bI 90 t90:=m_ a90 Tryz.func90
theorem q91:bI 91 t91:=m_ a91 Tryz.func91
theorem q92:bI 92 t92:=m_ a92 Tryz.func92
theorem q93:bI 93 t93:=m_ a93 Tryz.func93
theorem q94:bI 94 t94:=m_ a94 Tryz.func94
theorem q95:bI 95 t95:=m_ a95 Tryz.func95
theorem q96:bI 96 t96:=m_ a96 Tryz.func96
theorem q97:bI 97 t97:=m_ a97 Tryz.func97
theorem q98:bI 98 t98:=m_ a98 Tryz.func98
theorem q99:bI 99 t99:=m_ a99 Tryz.func99
theorem q100:bI 100 t100:=m_ a100 Tryz.func100
theorem q101:bI 101 t101:=m_ a101 Tryz.func101
theorem q102:bI 102 t102:=m_ a102 Tryz.func102
theorem q103:bI 103 t103:=m_ a103 Tryz.func103
theorem q104:bI 104 t104:=m_ a104 Tryz.func104
theorem q105:bI 105 t105:=m_ a105 Tryz.func105
theorem q106:bI 106 t106:=m_ a106 Tryz.func106
theorem q107:bI 107 t107:=m_ a107 Tryz.func107
theorem q108:bI 108 t108:=m_ a108 Tryz.func108
theorem q109:bI 109 t109:=m_ a109 Tryz.func109
theorem q110:bI 110 t110:=m_ a110 Tryz.func110
theorem q111:bI 111 t111:=m_ a111 Tryz.func111
theorem q112:bI 112 t112:=m_ a112 Tryz.func112
theorem q115:bI 115 t115:=m_ a115 Tryz.func115
theorem q116:bI 116 t116:=m_ a116 Tryz.func116
theorem q117:bI 117 t117:=m_ a117 Tryz.func117
theorem q118:bI 118 t118:=m_ a118 Tryz.func118
theorem q119:bI 119 t119:=m_ a119 Tryz.func119
theorem q120:bI 120 t120:=m_ a120 Tryz.func120
theorem q121:bI 121 t121:=m_ a121 Tryz.func121
theorem q125:bI 125 t125:=m_ a125 Tryz.func125
theorem q126:bI 126 t126:=m_ a126 Tryz.func126
theorem q127:bI 127 t127:=m_ a127 Tryz.func127
theorem q128:bI 128 t128:=m_ a128 Tryz.func128
theorem q129:bI 129 t129:=m_ a129 Tryz.func129
theorem q130:bI 130 t130:=m_ a130 Tryz.func130
theorem q131:bI 131 t131:=m_ a131 Tryz.func131
theorem q132:bI 132 t132:=m_ a132 Tryz.func132
theorem q133:bI 133 t133:=m_ a133 Tryz.func133
theorem q134:bI 134 t134:=m_ a134 Tryz.func134
theorem q135:bI 135 t135:=m_ a135 Tryz.func135
theorem q136:bI 136 t136:=m_ a136 Tryz.func136
theorem q137:bI 137 t137:=m_ a137 Tryz.func137
theorem q138:bI 138 t138:=m_ a138 Tryz.func138
theorem q139:bI 139 t139:=m_ a139 Tryz.func139
theorem q148:bI 148 t148:=m_ a148 Tryz.func148
theorem q149:bI 149 t149:=m_ a149 Tryz.func149
theorem q150:bI 150 t150:=m_ a150 Tryz.func150
theorem q151:bI 151 t151:=m_ a151 Tryz.func151
theorem q152:bI 152 t152:=m_ a152 Tryz.func152
theorem q153:bI 153 t153:=m_ a153 Tryz.func153
theorem q157:bI 157 t157:=m_ a157 Tryz.func157
theorem q158:bI 158 t158:=m_ a158 Tryz.func158
theorem q159:bI 159 t159:=m_ a159 Tryz.func159
theorem q160:bI 160 t160:=m_ a160 Tryz.func160
theorem q161:bI 161 t161:=m_ a161 Tryz.func161
theorem q162:bI 162 t162:=m_ a162 Tryz.func162
theorem q163:bI 163 t163:=m_ a163 Tryz.func163
theorem q164:bI 164 t164:=m_ a164 Tryz.func164
theorem q170:bI 170 t170:=m_ a170 Tryz.func170
theorem q171:bI 171 t171:=m_ a171 Tryz.func171
theorem q172:bI 172 t172:=m_ a172 Tryz.func172
theorem q173:bI 173 t173:=m_ a173 Tryz.func173
theorem q184:bI 184 t184:=m_ a184 Tryz.func184
theorem q185:bI 185 t185:=m_ a185 Tryz.func185
theorem q186:bI 186 t186:=m_ a186 Tryz.func186
theorem q187:bI 187 t187:=m_ a187 Tryz.func187
theorem q188:bI 188 t188:=m_ a188 Tryz.func188
theorem q190:bI 190 t190:=m_ a190 Tryz.func190
theorem q191:bI 191 t191:=m_ a191 Tryz.func191
theorem q192:bI 192 t192:=m_ a192 Tryz.func192
theorem q199:bI 199 t199:=m_ a199 Tryz.func199
theorem q200:bI 200 t200:=m_ a200 Tryz.func200
theorem bL2:aD8 bI 0 tbl:=⟨q5,q9,q10,q12,q13,q14,q15,q16,q17,q18,q19,q20,q21,q22,q23,q24,q25,q26,q27,q28,q29,q31,q32,q38,q40,q42,q43,q44,q45,q46,q48,q49,q50,q51,q52,q53,q54,q55,q56,q57,q58,q59,q60,q61,q62,q63,q64,q65,q66,q67,q68,q69,q70,q71,q72,q74,q75,q76,q77,q78,q82,q83,q84,q85,q86,q87,q90,q91,q92,q93,q94,q95,q96,q97,q98,q99,q100,q101,q102,q103,q104,q105,q106,q107,q108,q109,q110,q111,q112,q115,q116,q117,q118,q119,q120,q121,q125,q126,q127,q128,q129,q130,q131,q132,q133,q134,q135,q136,q137,q138,q139,q148,q149,q150,q151,q152,q153,q157,q158,q159,q160,q161,q162,q163,q164,q170,q171,q172,q173,q184,q185,q186,q187,q188,q190,q191,q192,q199,q200,trivial⟩
theorem kok:KOK Tryz.prog opts K:=⟨fun k tf h=>aD9 bL2 k tf h,fun f p h=>aVk (aXg opts K) h,by kernel_rfl⟩
end Go.Proofs.YtookmpaholmmfaaGreatDoor
