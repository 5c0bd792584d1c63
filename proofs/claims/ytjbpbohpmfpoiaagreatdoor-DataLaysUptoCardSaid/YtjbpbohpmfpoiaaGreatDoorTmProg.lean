/- The functions of this seat, compiled for the evaluator TM, a part. By program. Condition: none. -/
import Derived.Test.YtjbpbohpmfpoiaaGreatDoorTmProg1
set_option maxRecDepth 100000
set_option linter.unusedVariables false
namespace Go.Proofs.YtjbpbohpmfpoiaaGreatDoor
open Go Go.TM
def a101:Ann:=⟨[0,1,4,7],[],[],[],[]⟩
def t101:aV:=⟨2,4,[.loc 2],
(h_ [s_ 2 (.mov (.cst (.str [])))]
(.seq (.seq (g_ [v_ l_0,v_ l_1,s_ 3 (.call true false 126 [r_0,r_1])])
(.cond l_3
(h_ [v_ l_0,v_ l_1,o_ (.len .str r_1),o_ (.slice .str r_0 (some r_2) none none),w_ 2 r_3]
.ret)
.skip))
(h_ [v_ l_0,w_ 2 r_0]
.ret)))⟩
def a102:Ann:=⟨[0,1,4],[],[],[],[]⟩
def t102:aV:=⟨2,3,[.loc 2],
(h_ [w_ 2 (i_ 0)]
(h_ [v_ l_0,v_ l_1,o_ (.call false false 127 [r_0,r_1,T_]),w_ 2 r_2]
.ret))⟩
def a103:Ann:=⟨[0,2,3,5,6,7,8,9,13],[],[],[],[]⟩
def t103L0:aJ:=(.seq (g_ [s_ 7 (.bin .lss l_6 l_5)])
(.seq (.cond l_7
.skip
(.exit 0))
(.seq (.block 1
(h_ [o_ (.indexAddrS 1 l_4 l_6),d_ r_0,w_ 3 r_1]
(.seq (.seq (g_ [v_ l_3,s_ 8 (.bin .lss r_0 (.cst (.int .u8 128)))])
(.cond l_8
(h_ [v_ l_3,o_ (.conv (.toInt .i32) r_0),w_ 1 r_1,w_ 2 (i_ 1)]
.ret)
.skip))
(.exit 0))))
(g_ [o_ (.bin .add l_6 (i_ 1)),w_ 6 r_0]))))
def t103:aV:=⟨1,9,[.loc 1,.loc 2],
(h_ [s_ 1 (.mov (.cst (.int .i32 0))),w_ 2 (i_ 0)]
(.seq (.seq (g_ [w_ 4 l_0,s_ 5 (.len .sl r_0),w_ 6 (i_ 0)])
(.block 0
(.loop t103L0)))
(h_ [v_ l_0,c_ 128 [r_0],v_ r_1,o_ (.extract 0 r_2),o_ (.extract 1 r_2),w_ 1 r_3,w_ 2 r_4]
.ret)))⟩
def a104:Ann:=⟨[0,1,4],[],[],[],[]⟩
def t104:aV:=⟨2,3,[.loc 2],
(h_ [w_ 2 F_]
(h_ [v_ l_0,o_ (.bin .eql r_0 (.cst (.int .i32 65533))),v_ r_1,y_ 2 (.mov l_1),y_ 2 (.bin .leq r_3 (i_ 1)),o_ (.pick r_2 r_4 F_),w_ 2 r_5]
.ret))⟩
def a105:Ann:=⟨[0,1,4,13],[],[],[],[]⟩
def t105L0:aJ:=(.seq (.seq (g_ [v_ l_0,o_ (.len .str r_0),o_ (.bin .gtr r_1 (i_ 0)),v_ r_2,y_ 3 (.mov l_0),y_ 3 (.indexS r_4 (i_ 0)),y_ 3 (.mov l_1),y_ 3 (.bin .eql r_5 r_6),s_ 3 (.pick r_3 r_7 F_)])
(.cond l_3
.skip
(.exit 0)))
(.block 1
(g_ [v_ l_0,o_ (.slice .str r_0 (some (i_ 1)) none none),w_ 0 r_1])))
def t105:aV:=⟨2,4,[.loc 2],
(h_ [s_ 2 (.mov (.cst (.str [])))]
(.seq (.block 0
(.loop t105L0))
(h_ [v_ l_0,w_ 2 r_0]
.ret)))⟩
def a106:Ann:=⟨[0,2,3,4,5,9,16],[2],[],[],[]⟩
def t106L0:aJ:=(.seq (.seq (g_ [v_ l_3,v_ l_0,o_ (.len .str r_1),s_ 5 (.bin .lss r_0 r_2)])
(.cond l_5
.skip
(.exit 0)))
(.seq (.block 1
(h_ [v_ l_0,v_ l_3,o_ (.indexS r_0 r_1),w_ 4 r_2]
(.seq (.seq (g_ [v_ l_4,s_ 6 (.bin .geq r_0 (.cst (.int .u8 128)))])
(.cond l_6
(h_ [o_ (.loadN 256 l_1),o_ (.store 256 l_1 r_0),w_ 2 F_]
.ret)
.skip))
(g_ [v_ l_4,o_ (.indexAddrA 256 1 l_1 r_0),o_ (.store 1 r_1 T_)]))))
(g_ [v_ l_3,o_ (.bin .add r_0 (i_ 1)),w_ 3 r_1])))
def t106:aV:=⟨1,7,[.cell 1 256 true,.loc 2],
(h_ [o_ (.allocL 1 [(.bool false),(.bool false),(.bool false),(.bool false),(.bool false),(.bool false),(.bool false),(.bool false),(.bool false),(.bool false),(.bool false),(.bool false),(.bool false),(.bool false),(.bool false),(.bool false),(.bool false),(.bool false),(.bool false),(.bool false),(.bool false),(.bool false),(.bool false),(.bool false),(.bool false),(.bool false),(.bool false),(.bool false),(.bool false),(.bool false),(.bool false),(.bool false),(.bool false),(.bool false),(.bool false),(.bool false),(.bool false),(.bool false),(.bool false),(.bool false),(.bool false),(.bool false),(.bool false),(.bool false),(.bool false),(.bool false),(.bool false),(.bool false),(.bool false),(.bool false),(.bool false),(.bool false),(.bool false),(.bool false),(.bool false),(.bool false),(.bool false),(.bool false),(.bool false),(.bool false),(.bool false),(.bool false),(.bool false),(.bool false),(.bool false),(.bool false),(.bool false),(.bool false),(.bool false),(.bool false),(.bool false),(.bool false),(.bool false),(.bool false),(.bool false),(.bool false),(.bool false),(.bool false),(.bool false),(.bool false),(.bool false),(.bool false),(.bool false),(.bool false),(.bool false),(.bool false),(.bool false),(.bool false),(.bool false),(.bool false),(.bool false),(.bool false),(.bool false),(.bool false),(.bool false),(.bool false),(.bool false),(.bool false),(.bool false),(.bool false),(.bool false),(.bool false),(.bool false),(.bool false),(.bool false),(.bool false),(.bool false),(.bool false),(.bool false),(.bool false),(.bool false),(.bool false),(.bool false),(.bool false),(.bool false),(.bool false),(.bool false),(.bool false),(.bool false),(.bool false),(.bool false),(.bool false),(.bool false),(.bool false),(.bool false),(.bool false),(.bool false),(.bool false),(.bool false),(.bool false),(.bool false),(.bool false),(.bool false),(.bool false),(.bool false),(.bool false),(.bool false),(.bool false),(.bool false),(.bool false),(.bool false),(.bool false),(.bool false),(.bool false),(.bool false),(.bool false),(.bool false),(.bool false),(.bool false),(.bool false),(.bool false),(.bool false),(.bool false),(.bool false),(.bool false),(.bool false),(.bool false),(.bool false),(.bool false),(.bool false),(.bool false),(.bool false),(.bool false),(.bool false),(.bool false),(.bool false),(.bool false),(.bool false),(.bool false),(.bool false),(.bool false),(.bool false),(.bool false),(.bool false),(.bool false),(.bool false),(.bool false),(.bool false),(.bool false),(.bool false),(.bool false),(.bool false),(.bool false),(.bool false),(.bool false),(.bool false),(.bool false),(.bool false),(.bool false),(.bool false),(.bool false),(.bool false),(.bool false),(.bool false),(.bool false),(.bool false),(.bool false),(.bool false),(.bool false),(.bool false),(.bool false),(.bool false),(.bool false),(.bool false),(.bool false),(.bool false),(.bool false),(.bool false),(.bool false),(.bool false),(.bool false),(.bool false),(.bool false),(.bool false),(.bool false),(.bool false),(.bool false),(.bool false),(.bool false),(.bool false),(.bool false),(.bool false),(.bool false),(.bool false),(.bool false),(.bool false),(.bool false),(.bool false),(.bool false),(.bool false),(.bool false),(.bool false),(.bool false),(.bool false),(.bool false),(.bool false),(.bool false),(.bool false),(.bool false),(.bool false),(.bool false),(.bool false),(.bool false),(.bool false),(.bool false),(.bool false),(.bool false),(.bool false),(.bool false),(.bool false),(.bool false),(.bool false),(.bool false),(.bool false),(.bool false),(.bool false)]),w_ 2 F_]
(.seq (.seq (g_ [w_ 3 (i_ 0)])
(.block 0
(.loop t106L0)))
(h_ [o_ (.loadN 256 l_1),o_ (.store 256 l_1 r_0),w_ 2 T_]
.ret)))⟩
def a107:Ann:=⟨[0,1,4,7,12],[],[],[],[]⟩
def t107L0:aJ:=(.seq (.seq (g_ [v_ l_0,o_ (.len .str r_0),s_ 3 (.bin .gtr r_1 (i_ 0))])
(.cond l_3
.skip
(.exit 0)))
(.block 1
(.seq (.seq (g_ [v_ l_1,v_ l_0,o_ (.indexS r_1 (i_ 0)),o_ (.call false false 129 [r_0,r_2]),s_ 4 (.un .not r_3)])
(.cond l_4
(.exit 0)
.skip))
(g_ [v_ l_0,o_ (.slice .str r_0 (some (i_ 1)) none none),w_ 0 r_1]))))
def t107:aV:=⟨2,5,[.loc 2],
(h_ [s_ 2 (.mov (.cst (.str [])))]
(.seq (.block 0
(.loop t107L0))
(h_ [v_ l_0,w_ 2 r_0]
.ret)))⟩
def a108:Ann:=⟨[0,1,4,5,6,9,18],[],[],[],[]⟩
def t108L0:aJ:=(.seq (.seq (g_ [v_ l_0,o_ (.len .str r_0),s_ 5 (.bin .gtr r_1 (i_ 0))])
(.cond l_5
.skip
(.exit 0)))
(.block 1
(h_ [v_ l_0,c_ 130 [r_0],v_ r_1,o_ (.extract 0 r_2),o_ (.extract 1 r_2),w_ 3 r_3,w_ 4 r_4]
(.seq (.seq (g_ [v_ l_1,v_ l_3,c_ 131 [r_0,r_1],s_ 6 (.un .not r_2)])
(.cond l_6
(.exit 0)
.skip))
(g_ [v_ l_0,v_ l_4,o_ (.slice .str r_0 (some r_1) none none),w_ 0 r_2])))))
def t108:aV:=⟨2,7,[.loc 2],
(h_ [s_ 2 (.mov (.cst (.str [])))]
(.seq (.block 0
(.loop t108L0))
(h_ [v_ l_0,w_ 2 r_0]
.ret)))⟩
def a109:Ann:=⟨[0,1,4,5,6,7,8,16,26,50],[],[],[],[(7,⟨[0,1,3,7,15,31,7,7,7,7,775,1991,4039,8191,16383],[0],[(1,[],[2,3,6,7,8,9,10,11,12]),(4,[11,12],[5,13,14])]⟩)]⟩
def t109L0:aJ:=(.seq (.seq (g_ [v_ l_5,o_ (.bin .leq r_0 (i_ 4)),v_ r_1,y_ 2 (.mov l_1),y_ 2 (.mov l_5),y_ 2 (.bin .add r_3 r_4),y_ 2 (.mov l_0),y_ 2 (.len .sl r_6),y_ 2 (.bin .leq r_5 r_7),s_ 8 (.pick r_2 r_8 F_)])
(.cond l_8
.skip
(.exit 0)))
(.seq (.block 1
(h_ [v_ l_0,v_ l_1,v_ l_1,v_ l_5,o_ (.bin .add r_2 r_3),o_ (.slice (.sl 1) r_0 (some r_1) (some r_4) none),c_ 132 [r_5],w_ 6 r_6]
(.seq (.draw [0] [(1,[],[2,3,6,7,8,9,10,11,12]),(4,[11,12],[5,13,14])] [v_ l_6,c_ 64 [r_0],v_ r_1,y_ 2 (.mov l_6),y_ 2 (.call true false 133 [r_3]),y_ 2 (.conv .bytesStr r_4),y_ 2 (.mov l_0),y_ 2 (.mov l_1),y_ 2 (.mov l_1),y_ 2 (.mov l_5),y_ 2 (.bin .add r_8 r_9),y_ 2 (.slice (.sl 1) r_6 (some r_7) (some kR) none),y_ 2 (.conv .bytesStr mF),y_ 2 (.bin .eql r_5 oA),s_ 9 (.pick r_2 aAv F_)])
(.cond l_9
(h_ [v_ l_6,v_ l_5,w_ 2 r_0,w_ 3 r_1,w_ 4 (i_ 0)]
.ret)
.skip))))
(g_ [v_ l_5,o_ (.bin .add r_0 (i_ 1)),w_ 5 r_1])))
def t109:aV:=⟨2,10,[.loc 2,.loc 3,.loc 4],
(h_ [w_ 2 (i_ 0),w_ 3 (i_ 0),w_ 4 (i_ 0)]
(.seq (.seq (g_ [v_ l_1,o_ (.bin .lss r_0 (i_ 0)),v_ r_1,x_ 2 (.mov l_1),x_ 2 (.mov l_0),x_ 2 (.len .sl r_4),x_ 2 (.bin .geq r_3 r_5),s_ 7 (.pick r_2 T_ r_6)])
(.cond l_7
(h_ [w_ 2 (i_ 0),w_ 3 (i_ 0),w_ 4 (i_ 2)]
.ret)
.skip))
(.seq (.seq (g_ [w_ 5 (i_ 1)])
(.block 0
(.loop t109L0)))
(h_ [w_ 2 (i_ 0),w_ 3 (i_ 0),w_ 4 (i_ 4)]
.ret))))⟩
def a110:Ann:=⟨[0,1,4],[4],[],[],[]⟩
def t110:aV:=⟨2,3,[.cell 2 2 true],
(h_ [o_ (.allocL 2 [(.bool false),(.sl .nil [])])]
(h_ [v_ l_1,c_ 66 [r_0],w_ 1 r_1]
(h_ [v_ l_0,v_ r_0,y_ 1 (.mov l_1),y_ 1 (.len .sl r_2),y_ 1 (.bin .gtr r_3 (i_ 0)),o_ (.pick r_1 r_4 F_),v_ l_1,o_ (.build [(.bool false),(.sl .nil [])] [(0,1,r_5),(1,1,r_6)]),o_ (.store 2 l_2 r_7)]
.ret)))⟩
def a111:Ann:=⟨[0,1,2,3,6,7,9],[9,7,3],[],[],[]⟩
def t111:aV:=⟨3,7,[.loc 4],
(h_ [o_ (.boxL 3 l_0),w_ 4 F_]
(h_ [v_ l_1,c_ 86 [r_0],v_ r_1,o_ (.extract 0 r_2),o_ (.extract 1 r_2),o_ (.allocL 5 [(.bool false),(.sl .nil [])]),o_ (.store 2 r_5 r_3),v_ r_4]
(h_ [v_ l_2,c_ 86 [r_0],v_ r_1,o_ (.extract 0 r_2),o_ (.extract 1 r_2),o_ (.allocL 6 [(.bool false),(.sl .nil [])]),o_ (.store 2 r_5 r_3),v_ r_4]
(h_ [o_ (.loadN 2 l_3),o_ (.loadN 2 l_5),c_ 134 [r_0,r_1],o_ (.bin .geq r_2 (i_ 0)),v_ r_3,y_ 4 (.loadN 2 l_3),y_ 4 (.loadN 2 l_6),y_ 4 (.call true false 134 [r_5,r_6]),y_ 4 (.bin .leq r_7 (i_ 0)),o_ (.pick r_4 r_8 F_),w_ 4 r_9]
.ret))))⟩
def a112:Ann:=⟨[0,1,2,3,4,10,22],[1],[],[],[]⟩
def t112L0:aJ:=(.seq (.seq (g_ [v_ l_4,s_ 5 (.bin .geq r_0 (i_ 0))])
(.cond l_5
.skip
(.exit 0)))
(.seq (.block 1
(g_ [v_ l_3,o_ (.bin .mul (i_ 10) r_0),f_ 1 l_1,d_ r_2,v_ l_4,o_ (.indexAddrS 1 r_3 r_4),d_ r_5,o_ (.bin .add r_1 r_6),w_ 3 r_7]))
(g_ [v_ l_4,o_ (.bin .sub r_0 (i_ 1)),w_ 4 r_1])))
def t112:aV:=⟨1,7,[.loc 2],
(h_ [o_ (.boxL 1 l_0),w_ 2 (i_ 0)]
(h_ [w_ 3 (i_ 0)]
(.seq (.seq (g_ [f_ 1 l_1,d_ r_0,o_ (.len .sl r_1),o_ (.bin .sub r_2 (i_ 1)),w_ 4 r_3])
(.block 0
(.loop t112L0)))
(.seq (.seq (g_ [f_ 0 l_1,s_ 6 (.load1 r_0)])
(.cond l_6
(h_ [v_ l_3,o_ (.un .neg r_0),w_ 2 r_1]
.ret)
.skip))
(h_ [v_ l_3,w_ 2 r_0]
.ret)))))⟩
def a113:Ann:=⟨[0,1,2,6,9,16],[],[],[],[]⟩
def t113:aV:=⟨3,6,[.loc 3],
(h_ [w_ 3 F_]
(.seq (.seq (g_ [v_ l_1,v_ l_2,s_ 4 (.bin .leq r_0 r_1)])
(.cond l_4
(h_ [w_ 3 F_]
.ret)
.skip))
(.seq (.seq (g_ [v_ l_1,v_ l_0,o_ (.nilCheck r_1),f_ 5 r_2,d_ r_3,o_ (.bin .sub (i_ 3000000) r_4),s_ 5 (.bin .gtr r_0 r_5)])
(.cond l_5
(h_ [v_ l_0,o_ (.nilCheck r_0),f_ 6 r_1,o_ (.store 1 r_2 T_)]
(h_ [w_ 3 T_]
.ret))
.skip))
(h_ [v_ l_0,v_ l_0,o_ (.nilCheck r_1),f_ 5 r_2,d_ r_3,v_ l_1,o_ (.bin .add r_4 r_5),o_ (.nilCheck r_0),f_ 5 r_7,o_ (.store 1 r_8 r_6)]
(h_ [w_ 3 F_]
.ret)))))⟩
def a114:Ann:=⟨[0,1,4,5,10,14,25],[],[],[],[(6,⟨[0,0,3,7,0,0,48,112,255],[0,1,2,3,4,5,6,7,8],[]⟩)]⟩
def t114L0:aJ:=(.seq (.seq (g_ [v_ l_3,v_ l_0,o_ (.len .sl r_1),s_ 5 (.bin .lss r_0 r_2)])
(.cond l_5
.skip
(.exit 0)))
(.seq (.block 1
(.seq (.draw [0,1,2,3,4,5,6,7,8] [] [v_ l_0,v_ l_3,o_ (.indexAddrS 2 r_0 r_1),o_ (.loadN 2 r_2),v_ l_1,v_ l_3,o_ (.indexAddrS 2 r_4 r_5),o_ (.loadN 2 r_6),s_ 6 (.eqAgg true [(0,.int),(1,.int)] r_3 r_7)])
(.cond l_6
(h_ [w_ 2 F_]
.ret)
.skip)))
(g_ [v_ l_3,o_ (.bin .add r_0 (i_ 1)),w_ 3 r_1])))
def t114:aV:=⟨2,7,[.loc 2],
(h_ [w_ 2 F_]
(.seq (.seq (g_ [v_ l_0,o_ (.len .sl r_0),v_ l_1,o_ (.len .sl r_2),s_ 4 (.bin .neq r_1 r_3)])
(.cond l_4
(h_ [w_ 2 F_]
.ret)
.skip))
(.seq (.seq (g_ [w_ 3 (i_ 0)])
(.block 0
(.loop t114L0)))
(h_ [w_ 2 T_]
.ret))))⟩
def a115:Ann:=⟨[0,2,3],[],[],[],[]⟩
def t115:aV:=⟨1,3,[.loc 1],
(h_ [w_ 1 N_]
(h_ [w_ 2 N_]
(h_ [v_ l_2,v_ l_0,o_ (.append false 2 16 73 r_0 r_1),w_ 1 r_2]
.ret)))⟩
def a125:Ann:=⟨[0,1,2],[],[],[],[]⟩
def t125:aV:=⟨1,3,[.loc 2],
(h_ [s_ 1 (.boxH 69 l_0),s_ 2 (.mov (.cst .nilf))]
(h_ [o_ (.mkFn 139 [] [l_1]),w_ 2 r_0]
.ret))⟩
def a126:Ann:=⟨[0,1,4],[],[],[],[]⟩
def t126:aV:=⟨2,3,[.loc 2],
(h_ [w_ 2 F_]
(h_ [v_ l_0,o_ (.len .str r_0),v_ l_1,o_ (.len .str r_2),o_ (.bin .geq r_1 r_3),v_ r_4,y_ 5 (.mov l_0),y_ 5 (.mov l_1),y_ 5 (.len .str r_7),y_ 5 (.slice .str r_6 none (some r_8) none),y_ 5 (.mov l_1),y_ 5 (.bin .eql r_9 kR),o_ (.pick r_5 mF F_),w_ 2 oA]
.ret))⟩
def a127:Ann:=⟨[0,1,2,6,7,8,10,11,12,19],[],[],[],[]⟩
def t127L0:aJ:=(.seq (g_ [s_ 7 (.nextS l_6),s_ 8 (.extract 0 r_0)])
(.seq (.cond l_8
.skip
(.exit 0))
(.block 1
(h_ [o_ (.extract 1 l_7),o_ (.extract 2 l_7),w_ 4 r_0,w_ 5 r_1]
(h_ [v_ l_1,v_ l_5,o_ (.callv r_0 [r_1]),v_ l_2,s_ 9 (.eqB false .bool r_2 r_3)]
(.cond l_9
(h_ [v_ l_4,w_ 3 r_0]
.ret)
.skip))))))
def t127:aV:=⟨3,10,[.loc 3],
(h_ [w_ 3 (i_ 0)]
(.seq (.seq (g_ [v_ l_0,s_ 6 (.range true r_0)])
(.block 0
(.loop t127L0)))
(h_ [s_ 3 (.mov (i_ (-1)))]
.ret)))⟩
def a128:Ann:=⟨[0,2,3,4,5,6,7,8,9,10,11,12,16,24,47,60,62,79,81,103],[9],[],[],[]⟩
def t128:aV:=⟨1,20,[.loc 1,.loc 2],
(h_ [s_ 1 (.mov (.cst (.int .i32 0))),w_ 2 (i_ 0)]
(h_ [v_ l_0,o_ (.len .sl r_0),w_ 3 r_1]
(.seq (.seq (g_ [v_ l_3,s_ 12 (.bin .lss r_0 (i_ 1))])
(.cond uC
(h_ [s_ 1 (.mov (.cst (.int .i32 65533))),w_ 2 (i_ 0)]
.ret)
.skip))
(h_ [v_ l_0,o_ (.indexAddrS 1 r_0 (i_ 0)),d_ r_1,w_ 4 r_2]
(h_ [v_ l_4,o_ (.indexAddrA 256 1 (.glob 0) r_0),d_ r_1,w_ 5 r_2]
(.seq (.seq (g_ [v_ l_5,s_ 13 (.bin .geq r_0 (.cst (.int .u8 240)))])
(.cond iK
(h_ [v_ l_5,o_ (.conv (.toInt .i32) r_0),o_ (.bin .shl r_1 (.cst (.int .u64 31))),o_ (.bin .shr r_2 (.cst (.int .u64 31))),w_ 6 r_3]
(h_ [v_ l_0,o_ (.indexAddrS 1 r_0 (i_ 0)),d_ r_1,o_ (.conv (.toInt .i32) r_2),v_ l_6,o_ (.bin .andNot r_3 r_4),v_ l_6,o_ (.bin .and (.cst (.int .i32 65533)) r_6),o_ (.bin .or r_5 r_7),w_ 1 r_8,w_ 2 (i_ 1)]
.ret))
.skip))
(h_ [v_ l_5,o_ (.bin .and r_0 (.cst (.int .u8 7))),o_ (.conv (.toInt .i64) r_1),w_ 7 r_2]
(h_ [v_ l_5,o_ (.bin .shr r_0 (.cst (.int .u64 4))),o_ (.indexAddrA 16 2 (.glob 1) r_1),o_ (.loadN 2 r_2),o_ (.allocL 8 [(.int .u8 0),(.int .u8 0)]),o_ (.store 2 r_4 r_3)]
(.seq (.seq (g_ [v_ l_3,v_ l_7,s_ 14 (.bin .lss r_0 r_1)])
(.cond vD
(h_ [s_ 1 (.mov (.cst (.int .i32 65533))),w_ 2 (i_ 1)]
.ret)
.skip))
(h_ [v_ l_0,o_ (.indexAddrS 1 r_0 (i_ 1)),d_ r_1,w_ 9 r_2]
(.seq (.seq (g_ [v_ l_9,f_ 0 l_8,d_ r_1,o_ (.bin .lss r_0 r_2),v_ r_3,x_ 4 (.fieldAddr 1 l_8),x_ 4 (.load1 r_5),x_ 4 (.mov l_9),x_ 4 (.bin .lss r_6 r_7),s_ 15 (.pick r_4 T_ r_8)])
(.cond aIj
(h_ [s_ 1 (.mov (.cst (.int .i32 65533))),w_ 2 (i_ 1)]
.ret)
.skip))
(.seq (.seq (g_ [v_ l_7,s_ 16 (.bin .leq r_0 (i_ 2))])
(.cond aIk
(h_ [v_ l_4,o_ (.bin .and r_0 (.cst (.int .u8 31))),o_ (.conv (.toInt .i32) r_1),o_ (.bin .shl r_2 (.cst (.int .u64 6))),v_ l_9,o_ (.bin .and r_4 (.cst (.int .u8 63))),o_ (.conv (.toInt .i32) r_5),o_ (.bin .or r_3 r_6),w_ 1 r_7,w_ 2 (i_ 2)]
.ret)
.skip))
(h_ [v_ l_0,o_ (.indexAddrS 1 r_0 (i_ 2)),d_ r_1,w_ 10 r_2]
(.seq (.seq (g_ [v_ gW,o_ (.bin .lss r_0 (.cst (.int .u8 128))),v_ r_1,x_ 2 (.mov gW),x_ 2 (.bin .lss (.cst (.int .u8 191)) r_3),s_ 17 (.pick r_2 T_ r_4)])
(.cond aRq
(h_ [s_ 1 (.mov (.cst (.int .i32 65533))),w_ 2 (i_ 1)]
.ret)
.skip))
(.seq (.seq (g_ [v_ l_7,s_ 18 (.bin .leq r_0 (i_ 3))])
(.cond aRr
(h_ [v_ l_4,o_ (.bin .and r_0 (.cst (.int .u8 15))),o_ (.conv (.toInt .i32) r_1),o_ (.bin .shl r_2 (.cst (.int .u64 12))),v_ l_9,o_ (.bin .and r_4 (.cst (.int .u8 63))),o_ (.conv (.toInt .i32) r_5),o_ (.bin .shl r_6 (.cst (.int .u64 6))),o_ (.bin .or r_3 r_7),v_ gW,o_ (.bin .and r_9 (.cst (.int .u8 63))),o_ (.conv (.toInt .i32) kR),o_ (.bin .or r_8 mF),w_ 1 oA,w_ 2 (i_ 3)]
.ret)
.skip))
(h_ [v_ l_0,o_ (.indexAddrS 1 r_0 (i_ 3)),d_ r_1,w_ 11 r_2]
(.seq (.seq (g_ [v_ jS,o_ (.bin .lss r_0 (.cst (.int .u8 128))),v_ r_1,x_ 2 (.mov jS),x_ 2 (.bin .lss (.cst (.int .u8 191)) r_3),s_ 19 (.pick r_2 T_ r_4)])
(.cond aRs
(h_ [s_ 1 (.mov (.cst (.int .i32 65533))),w_ 2 (i_ 1)]
.ret)
.skip))
(h_ [v_ l_4,o_ (.bin .and r_0 (.cst (.int .u8 7))),o_ (.conv (.toInt .i32) r_1),o_ (.bin .shl r_2 (.cst (.int .u64 18))),v_ l_9,o_ (.bin .and r_4 (.cst (.int .u8 63))),o_ (.conv (.toInt .i32) r_5),o_ (.bin .shl r_6 (.cst (.int .u64 12))),o_ (.bin .or r_3 r_7),v_ gW,o_ (.bin .and r_9 (.cst (.int .u8 63))),o_ (.conv (.toInt .i32) kR),o_ (.bin .shl mF (.cst (.int .u64 6))),o_ (.bin .or r_8 oA),v_ jS,o_ (.bin .and aLv (.cst (.int .u8 63))),o_ (.conv (.toInt .i32) aLw),o_ (.bin .or aAv aLx),w_ 1 aLy,w_ 2 (i_ 4)]
.ret))))))))))))))))))⟩
def a129:Ann:=⟨[0,1,4],[],[],[],[]⟩
def t129:aV:=⟨2,3,[.loc 2],
(h_ [w_ 2 F_]
(h_ [v_ l_0,v_ l_1,o_ (.nilCheck r_0),o_ (.indexAddrA 256 1 r_2 r_1),d_ r_3,w_ 2 r_4]
.ret))⟩
def a130:Ann:=⟨[0,2,3,10],[],[],[],[]⟩
def t130:aV:=⟨1,4,[.loc 1,.loc 2],
(h_ [s_ 1 (.mov (.cst (.int .i32 0))),w_ 2 (i_ 0)]
(.seq (.seq (g_ [v_ l_0,o_ (.bin .neq r_0 (.cst (.str []))),v_ r_1,y_ 2 (.mov l_0),y_ 2 (.indexS r_3 (i_ 0)),y_ 2 (.bin .lss r_4 (.cst (.int .u8 128))),s_ 3 (.pick r_2 r_5 F_)])
(.cond l_3
(h_ [v_ l_0,o_ (.indexS r_0 (i_ 0)),o_ (.conv (.toInt .i32) r_1),w_ 1 r_2,w_ 2 (i_ 1)]
.ret)
(g_ [v_ l_0,c_ 140 [r_0],v_ r_1,o_ (.extract 0 r_2),o_ (.extract 1 r_2),w_ 1 r_3,w_ 2 r_4])))
.ret))⟩
def a131:Ann:=⟨[0,1,4],[],[],[],[]⟩
def t131:aV:=⟨2,3,[.loc 2],
(h_ [w_ 2 F_]
(h_ [v_ l_0,v_ l_1,c_ 141 [r_0,r_1],o_ (.bin .geq r_2 (i_ 0)),w_ 2 r_3]
.ret))⟩
def a132:Ann:=⟨[0,2,3,4,5,13,18,23,29],[],[],[],[]⟩
def t132L0:aJ:=(.seq (.seq (g_ [v_ l_4,v_ l_0,o_ (.len .sl r_1),s_ 8 (.bin .lss r_0 r_2)])
(.cond l_8
.skip
(.exit 0)))
(.seq (.block 1
(g_ [v_ l_3,o_ (.bin .mul (i_ 64) r_0),v_ l_0,v_ l_4,o_ (.indexAddrS 1 r_2 r_3),d_ r_4,o_ (.conv (.toInt .i64) r_5),o_ (.bin .rem r_6 (i_ 64)),o_ (.bin .add r_1 r_7),w_ 3 r_8]))
(g_ [v_ l_4,o_ (.bin .add r_0 (i_ 1)),w_ 4 r_1])))
def t132:aV:=⟨1,9,[.loc 1],
(h_ [w_ 1 (i_ 0)]
(h_ [v_ l_0,o_ (.indexAddrS 1 r_0 (i_ 0)),d_ r_1,o_ (.conv (.toInt .i64) r_2),w_ 2 r_3]
(h_ [v_ l_2,w_ 3 r_0]
(.seq (.seq (g_ [v_ l_0,o_ (.len .sl r_0),s_ 5 (.bin .eql r_1 (i_ 2))])
(.cond l_5
(g_ [v_ l_2,o_ (.bin .rem r_0 (i_ 32)),w_ 3 r_1])
.skip))
(.seq (.seq (g_ [v_ l_0,o_ (.len .sl r_0),s_ 6 (.bin .eql r_1 (i_ 3))])
(.cond l_6
(g_ [v_ l_2,o_ (.bin .rem r_0 (i_ 16)),w_ 3 r_1])
.skip))
(.seq (.seq (g_ [v_ l_0,o_ (.len .sl r_0),s_ 7 (.bin .eql r_1 (i_ 4))])
(.cond l_7
(g_ [v_ l_2,o_ (.bin .rem r_0 (i_ 8)),w_ 3 r_1])
.skip))
(.seq (.seq (g_ [w_ 4 (i_ 1)])
(.block 0
(.loop t132L0)))
(h_ [v_ l_3,w_ 1 r_0]
.ret))))))))⟩
def a133:Ann:=⟨[0,2,4,9,20],[],[],[],[]⟩
def t133:aV:=⟨1,5,[.loc 1],
(h_ [w_ 1 N_]
(.seq (.seq (g_ [v_ l_0,s_ 2 (.bin .lss r_0 (i_ 128))])
(.cond l_2
(h_ [v_ l_0,o_ (.conv (.toInt .u8) r_0),o_ (.lit false [(.int .u8 0)] 1 [(0,r_1)]),w_ 1 r_2]
.ret)
.skip))
(.seq (.seq (g_ [v_ l_0,s_ 3 (.bin .lss r_0 (i_ 2048))])
(.cond l_3
(h_ [v_ l_0,o_ (.bin .quo r_0 (i_ 64)),o_ (.bin .add (i_ 192) r_1),o_ (.conv (.toInt .u8) r_2),v_ l_0,o_ (.bin .rem r_4 (i_ 64)),o_ (.bin .add (i_ 128) r_5),o_ (.conv (.toInt .u8) r_6),o_ (.lit false [(.int .u8 0)] 2 [(0,r_3),(1,r_7)]),w_ 1 r_8]
.ret)
.skip))
(.seq (.seq (g_ [v_ l_0,s_ 4 (.bin .lss r_0 (i_ 65536))])
(.cond l_4
(h_ [v_ l_0,o_ (.bin .quo r_0 (i_ 4096)),o_ (.bin .add (i_ 224) r_1),o_ (.conv (.toInt .u8) r_2),v_ l_0,o_ (.bin .quo r_4 (i_ 64)),o_ (.bin .rem r_5 (i_ 64)),o_ (.bin .add (i_ 128) r_6),o_ (.conv (.toInt .u8) r_7),v_ l_0,o_ (.bin .rem r_9 (i_ 64)),o_ (.bin .add (i_ 128) kR),o_ (.conv (.toInt .u8) mF),o_ (.lit false [(.int .u8 0)] 3 [(0,r_3),(1,r_8),(2,oA)]),w_ 1 aAv]
.ret)
.skip))
(h_ [v_ l_0,o_ (.bin .quo r_0 (i_ 262144)),o_ (.bin .add (i_ 240) r_1),o_ (.conv (.toInt .u8) r_2),v_ l_0,o_ (.bin .quo r_4 (i_ 4096)),o_ (.bin .rem r_5 (i_ 64)),o_ (.bin .add (i_ 128) r_6),o_ (.conv (.toInt .u8) r_7),v_ l_0,o_ (.bin .quo r_9 (i_ 64)),o_ (.bin .rem kR (i_ 64)),o_ (.bin .add (i_ 128) mF),o_ (.conv (.toInt .u8) oA),v_ l_0,o_ (.bin .rem aLv (i_ 64)),o_ (.bin .add (i_ 128) aLw),o_ (.conv (.toInt .u8) aLx),o_ (.lit false [(.int .u8 0)] 4 [(0,r_3),(1,r_8),(2,aAv),(3,aLy)]),w_ 1 bGq]
.ret)))))⟩
def a134:Ann:=⟨[0,1,2,3,4,11,18,20],[3,2],[],[],[]⟩
def t134:aV:=⟨2,8,[.loc 4],
(h_ [o_ (.boxL 2 l_0),o_ (.boxL 3 l_1),w_ 4 (i_ 0)]
(.seq (.seq (g_ [f_ 0 l_2,d_ r_0,v_ r_1,y_ 2 (.fieldAddr 0 l_3),y_ 2 (.load1 r_3),y_ 2 (.un .not r_4),s_ 5 (.pick r_2 r_5 F_)])
(.cond l_5
(h_ [s_ 4 (.mov (i_ (-1)))]
.ret)
.skip))
(.seq (.seq (g_ [f_ 0 l_2,d_ r_0,o_ (.un .not r_1),v_ r_2,y_ 3 (.fieldAddr 0 l_3),y_ 3 (.load1 r_4),s_ 6 (.pick r_3 r_5 F_)])
(.cond l_6
(h_ [w_ 4 (i_ 1)]
.ret)
.skip))
(.seq (.seq (g_ [f_ 0 l_2,s_ 7 (.load1 r_0)])
(.cond l_7
(h_ [f_ 1 l_3,d_ r_0,f_ 1 l_2,d_ r_2,c_ 142 [r_1,r_3],w_ 4 r_4]
.ret)
.skip))
(h_ [f_ 1 l_2,d_ r_0,f_ 1 l_3,d_ r_2,c_ 142 [r_1,r_3],w_ 4 r_4]
.ret)))))⟩
def a139:Ann:=⟨[0,1,3,8,18],[],[],[],[]⟩
def t139L0:aJ:=(.seq (.seq (g_ [v_ l_2,s_ 3 (.bin .geq r_0 (i_ 0))])
(.cond l_3
.skip
(.exit 0)))
(.seq (.block 1
(h_ [v_ l_0,v_ l_2,d_ l_1,v_ l_2,o_ (.indexAddrS 1 r_2 r_3),d_ r_4,o_ (.callv r_0 [r_1,r_5]),s_ 4 (.un .not r_6)]
(.cond l_4
.ret
.skip)))
(g_ [v_ l_2,o_ (.bin .sub r_0 (i_ 1)),w_ 2 r_1])))
def t139:aV:=⟨2,5,[],
(h_ [d_ l_1,o_ (.len .sl r_0),o_ (.bin .sub r_1 (i_ 1)),w_ 2 r_2]
(.block 0
(.loop t139L0)))⟩
def a140:Ann:=⟨[0,2,3,4,5,6,7,8,9,10,11,12,16,23,45,57,59,75,77,98],[9],[],[],[]⟩
def t140:aV:=⟨1,20,[.loc 1,.loc 2],
(h_ [s_ 1 (.mov (.cst (.int .i32 0))),w_ 2 (i_ 0)]
(h_ [v_ l_0,o_ (.len .str r_0),w_ 3 r_1]
(.seq (.seq (g_ [v_ l_3,s_ 12 (.bin .lss r_0 (i_ 1))])
(.cond uC
(h_ [s_ 1 (.mov (.cst (.int .i32 65533))),w_ 2 (i_ 0)]
.ret)
.skip))
(h_ [v_ l_0,o_ (.indexS r_0 (i_ 0)),w_ 4 r_1]
(h_ [v_ l_4,o_ (.indexAddrA 256 1 (.glob 0) r_0),d_ r_1,w_ 5 r_2]
(.seq (.seq (g_ [v_ l_5,s_ 13 (.bin .geq r_0 (.cst (.int .u8 240)))])
(.cond iK
(h_ [v_ l_5,o_ (.conv (.toInt .i32) r_0),o_ (.bin .shl r_1 (.cst (.int .u64 31))),o_ (.bin .shr r_2 (.cst (.int .u64 31))),w_ 6 r_3]
(h_ [v_ l_0,o_ (.indexS r_0 (i_ 0)),o_ (.conv (.toInt .i32) r_1),v_ l_6,o_ (.bin .andNot r_2 r_3),v_ l_6,o_ (.bin .and (.cst (.int .i32 65533)) r_5),o_ (.bin .or r_4 r_6),w_ 1 r_7,w_ 2 (i_ 1)]
.ret))
.skip))
(h_ [v_ l_5,o_ (.bin .and r_0 (.cst (.int .u8 7))),o_ (.conv (.toInt .i64) r_1),w_ 7 r_2]
(h_ [v_ l_5,o_ (.bin .shr r_0 (.cst (.int .u64 4))),o_ (.indexAddrA 16 2 (.glob 1) r_1),o_ (.loadN 2 r_2),o_ (.allocL 8 [(.int .u8 0),(.int .u8 0)]),o_ (.store 2 r_4 r_3)]
(.seq (.seq (g_ [v_ l_3,v_ l_7,s_ 14 (.bin .lss r_0 r_1)])
(.cond vD
(h_ [s_ 1 (.mov (.cst (.int .i32 65533))),w_ 2 (i_ 1)]
.ret)
.skip))
(h_ [v_ l_0,o_ (.indexS r_0 (i_ 1)),w_ 9 r_1]
(.seq (.seq (g_ [v_ l_9,f_ 0 l_8,d_ r_1,o_ (.bin .lss r_0 r_2),v_ r_3,x_ 4 (.fieldAddr 1 l_8),x_ 4 (.load1 r_5),x_ 4 (.mov l_9),x_ 4 (.bin .lss r_6 r_7),s_ 15 (.pick r_4 T_ r_8)])
(.cond aIj
(h_ [s_ 1 (.mov (.cst (.int .i32 65533))),w_ 2 (i_ 1)]
.ret)
.skip))
(.seq (.seq (g_ [v_ l_7,s_ 16 (.bin .leq r_0 (i_ 2))])
(.cond aIk
(h_ [v_ l_4,o_ (.bin .and r_0 (.cst (.int .u8 31))),o_ (.conv (.toInt .i32) r_1),o_ (.bin .shl r_2 (.cst (.int .u64 6))),v_ l_9,o_ (.bin .and r_4 (.cst (.int .u8 63))),o_ (.conv (.toInt .i32) r_5),o_ (.bin .or r_3 r_6),w_ 1 r_7,w_ 2 (i_ 2)]
.ret)
.skip))
(h_ [v_ l_0,o_ (.indexS r_0 (i_ 2)),w_ 10 r_1]
(.seq (.seq (g_ [v_ gW,o_ (.bin .lss r_0 (.cst (.int .u8 128))),v_ r_1,x_ 2 (.mov gW),x_ 2 (.bin .lss (.cst (.int .u8 191)) r_3),s_ 17 (.pick r_2 T_ r_4)])
(.cond aRq
(h_ [s_ 1 (.mov (.cst (.int .i32 65533))),w_ 2 (i_ 1)]
.ret)
.skip))
(.seq (.seq (g_ [v_ l_7,s_ 18 (.bin .leq r_0 (i_ 3))])
(.cond aRr
(h_ [v_ l_4,o_ (.bin .and r_0 (.cst (.int .u8 15))),o_ (.conv (.toInt .i32) r_1),o_ (.bin .shl r_2 (.cst (.int .u64 12))),v_ l_9,o_ (.bin .and r_4 (.cst (.int .u8 63))),o_ (.conv (.toInt .i32) r_5),o_ (.bin .shl r_6 (.cst (.int .u64 6))),o_ (.bin .or r_3 r_7),v_ gW,o_ (.bin .and r_9 (.cst (.int .u8 63))),o_ (.conv (.toInt .i32) kR),o_ (.bin .or r_8 mF),w_ 1 oA,w_ 2 (i_ 3)]
.ret)
.skip))
(h_ [v_ l_0,o_ (.indexS r_0 (i_ 3)),w_ 11 r_1]
(.seq (.seq (g_ [v_ jS,o_ (.bin .lss r_0 (.cst (.int .u8 128))),v_ r_1,x_ 2 (.mov jS),x_ 2 (.bin .lss (.cst (.int .u8 191)) r_3),s_ 19 (.pick r_2 T_ r_4)])
(.cond aRs
(h_ [s_ 1 (.mov (.cst (.int .i32 65533))),w_ 2 (i_ 1)]
.ret)
.skip))
(h_ [v_ l_4,o_ (.bin .and r_0 (.cst (.int .u8 7))),o_ (.conv (.toInt .i32) r_1),o_ (.bin .shl r_2 (.cst (.int .u64 18))),v_ l_9,o_ (.bin .and r_4 (.cst (.int .u8 63))),o_ (.conv (.toInt .i32) r_5),o_ (.bin .shl r_6 (.cst (.int .u64 12))),o_ (.bin .or r_3 r_7),v_ gW,o_ (.bin .and r_9 (.cst (.int .u8 63))),o_ (.conv (.toInt .i32) kR),o_ (.bin .shl mF (.cst (.int .u64 6))),o_ (.bin .or r_8 oA),v_ jS,o_ (.bin .and aLv (.cst (.int .u8 63))),o_ (.conv (.toInt .i32) aLw),o_ (.bin .or aAv aLx),w_ 1 aLy,w_ 2 (i_ 4)]
.ret))))))))))))))))))⟩
def a141:Ann:=⟨[0,1,4,5,6,7,8,9,10,11,12,13,14,15,16,26,33,43,51,64,98,108,124,139,143,156,160,171,175,176,177,181,183],[],[],[],[(6,⟨[0,0,3,0,0,24,63],[0,1,2,3,4,5,6],[]⟩),(7,⟨[0,0,2,7,0,0,48,127,255],[0,1,2,3,4,5,6],[(7,[],[8])]⟩),(14,⟨[0,0,0,6,15,0,0,0,192,480,1023],[0,1,2,3,4,5,6,7,8,9,10],[]⟩),(31,⟨[0,0,0,6,15,0,0,0,192,480,1023],[0,1,2,3,4,5,6,7,8,9,10],[]⟩)]⟩
def t141L0:aJ:=(.seq (g_ [s_ 29 (.nextS bHy), s_ 30 (.extract 0 r_0)])
(.seq (.cond bHz
.skip
(.exit 9))
(.block 10
(h_ [o_ (.extract 1 bGt),o_ (.extract 2 bGt),w_ 3 r_0,w_ 4 r_1]
(h_ [v_ l_4,s_ 31 (.bin .eql r_0 (.cst (.int .i32 65533)))]
(.cond bIv
(h_ [v_ l_3,w_ 2 r_0]
.ret)
.skip))))))
def t141:aV:=⟨2,33,[.loc 2],
(h_ [w_ 2 (i_ 0)]
(.block 0
(h_ [v_ l_1,o_ (.bin .leq (.cst (.int .i32 0)) r_0),v_ r_1,y_ 2 (.mov l_1),y_ 2 (.bin .lss r_3 (.cst (.int .i32 128))),o_ (.pick r_2 r_4 F_),w_ 26 r_5]
(.cond bHx
(h_ [v_ l_0,v_ l_1,o_ (.conv (.toInt .u8) r_1),c_ 148 [r_0,r_2],w_ 2 r_3]
.ret)
(h_ [v_ l_1,o_ (.bin .eql r_0 (.cst (.int .i32 65533))),w_ 27 r_1]
(.cond bIu
(.seq (.seq (g_ [v_ l_0,s_ 28 (.range true r_0)])
(.block 9
(.loop t141L0)))
(h_ [s_ 2 (.mov (i_ (-1)))]
.ret))
(h_ [v_ l_1,c_ 78 [r_0],o_ (.un .not r_1),w_ 32 r_2]
(.cond bIw
(h_ [s_ 2 (.mov (i_ (-1)))]
.ret)
     .bad))))))))⟩
def a142:Ann:=⟨[0,1,4,5,10,15,20,31,40],[],[],[],[(8,⟨[0,0,3,7,0,0,48,112,255],[0,1,2,3,4,5,6,7,8],[]⟩),(9,⟨[0,0,3,7,0,0,48,112,255],[0,1,2,3,4,5,6,7,8],[]⟩)]⟩
def t142L0:aJ:=(.seq (.seq (g_ [v_ l_3,s_ 6 (.bin .geq r_0 (i_ 0))])
(.cond l_6
.skip
(.exit 0)))
(.seq (.block 1
(.seq (.draw [0,1,2,3,4,5,6,7,8] [] [v_ l_0,v_ l_3,o_ (.indexAddrS 1 r_0 r_1),d_ r_2,v_ l_1,v_ l_3,o_ (.indexAddrS 1 r_4 r_5),d_ r_6,s_ 7 (.bin .neq r_3 r_7)])
(.cond l_7
(.seq (.seq (.draw [0,1,2,3,4,5,6,7,8] [] [v_ l_0,v_ l_3,o_ (.indexAddrS 1 r_0 r_1),d_ r_2,v_ l_1,v_ l_3,o_ (.indexAddrS 1 r_4 r_5),d_ r_6,s_ 8 (.bin .lss r_3 r_7)])
(.cond l_8
(h_ [s_ 2 (.mov (i_ (-1)))]
.ret)
.skip))
(h_ [w_ 2 (i_ 1)]
.ret))
.skip)))
(g_ [v_ l_3,o_ (.bin .sub r_0 (i_ 1)),w_ 3 r_1])))
def t142:aV:=⟨2,9,[.loc 2],
(h_ [w_ 2 (i_ 0)]
(.seq (.seq (g_ [v_ l_0,o_ (.len .sl r_0),v_ l_1,o_ (.len .sl r_2),s_ 4 (.bin .neq r_1 r_3)])
(.cond l_4
(.seq (.seq (g_ [v_ l_0,o_ (.len .sl r_0),v_ l_1,o_ (.len .sl r_2),s_ 5 (.bin .lss r_1 r_3)])
(.cond l_5
(h_ [s_ 2 (.mov (i_ (-1)))]
.ret)
.skip))
(h_ [w_ 2 (i_ 1)]
.ret))
.skip))
(.seq (.seq (g_ [v_ l_0,o_ (.len .sl r_0),o_ (.bin .sub r_1 (i_ 1)),w_ 3 r_2])
(.block 0
(.loop t142L0)))
(h_ [w_ 2 (i_ 0)]
.ret))))⟩
def a148:Ann:=⟨[0,1,4],[],[],[],[]⟩
def t148:aV:=⟨2,3,[.loc 2],
(h_ [w_ 2 (i_ 0)]
(h_ [v_ l_0,v_ l_1,c_ 156 [r_0,r_1],w_ 2 r_2]
.ret))⟩
def a156:Ann:=⟨[0,1,4],[],[],[],[]⟩
def t156:aV:=⟨2,3,[.loc 2],
(h_ [w_ 2 (i_ 0)]
(h_ [v_ l_0,v_ l_1,o_ (.prim 159 [r_0,r_1]),w_ 2 r_2]
.ret))⟩
def g0:List IV:=[(.int .u8 240),(.int .u8 240),(.int .u8 240),(.int .u8 240),(.int .u8 240),(.int .u8 240),(.int .u8 240),(.int .u8 240),(.int .u8 240),(.int .u8 240),(.int .u8 240),(.int .u8 240),(.int .u8 240),(.int .u8 240),(.int .u8 240),(.int .u8 240),(.int .u8 240),(.int .u8 240),(.int .u8 240),(.int .u8 240),(.int .u8 240),(.int .u8 240),(.int .u8 240),(.int .u8 240),(.int .u8 240),(.int .u8 240),(.int .u8 240),(.int .u8 240),(.int .u8 240),(.int .u8 240),(.int .u8 240),(.int .u8 240),(.int .u8 240),(.int .u8 240),(.int .u8 240),(.int .u8 240),(.int .u8 240),(.int .u8 240),(.int .u8 240),(.int .u8 240),(.int .u8 240),(.int .u8 240),(.int .u8 240),(.int .u8 240),(.int .u8 240),(.int .u8 240),(.int .u8 240),(.int .u8 240),(.int .u8 240),(.int .u8 240),(.int .u8 240),(.int .u8 240),(.int .u8 240),(.int .u8 240),(.int .u8 240),(.int .u8 240),(.int .u8 240),(.int .u8 240),(.int .u8 240),(.int .u8 240),(.int .u8 240),(.int .u8 240),(.int .u8 240),(.int .u8 240),(.int .u8 240),(.int .u8 240),(.int .u8 240),(.int .u8 240),(.int .u8 240),(.int .u8 240),(.int .u8 240),(.int .u8 240),(.int .u8 240),(.int .u8 240),(.int .u8 240),(.int .u8 240),(.int .u8 240),(.int .u8 240),(.int .u8 240),(.int .u8 240),(.int .u8 240),(.int .u8 240),(.int .u8 240),(.int .u8 240),(.int .u8 240),(.int .u8 240),(.int .u8 240),(.int .u8 240),(.int .u8 240),(.int .u8 240),(.int .u8 240),(.int .u8 240),(.int .u8 240),(.int .u8 240),(.int .u8 240),(.int .u8 240),(.int .u8 240),(.int .u8 240),(.int .u8 240),(.int .u8 240),(.int .u8 240),(.int .u8 240),(.int .u8 240),(.int .u8 240),(.int .u8 240),(.int .u8 240),(.int .u8 240),(.int .u8 240),(.int .u8 240),(.int .u8 240),(.int .u8 240),(.int .u8 240),(.int .u8 240),(.int .u8 240),(.int .u8 240),(.int .u8 240),(.int .u8 240),(.int .u8 240),(.int .u8 240),(.int .u8 240),(.int .u8 240),(.int .u8 240),(.int .u8 240),(.int .u8 240),(.int .u8 240),(.int .u8 240),(.int .u8 240),(.int .u8 240),(.int .u8 241),(.int .u8 241),(.int .u8 241),(.int .u8 241),(.int .u8 241),(.int .u8 241),(.int .u8 241),(.int .u8 241),(.int .u8 241),(.int .u8 241),(.int .u8 241),(.int .u8 241),(.int .u8 241),(.int .u8 241),(.int .u8 241),(.int .u8 241),(.int .u8 241),(.int .u8 241),(.int .u8 241),(.int .u8 241),(.int .u8 241),(.int .u8 241),(.int .u8 241),(.int .u8 241),(.int .u8 241),(.int .u8 241),(.int .u8 241),(.int .u8 241),(.int .u8 241),(.int .u8 241),(.int .u8 241),(.int .u8 241),(.int .u8 241),(.int .u8 241),(.int .u8 241),(.int .u8 241),(.int .u8 241),(.int .u8 241),(.int .u8 241),(.int .u8 241),(.int .u8 241),(.int .u8 241),(.int .u8 241),(.int .u8 241),(.int .u8 241),(.int .u8 241),(.int .u8 241),(.int .u8 241),(.int .u8 241),(.int .u8 241),(.int .u8 241),(.int .u8 241),(.int .u8 241),(.int .u8 241),(.int .u8 241),(.int .u8 241),(.int .u8 241),(.int .u8 241),(.int .u8 241),(.int .u8 241),(.int .u8 241),(.int .u8 241),(.int .u8 241),(.int .u8 241),(.int .u8 241),(.int .u8 241),(.int .u8 2),(.int .u8 2),(.int .u8 2),(.int .u8 2),(.int .u8 2),(.int .u8 2),(.int .u8 2),(.int .u8 2),(.int .u8 2),(.int .u8 2),(.int .u8 2),(.int .u8 2),(.int .u8 2),(.int .u8 2),(.int .u8 2),(.int .u8 2),(.int .u8 2),(.int .u8 2),(.int .u8 2),(.int .u8 2),(.int .u8 2),(.int .u8 2),(.int .u8 2),(.int .u8 2),(.int .u8 2),(.int .u8 2),(.int .u8 2),(.int .u8 2),(.int .u8 2),(.int .u8 2),(.int .u8 19),(.int .u8 3),(.int .u8 3),(.int .u8 3),(.int .u8 3),(.int .u8 3),(.int .u8 3),(.int .u8 3),(.int .u8 3),(.int .u8 3),(.int .u8 3),(.int .u8 3),(.int .u8 3),(.int .u8 35),(.int .u8 3),(.int .u8 3),(.int .u8 52),(.int .u8 4),(.int .u8 4),(.int .u8 4),(.int .u8 68),(.int .u8 241),(.int .u8 241),(.int .u8 241),(.int .u8 241),(.int .u8 241),(.int .u8 241),(.int .u8 241),(.int .u8 241),(.int .u8 241),(.int .u8 241),(.int .u8 241)]
def g1:List IV:=[(.int .u8 128),(.int .u8 191),(.int .u8 160),(.int .u8 191),(.int .u8 128),(.int .u8 159),(.int .u8 144),(.int .u8 191),(.int .u8 128),(.int .u8 143),(.int .u8 0),(.int .u8 0),(.int .u8 0),(.int .u8 0),(.int .u8 0),(.int .u8 0),(.int .u8 0),(.int .u8 0),(.int .u8 0),(.int .u8 0),(.int .u8 0),(.int .u8 0),(.int .u8 0),(.int .u8 0),(.int .u8 0),(.int .u8 0),(.int .u8 0),(.int .u8 0),(.int .u8 0),(.int .u8 0),(.int .u8 0),(.int .u8 0)]
def tbl:List (Option aV):=[none,none,none,some t3,none,none,some t6,some t7,some t8,some t9,some t10,none,some t12,none,some t14,some t15,none,none,some t18,some t19,some t20,some t21,some t22,some t23,some t24,some t25,some t26,some t27,some t28,some t29,none,some t31,none,some t33,some t34,some t35,some t36,some t37,some t38,some t39,some t40,some t41,none,none,none,none,none,none,none,none,some t50,some t51,some t52,some t53,some t54,some t55,some t56,some t57,some t58,some t59,some t60,some t61,some t62,some t63,some t64,some t65,some t66,none,none,none,none,none,none,none,some t74,some t75,some t76,some t77,some t78,some t79,some t80,some t81,some t82,some t83,some t84,some t85,some t86,some t87,some t88,some t89,some t90,some t91,none,none,none,none,none,none,none,none,some t100,some t101,some t102,some t103,some t104,some t105,some t106,some t107,some t108,some t109,some t110,some t111,some t112,some t113,some t114,some t115,none,none,none,none,none,none,none,none,none,some t125,some t126,some t127,some t128,some t129,some t130,some t131,some t132,some t133,some t134,none,none,none,none,some t139,some t140,some t141,some t142,none,none,none,none,none,some t148,none,none,none,none,none,none,none,some t156,none,none]
def gtbl:List (Option (List IV)):=[some g0,some g1]
def K:TM.bI:=⟨fun k=>tbl.getD k none,fun g=>gtbl.getD g none,fun f=>aAu prims f⟩
def bQ (k : Nat) (tf : aV) : Prop := ∃ (A : Ann) (fn : Func), Tryz.prog.funcs[k]? = some fn ∧ fn.name ≠ "runtime.NumGoroutine" ∧ oR Tryz.prog opts A fn = some tf
theorem m_ {k : Nat} {t : aV} (a : Ann) {f : Func} (h : Tryz.prog.funcs[k]? = some f) (n : (f.name == "runtime.NumGoroutine") = false := by kernel_rfl) (c : oR Tryz.prog opts a f = some t := by kernel_rfl) : bQ k t := ⟨a,f,h,fun e => by rw [e] at n; simp at n,c⟩
theorem q3:bQ 3 t3:=m_ a3 Tryz.func3
theorem q6:bQ 6 t6:=m_ a6 Tryz.func6
theorem q7:bQ 7 t7:=m_ a7 Tryz.func7
theorem q8:bQ 8 t8:=m_ a8 Tryz.func8
theorem q9:bQ 9 t9:=m_ a9 Tryz.func9
theorem q10:bQ 10 t10:=m_ a10 Tryz.func10
theorem q12:bQ 12 t12:=m_ a12 Tryz.func12
theorem q14:bQ 14 t14:=m_ a14 Tryz.func14
theorem q15:bQ 15 t15:=m_ a15 Tryz.func15
theorem q18:bQ 18 t18:=m_ a18 Tryz.func18
theorem q19:bQ 19 t19:=m_ a19 Tryz.func19
theorem q20:bQ 20 t20:=m_ a20 Tryz.func20
theorem q21:bQ 21 t21:=m_ a21 Tryz.func21
theorem q22:bQ 22 t22:=m_ a22 Tryz.func22
theorem q23:bQ 23 t23:=m_ a23 Tryz.func23
theorem q24:bQ 24 t24:=m_ a24 Tryz.func24
theorem q25:bQ 25 t25:=m_ a25 Tryz.func25
theorem q26:bQ 26 t26:=m_ a26 Tryz.func26
theorem q27:bQ 27 t27:=m_ a27 Tryz.func27
theorem q28:bQ 28 t28:=m_ a28 Tryz.func28
theorem q29:bQ 29 t29:=m_ a29 Tryz.func29
theorem q31:bQ 31 t31:=m_ a31 Tryz.func31
theorem q33:bQ 33 t33:=m_ a33 Tryz.func33
theorem q34:bQ 34 t34:=m_ a34 Tryz.func34
theorem q35:bQ 35 t35:=m_ a35 Tryz.func35
theorem q36:bQ 36 t36:=m_ a36 Tryz.func36
theorem q37:bQ 37 t37:=m_ a37 Tryz.func37
theorem q38:bQ 38 t38:=m_ a38 Tryz.func38
theorem q39:bQ 39 t39:=m_ a39 Tryz.func39
theorem q40:bQ 40 t40:=m_ a40 Tryz.func40
theorem q41:bQ 41 t41:=m_ a41 Tryz.func41
theorem q50:bQ 50 t50:=m_ a50 Tryz.func50
theorem q51:bQ 51 t51:=m_ a51 Tryz.func51
theorem q52:bQ 52 t52:=m_ a52 Tryz.func52
theorem q53:bQ 53 t53:=m_ a53 Tryz.func53
theorem q54:bQ 54 t54:=m_ a54 Tryz.func54
theorem q55:bQ 55 t55:=m_ a55 Tryz.func55
theorem q56:bQ 56 t56:=m_ a56 Tryz.func56
theorem q57:bQ 57 t57:=m_ a57 Tryz.func57
theorem q58:bQ 58 t58:=m_ a58 Tryz.func58
theorem q59:bQ 59 t59:=m_ a59 Tryz.func59
theorem q60:bQ 60 t60:=m_ a60 Tryz.func60
theorem q61:bQ 61 t61:=m_ a61 Tryz.func61
theorem q62:bQ 62 t62:=m_ a62 Tryz.func62
theorem q63:bQ 63 t63:=m_ a63 Tryz.func63
theorem q64:bQ 64 t64:=m_ a64 Tryz.func64
theorem q65:bQ 65 t65:=m_ a65 Tryz.func65
theorem q66:bQ 66 t66:=m_ a66 Tryz.func66
theorem q74:bQ 74 t74:=m_ a74 Tryz.func74
theorem q75:bQ 75 t75:=m_ a75 Tryz.func75
theorem q76:bQ 76 t76:=m_ a76 Tryz.func76
theorem q77:bQ 77 t77:=m_ a77 Tryz.func77
theorem q78:bQ 78 t78:=m_ a78 Tryz.func78
theorem q79:bQ 79 t79:=m_ a79 Tryz.func79
theorem q80:bQ 80 t80:=m_ a80 Tryz.func80
theorem q81:bQ 81 t81:=m_ a81 Tryz.func81
theorem q82:bQ 82 t82:=m_ a82 Tryz.func82
theorem q83:bQ 83 t83:=m_ a83 Tryz.func83
theorem q84:bQ 84 t84:=m_ a84 Tryz.func84
theorem q85:bQ 85 t85:=m_ a85 Tryz.func85
theorem q86:bQ 86 t86:=m_ a86 Tryz.func86
theorem q87:bQ 87 t87:=m_ a87 Tryz.func87
theorem q88:bQ 88 t88:=m_ a88 Tryz.func88
theorem q89:bQ 89 t89:=m_ a89 Tryz.func89
theorem q90:bQ 90 t90:=m_ a90 Tryz.func90
theorem q91:bQ 91 t91:=m_ a91 Tryz.func91
theorem q100:bQ 100 t100:=m_ a100 Tryz.func100
theorem q101:bQ 101 t101:=m_ a101 Tryz.func101
theorem q102:bQ 102 t102:=m_ a102 Tryz.func102
theorem q103:bQ 103 t103:=m_ a103 Tryz.func103
theorem q104:bQ 104 t104:=m_ a104 Tryz.func104
theorem q105:bQ 105 t105:=m_ a105 Tryz.func105
theorem q106:bQ 106 t106:=m_ a106 Tryz.func106
theorem q107:bQ 107 t107:=m_ a107 Tryz.func107
theorem q108:bQ 108 t108:=m_ a108 Tryz.func108
theorem q109:bQ 109 t109:=m_ a109 Tryz.func109
theorem q110:bQ 110 t110:=m_ a110 Tryz.func110
theorem q111:bQ 111 t111:=m_ a111 Tryz.func111
theorem q112:bQ 112 t112:=m_ a112 Tryz.func112
theorem q113:bQ 113 t113:=m_ a113 Tryz.func113
theorem q114:bQ 114 t114:=m_ a114 Tryz.func114
theorem q115:bQ 115 t115:=m_ a115 Tryz.func115
theorem q125:bQ 125 t125:=m_ a125 Tryz.func125
theorem q126:bQ 126 t126:=m_ a126 Tryz.func126
theorem q127:bQ 127 t127:=m_ a127 Tryz.func127
theorem q128:bQ 128 t128:=m_ a128 Tryz.func128
theorem q129:bQ 129 t129:=m_ a129 Tryz.func129
theorem q130:bQ 130 t130:=m_ a130 Tryz.func130
theorem q131:bQ 131 t131:=m_ a131 Tryz.func131
theorem q132:bQ 132 t132:=m_ a132 Tryz.func132
theorem q133:bQ 133 t133:=m_ a133 Tryz.func133
theorem q134:bQ 134 t134:=m_ a134 Tryz.func134
theorem q139:bQ 139 t139:=m_ a139 Tryz.func139
theorem q140:bQ 140 t140:=m_ a140 Tryz.func140
theorem q141:bQ 141 t141:=m_ a141 Tryz.func141
theorem q142:bQ 142 t142:=m_ a142 Tryz.func142
theorem q148:bQ 148 t148:=m_ a148 Tryz.func148
theorem q156:bQ 156 t156:=m_ a156 Tryz.func156
theorem bIq:aCe bQ 0 tbl:=⟨q3,q6,q7,q8,q9,q10,q12,q14,q15,q18,q19,q20,q21,q22,q23,q24,q25,q26,q27,q28,q29,q31,q33,q34,q35,q36,q37,q38,q39,q40,q41,q50,q51,q52,q53,q54,q55,q56,q57,q58,q59,q60,q61,q62,q63,q64,q65,q66,q74,q75,q76,q77,q78,q79,q80,q81,q82,q83,q84,q85,q86,q87,q88,q89,q90,q91,q100,q101,q102,q103,q104,q105,q106,q107,q108,q109,q110,q111,q112,q113,q114,q115,q125,q126,q127,q128,q129,q130,q131,q132,q133,q134,q139,q140,q141,q142,q148,q156,trivial⟩
theorem kok:KOK Tryz.prog opts K:=⟨fun k tf h=>aCf bIq k tf h,fun f p h=>aRp (aT0 opts K) h,by kernel_rfl⟩
end Go.Proofs.YtjbpbohpmfpoiaaGreatDoor
