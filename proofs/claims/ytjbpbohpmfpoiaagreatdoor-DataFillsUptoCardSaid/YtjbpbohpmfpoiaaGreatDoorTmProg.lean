/- The functions of this seat, compiled for the evaluator TM, a part. By program. Condition: none. -/
import Derived.Test.YtjbpbohpmfpoiaaGreatDoorTmProg1
set_option maxRecDepth 100000
set_option linter.unusedVariables false
namespace Go.Proofs.YtjbpbohpmfpoiaaGreatDoor
open Go Go.TM
def a101:Ann:=⟨[0,1,4,7],[],[],[],[]⟩
def t101:aN:=⟨2,4,[.loc 2],
(h_ [s_ 2 (.mov (.cst (.str [])))]
(.seq (.seq (g_ [v_ l_0,v_ l_1,s_ 3 (.call true false 126 [r_0,r_1])])
(.cond l_3
(h_ [v_ l_0,v_ l_1,o_ (.len .str r_1),o_ (.slice .str r_0 (some r_2) none none),w_ 2 r_3]
.ret)
.skip))
(h_ [v_ l_0,w_ 2 r_0]
.ret)))⟩
def a102:Ann:=⟨[0,1,4],[],[],[],[]⟩
def t102:aN:=⟨2,3,[.loc 2],
(h_ [w_ 2 (i_ 0)]
(h_ [v_ l_0,v_ l_1,o_ (.call false false 127 [r_0,r_1,T_]),w_ 2 r_2]
.ret))⟩
def a103:Ann:=⟨[0,2,3,5,6,7,8,9,13],[],[],[],[]⟩
def t103L0:aL:=(.seq (g_ [s_ 7 (.bin .lss l_6 l_5)])
(.seq (.cond l_7
.skip
(.exit 0))
(.seq (.block 1
(h_ [o_ (.indexAddrS 1 l_4 l_6),d_ r_0,w_ 3 r_1]
(.seq (.seq (g_ [v_ l_3,s_ 8 (.bin .lss r_0 (.cst (.int .u8 128)))])
(.cond l_8
(h_ [v_ l_3,o_ (.conv (.toInt .i32) r_0),w_ 1 r_1,w_ 2 (i_ 1)]
.ret)
.skip))
(.exit 0))))
(g_ [o_ (.bin .add l_6 (i_ 1)),w_ 6 r_0]))))
def t103:aN:=⟨1,9,[.loc 1,.loc 2],
(h_ [s_ 1 (.mov (.cst (.int .i32 0))),w_ 2 (i_ 0)]
(.seq (.seq (g_ [w_ 4 l_0,s_ 5 (.len .sl r_0),w_ 6 (i_ 0)])
(.block 0
(.loop t103L0)))
(h_ [v_ l_0,c_ 128 [r_0],v_ r_1,o_ (.extract 0 r_2),o_ (.extract 1 r_2),w_ 1 r_3,w_ 2 r_4]
.ret)))⟩
def a104:Ann:=⟨[0,1,4],[],[],[],[]⟩
def t104:aN:=⟨2,3,[.loc 2],
(h_ [w_ 2 F_]
(h_ [v_ l_0,o_ (.bin .eql r_0 (.cst (.int .i32 65533))),v_ r_1,y_ 2 (.mov l_1),y_ 2 (.bin .leq r_3 (i_ 1)),o_ (.pick r_2 r_4 F_),w_ 2 r_5]
.ret))⟩
def a105:Ann:=⟨[0,1,4,13],[],[],[],[]⟩
def t105L0:aL:=(.seq (.seq (g_ [v_ l_0,o_ (.len .str r_0),o_ (.bin .gtr r_1 (i_ 0)),v_ r_2,y_ 3 (.mov l_0),y_ 3 (.indexS r_4 (i_ 0)),y_ 3 (.mov l_1),y_ 3 (.bin .eql r_5 r_6),s_ 3 (.pick r_3 r_7 F_)])
(.cond l_3
.skip
(.exit 0)))
(.block 1
(g_ [v_ l_0,o_ (.slice .str r_0 (some (i_ 1)) none none),w_ 0 r_1])))
def t105:aN:=⟨2,4,[.loc 2],
(h_ [s_ 2 (.mov (.cst (.str [])))]
(.seq (.block 0
(.loop t105L0))
(h_ [v_ l_0,w_ 2 r_0]
.ret)))⟩
def a106:Ann:=⟨[0,2,3,4,5,9,16],[2],[],[],[]⟩
def t106L0:aL:=(.seq (.seq (g_ [v_ l_3,v_ l_0,o_ (.len .str r_1),s_ 5 (.bin .lss r_0 r_2)])
(.cond l_5
.skip
(.exit 0)))
(.seq (.block 1
(h_ [v_ l_0,v_ l_3,o_ (.indexS r_0 r_1),w_ 4 r_2]
(.seq (.seq (g_ [v_ l_4,s_ 6 (.bin .geq r_0 (.cst (.int .u8 128)))])
(.cond l_6
(h_ [o_ (.loadN 256 l_1),o_ (.store 256 l_1 r_0),w_ 2 F_]
.ret)
.skip))
(g_ [v_ l_4,o_ (.indexAddrA 256 1 l_1 r_0),o_ (.store 1 r_1 T_)]))))
(g_ [v_ l_3,o_ (.bin .add r_0 (i_ 1)),w_ 3 r_1])))
def t106:aN:=⟨1,7,[.cell 1 256 true,.loc 2],
(h_ [o_ (.allocL 1 [(.bool false),(.bool false),(.bool false),(.bool false),(.bool false),(.bool false),(.bool false),(.bool false),(.bool false),(.bool false),(.bool false),(.bool false),(.bool false),(.bool false),(.bool false),(.bool false),(.bool false),(.bool false),(.bool false),(.bool false),(.bool false),(.bool false),(.bool false),(.bool false),(.bool false),(.bool false),(.bool false),(.bool false),(.bool false),(.bool false),(.bool false),(.bool false),(.bool false),(.bool false),(.bool false),(.bool false),(.bool false),(.bool false),(.bool false),(.bool false),(.bool false),(.bool false),(.bool false),(.bool false),(.bool false),(.bool false),(.bool false),(.bool false),(.bool false),(.bool false),(.bool false),(.bool false),(.bool false),(.bool false),(.bool false),(.bool false),(.bool false),(.bool false),(.bool false),(.bool false),(.bool false),(.bool false),(.bool false),(.bool false),(.bool false),(.bool false),(.bool false),(.bool false),(.bool false),(.bool false),(.bool false),(.bool false),(.bool false),(.bool false),(.bool false),(.bool false),(.bool false),(.bool false),(.bool false),(.bool false),(.bool false),(.bool false),(.bool false),(.bool false),(.bool false),(.bool false),(.bool false),(.bool false),(.bool false),(.bool false),(.bool false),(.bool false),(.bool false),(.bool false),(.bool false),(.bool false),(.bool false),(.bool false),(.bool false),(.bool false),(.bool false),(.bool false),(.bool false),(.bool false),(.bool false),(.bool false),(.bool false),(.bool false),(.bool false),(.bool false),(.bool false),(.bool false),(.bool false),(.bool false),(.bool false),(.bool false),(.bool false),(.bool false),(.bool false),(.bool false),(.bool false),(.bool false),(.bool false),(.bool false),(.bool false),(.bool false),(.bool false),(.bool false),(.bool false),(.bool false),(.bool false),(.bool false),(.bool false),(.bool false),(.bool false),(.bool false),(.bool false),(.bool false),(.bool false),(.bool false),(.bool false),(.bool false),(.bool false),(.bool false),(.bool false),(.bool false),(.bool false),(.bool false),(.bool false),(.bool false),(.bool false),(.bool false),(.bool false),(.bool false),(.bool false),(.bool false),(.bool false),(.bool false),(.bool false),(.bool false),(.bool false),(.bool false),(.bool false),(.bool false),(.bool false),(.bool false),(.bool false),(.bool false),(.bool false),(.bool false),(.bool false),(.bool false),(.bool false),(.bool false),(.bool false),(.bool false),(.bool false),(.bool false),(.bool false),(.bool false),(.bool false),(.bool false),(.bool false),(.bool false),(.bool false),(.bool false),(.bool false),(.bool false),(.bool false),(.bool false),(.bool false),(.bool false),(.bool false),(.bool false),(.bool false),(.bool false),(.bool false),(.bool false),(.bool false),(.bool false),(.bool false),(.bool false),(.bool false),(.bool false),(.bool false),(.bool false),(.bool false),(.bool false),(.bool false),(.bool false),(.bool false),(.bool false),(.bool false),(.bool false),(.bool false),(.bool false),(.bool false),(.bool false),(.bool false),(.bool false),(.bool false),(.bool false),(.bool false),(.bool false),(.bool false),(.bool false),(.bool false),(.bool false),(.bool false),(.bool false),(.bool false),(.bool false),(.bool false),(.bool false),(.bool false),(.bool false),(.bool false),(.bool false),(.bool false),(.bool false),(.bool false),(.bool false),(.bool false),(.bool false),(.bool false),(.bool false),(.bool false),(.bool false),(.bool false),(.bool false),(.bool false),(.bool false),(.bool false),(.bool false),(.bool false),(.bool false)]),w_ 2 F_]
(.seq (.seq (g_ [w_ 3 (i_ 0)])
(.block 0
(.loop t106L0)))
(h_ [o_ (.loadN 256 l_1),o_ (.store 256 l_1 r_0),w_ 2 T_]
.ret)))⟩
def a107:Ann:=⟨[0,1,4,7,12],[],[],[],[]⟩
def t107L0:aL:=(.seq (.seq (g_ [v_ l_0,o_ (.len .str r_0),s_ 3 (.bin .gtr r_1 (i_ 0))])
(.cond l_3
.skip
(.exit 0)))
(.block 1
(.seq (.seq (g_ [v_ l_1,v_ l_0,o_ (.indexS r_1 (i_ 0)),o_ (.call false false 129 [r_0,r_2]),s_ 4 (.un .not r_3)])
(.cond l_4
(.exit 0)
.skip))
(g_ [v_ l_0,o_ (.slice .str r_0 (some (i_ 1)) none none),w_ 0 r_1]))))
def t107:aN:=⟨2,5,[.loc 2],
(h_ [s_ 2 (.mov (.cst (.str [])))]
(.seq (.block 0
(.loop t107L0))
(h_ [v_ l_0,w_ 2 r_0]
.ret)))⟩
def a108:Ann:=⟨[0,1,4,5,6,9,18],[],[],[],[]⟩
def t108L0:aL:=(.seq (.seq (g_ [v_ l_0,o_ (.len .str r_0),s_ 5 (.bin .gtr r_1 (i_ 0))])
(.cond l_5
.skip
(.exit 0)))
(.block 1
(h_ [v_ l_0,c_ 130 [r_0],v_ r_1,o_ (.extract 0 r_2),o_ (.extract 1 r_2),w_ 3 r_3,w_ 4 r_4]
(.seq (.seq (g_ [v_ l_1,v_ l_3,c_ 131 [r_0,r_1],s_ 6 (.un .not r_2)])
(.cond l_6
(.exit 0)
.skip))
(g_ [v_ l_0,v_ l_4,o_ (.slice .str r_0 (some r_1) none none),w_ 0 r_2])))))
def t108:aN:=⟨2,7,[.loc 2],
(h_ [s_ 2 (.mov (.cst (.str [])))]
(.seq (.block 0
(.loop t108L0))
(h_ [v_ l_0,w_ 2 r_0]
.ret)))⟩
def a116:Ann:=⟨[0,2],[],[],[],[]⟩
def t116:aN:=⟨1,2,[.loc 1],
(h_ [s_ 1 (.mov (.cst (.str [])))]
(h_ [v_ l_0,c_ 135 [r_0,(i_ 10)],w_ 1 r_1]
.ret))⟩
def a117:Ann:=⟨[0,1,4,5,6,7,8,9],[],[],[],[]⟩
def t117:aN:=⟨2,8,[.loc 2,.loc 3],
(h_ [s_ 2 (.mov (.cst (.int .u64 0))),s_ 3 (.mov (.cst (.int .u64 0)))]
(.seq (.cond F_
(h_ [v_ l_0,o_ (.conv (.toInt .u32) r_0),v_ l_1,o_ (.conv (.toInt .u32) r_2),c_ 136 [r_1,r_3],v_ r_4,o_ (.extract 0 r_5),o_ (.extract 1 r_5),w_ 4 r_6,w_ 5 r_7]
(h_ [v_ l_4,o_ (.conv (.toInt .u64) r_0),v_ l_5,o_ (.conv (.toInt .u64) r_2),w_ 2 r_1,w_ 3 r_3]
.ret))
.skip)
(h_ [v_ l_0,v_ l_1,c_ 137 [r_0,r_1],v_ r_2,o_ (.extract 0 r_3),o_ (.extract 1 r_3),w_ 6 r_4,w_ 7 r_5]
(h_ [v_ l_6,v_ l_7,w_ 2 r_0,w_ 3 r_1]
.ret))))⟩
def a118:Ann:=⟨[0,1,4],[],[],[],[]⟩
def t118:aN:=⟨2,3,[.loc 2],
(h_ [w_ 2 F_]
(h_ [v_ l_0,v_ l_1,c_ 126 [r_0,r_1],w_ 2 r_2]
.ret))⟩
def a119:Ann:=⟨[0,1,7,21],[],[],[],[(3,⟨[0,1,3,7,15,0,32,96,224,480,1023,0,4095],[0,1,2,3,4,5,6,7,8,9,10,11,12],[]⟩)]⟩
def t119:aN:=⟨2,4,[],
(h_ [v_ l_0,o_ (.prim 98 [r_0])]
(.seq (.seq (g_ [v_ l_1,s_ 2 (.bin .lss r_0 (i_ 0))])
(.cond l_2
(g_ [o_ (.bad),o_ (.bad)])
.skip))
(.seq (.draw [0,1,2,3,4,5,6,7,8,9,10,11,12] [] [v_ l_0,o_ (.nilCheck r_0),f_ 1 r_1,d_ r_2,o_ (.cap r_3),v_ l_0,o_ (.nilCheck r_5),f_ 1 r_6,d_ r_7,o_ (.len .sl r_8),o_ (.bin .sub r_4 r_9),v_ l_1,s_ 3 (.bin .lss gR jE)])
(.cond l_3
(g_ [v_ l_0,v_ l_1,o_ (.call false false 138 [r_0,r_1])])
.skip))))⟩
def a120:Ann:=⟨[0,1,4,5],[],[],[],[]⟩
def t120:aN:=⟨2,4,[.loc 2,.loc 3],
(h_ [w_ 2 (i_ 0),s_ 3 (.mov (.cst .nili))]
(h_ [v_ l_0,o_ (.prim 98 [r_0])]
(h_ [v_ l_0,v_ l_0,o_ (.nilCheck r_1),f_ 1 r_2,d_ r_3,v_ l_1,o_ (.append false 1 1 5 r_4 r_5),o_ (.nilCheck r_0),f_ 1 r_7,o_ (.store 1 r_8 r_6)]
(h_ [v_ l_1,o_ (.len .str r_0),w_ 2 r_1,s_ 3 (.mov (.cst .nili))]
.ret))))⟩
def a121:Ann:=⟨[0,2],[],[],[],[]⟩
def t121:aN:=⟨1,2,[.loc 1],
(h_ [w_ 1 (i_ 0)]
(h_ [v_ l_0,o_ (.nilCheck r_0),f_ 1 r_1,d_ r_2,o_ (.len .sl r_3),w_ 1 r_4]
.ret))⟩
def a122:Ann:=⟨[0,1,3,8,18],[],[],[],[]⟩
def t122L0:aL:=(.seq (.seq (g_ [v_ l_2,s_ 3 (.bin .geq r_0 (i_ 0))])
(.cond l_3
.skip
(.exit 0)))
(.seq (.block 1
(h_ [v_ l_0,v_ l_2,d_ l_1,v_ l_2,o_ (.indexAddrS 5 r_2 r_3),o_ (.loadN 5 r_4),o_ (.callv r_0 [r_1,r_5]),s_ 4 (.un .not r_6)]
(.cond l_4
.ret
.skip)))
(g_ [v_ l_2,o_ (.bin .sub r_0 (i_ 1)),w_ 2 r_1])))
def t122:aN:=⟨2,5,[],
(h_ [d_ l_1,o_ (.len .sl r_0),o_ (.bin .sub r_1 (i_ 1)),w_ 2 r_2]
(.block 0
(.loop t122L0)))⟩
def a124:Ann:=⟨[0,1,4,5,11,25,50],[],[],[],[]⟩
def t124:aN:=⟨2,7,[.loc 2],
(h_ [w_ 2 N_]
(h_ [v_ l_1,o_ (.conv (.toInt .u32) r_0),w_ 3 r_1]
(.block 0
(h_ [v_ l_3,o_ (.bin .leq r_0 (.cst (.int .u32 2047))),w_ 4 r_1]
(.cond l_4
(h_ [v_ l_0,v_ l_1,o_ (.bin .shr r_1 (.cst (.int .u64 6))),o_ (.conv (.toInt .u8) r_2),o_ (.bin .or (.cst (.int .u8 192)) r_3),v_ l_1,o_ (.conv (.toInt .u8) r_5),o_ (.bin .and r_6 (.cst (.int .u8 63))),o_ (.bin .or (.cst (.int .u8 128)) r_7),o_ (.lit false [(.int .u8 0)] 2 [(0,r_4),(1,r_8)]),o_ (.append false 1 1 5 r_0 r_9),w_ 2 gR]
.ret)
(.seq (.seq (g_ [v_ l_3,o_ (.bin .lss r_0 (.cst (.int .u32 55296))),w_ 5 r_1])
(.cond l_5
.skip
(g_ [v_ l_3,o_ (.bin .lss (.cst (.int .u32 57343)) r_0),v_ r_1,y_ 2 (.mov l_3),y_ 2 (.bin .leq r_3 (.cst (.int .u32 65535))),o_ (.pick r_2 r_4 F_),w_ 5 r_5])))
(.cond l_5
(h_ [v_ l_0,v_ l_1,o_ (.bin .shr r_1 (.cst (.int .u64 12))),o_ (.conv (.toInt .u8) r_2),o_ (.bin .or (.cst (.int .u8 224)) r_3),v_ l_1,o_ (.bin .shr r_5 (.cst (.int .u64 6))),o_ (.conv (.toInt .u8) r_6),o_ (.bin .and r_7 (.cst (.int .u8 63))),o_ (.bin .or (.cst (.int .u8 128)) r_8),v_ l_1,o_ (.conv (.toInt .u8) gR),o_ (.bin .and jE (.cst (.int .u8 63))),o_ (.bin .or (.cst (.int .u8 128)) nP),o_ (.lit false [(.int .u8 0)] 3 [(0,r_4),(1,r_9),(2,mM)]),o_ (.append false 1 1 5 r_0 wH),w_ 2 aA0]
.ret)
(h_ [v_ l_3,o_ (.bin .gtr r_0 (.cst (.int .u32 65535))),v_ r_1,y_ 2 (.mov l_3),y_ 2 (.bin .leq r_3 (.cst (.int .u32 1114111))),o_ (.pick r_2 r_4 F_),w_ 6 r_5]
(.cond l_6
(h_ [v_ l_0,v_ l_1,o_ (.bin .shr r_1 (.cst (.int .u64 18))),o_ (.conv (.toInt .u8) r_2),o_ (.bin .or (.cst (.int .u8 240)) r_3),v_ l_1,o_ (.bin .shr r_5 (.cst (.int .u64 12))),o_ (.conv (.toInt .u8) r_6),o_ (.bin .and r_7 (.cst (.int .u8 63))),o_ (.bin .or (.cst (.int .u8 128)) r_8),v_ l_1,o_ (.bin .shr gR (.cst (.int .u64 6))),o_ (.conv (.toInt .u8) jE),o_ (.bin .and nP (.cst (.int .u8 63))),o_ (.bin .or (.cst (.int .u8 128)) mM),v_ l_1,o_ (.conv (.toInt .u8) aA0),o_ (.bin .and aEm (.cst (.int .u8 63))),o_ (.bin .or (.cst (.int .u8 128)) aEn),o_ (.lit false [(.int .u8 0)] 4 [(0,r_4),(1,r_9),(2,wH),(3,aQi)]),o_ (.append false 1 1 5 r_0 aWy),w_ 2 bBp]
.ret)
(h_ [v_ l_0,o_ (.lit false [(.int .u8 0)] 3 [(0,(.cst (.int .u8 239))),(1,(.cst (.int .u8 191))),(2,(.cst (.int .u8 189)))]),o_ (.append false 1 1 5 r_0 r_1),w_ 2 r_2]
.ret))))))))))⟩
def a125:Ann:=⟨[0,1,2],[],[],[],[]⟩
def t125:aN:=⟨1,3,[.loc 2],
(h_ [s_ 1 (.boxH 69 l_0),s_ 2 (.mov (.cst .nilf))]
(h_ [o_ (.mkFn 139 [] [l_1]),w_ 2 r_0]
.ret))⟩
def a126:Ann:=⟨[0,1,4],[],[],[],[]⟩
def t126:aN:=⟨2,3,[.loc 2],
(h_ [w_ 2 F_]
(h_ [v_ l_0,o_ (.len .str r_0),v_ l_1,o_ (.len .str r_2),o_ (.bin .geq r_1 r_3),v_ r_4,y_ 5 (.mov l_0),y_ 5 (.mov l_1),y_ 5 (.len .str r_7),y_ 5 (.slice .str r_6 none (some r_8) none),y_ 5 (.mov l_1),y_ 5 (.bin .eql r_9 gR),o_ (.pick r_5 jE F_),w_ 2 nP]
.ret))⟩
def a127:Ann:=⟨[0,1,2,6,7,8,10,11,12,19],[],[],[],[]⟩
def t127L0:aL:=(.seq (g_ [s_ 7 (.nextS l_6),s_ 8 (.extract 0 r_0)])
(.seq (.cond l_8
.skip
(.exit 0))
(.block 1
(h_ [o_ (.extract 1 l_7),o_ (.extract 2 l_7),w_ 4 r_0,w_ 5 r_1]
(h_ [v_ l_1,v_ l_5,o_ (.callv r_0 [r_1]),v_ l_2,s_ 9 (.eqB false .bool r_2 r_3)]
(.cond l_9
(h_ [v_ l_4,w_ 3 r_0]
.ret)
.skip))))))
def t127:aN:=⟨3,10,[.loc 3],
(h_ [w_ 3 (i_ 0)]
(.seq (.seq (g_ [v_ l_0,s_ 6 (.range true r_0)])
(.block 0
(.loop t127L0)))
(h_ [s_ 3 (.mov (i_ (-1)))]
.ret)))⟩
def a128:Ann:=⟨[0,2,3,4,5,6,7,8,9,10,11,12,16,24,47,60,62,79,81,103],[9],[],[],[]⟩
def t128:aN:=⟨1,20,[.loc 1,.loc 2],
(h_ [s_ 1 (.mov (.cst (.int .i32 0))),w_ 2 (i_ 0)]
(h_ [v_ l_0,o_ (.len .sl r_0),w_ 3 r_1]
(.seq (.seq (g_ [v_ l_3,s_ 12 (.bin .lss r_0 (i_ 1))])
(.cond mN
(h_ [s_ 1 (.mov (.cst (.int .i32 65533))),w_ 2 (i_ 0)]
.ret)
.skip))
(h_ [v_ l_0,o_ (.indexAddrS 1 r_0 (i_ 0)),d_ r_1,w_ 4 r_2]
(h_ [v_ l_4,o_ (.indexAddrA 256 1 (.glob 0) r_0),d_ r_1,w_ 5 r_2]
(.seq (.seq (g_ [v_ l_5,s_ 13 (.bin .geq r_0 (.cst (.int .u8 240)))])
(.cond jV
(h_ [v_ l_5,o_ (.conv (.toInt .i32) r_0),o_ (.bin .shl r_1 (.cst (.int .u64 31))),o_ (.bin .shr r_2 (.cst (.int .u64 31))),w_ 6 r_3]
(h_ [v_ l_0,o_ (.indexAddrS 1 r_0 (i_ 0)),d_ r_1,o_ (.conv (.toInt .i32) r_2),v_ l_6,o_ (.bin .andNot r_3 r_4),v_ l_6,o_ (.bin .and (.cst (.int .i32 65533)) r_6),o_ (.bin .or r_5 r_7),w_ 1 r_8,w_ 2 (i_ 1)]
.ret))
.skip))
(h_ [v_ l_5,o_ (.bin .and r_0 (.cst (.int .u8 7))),o_ (.conv (.toInt .i64) r_1),w_ 7 r_2]
(h_ [v_ l_5,o_ (.bin .shr r_0 (.cst (.int .u64 4))),o_ (.indexAddrA 16 2 (.glob 1) r_1),o_ (.loadN 2 r_2),o_ (.allocL 8 [(.int .u8 0),(.int .u8 0)]),o_ (.store 2 r_4 r_3)]
(.seq (.seq (g_ [v_ l_3,v_ l_7,s_ 14 (.bin .lss r_0 r_1)])
(.cond uJ
(h_ [s_ 1 (.mov (.cst (.int .i32 65533))),w_ 2 (i_ 1)]
.ret)
.skip))
(h_ [v_ l_0,o_ (.indexAddrS 1 r_0 (i_ 1)),d_ r_1,w_ 9 r_2]
(.seq (.seq (g_ [v_ l_9,f_ 0 l_8,d_ r_1,o_ (.bin .lss r_0 r_2),v_ r_3,x_ 4 (.fieldAddr 1 l_8),x_ 4 (.load1 r_5),x_ 4 (.mov l_9),x_ 4 (.bin .lss r_6 r_7),s_ 15 (.pick r_4 T_ r_8)])
(.cond tF
(h_ [s_ 1 (.mov (.cst (.int .i32 65533))),w_ 2 (i_ 1)]
.ret)
.skip))
(.seq (.seq (g_ [v_ l_7,s_ 16 (.bin .leq r_0 (i_ 2))])
(.cond pQ
(h_ [v_ l_4,o_ (.bin .and r_0 (.cst (.int .u8 31))),o_ (.conv (.toInt .i32) r_1),o_ (.bin .shl r_2 (.cst (.int .u64 6))),v_ l_9,o_ (.bin .and r_4 (.cst (.int .u8 63))),o_ (.conv (.toInt .i32) r_5),o_ (.bin .or r_3 r_6),w_ 1 r_7,w_ 2 (i_ 2)]
.ret)
.skip))
(h_ [v_ l_0,o_ (.indexAddrS 1 r_0 (i_ 2)),d_ r_1,w_ 10 r_2]
(.seq (.seq (g_ [v_ eX,o_ (.bin .lss r_0 (.cst (.int .u8 128))),v_ r_1,x_ 2 (.mov eX),x_ 2 (.bin .lss (.cst (.int .u8 191)) r_3),s_ 17 (.pick r_2 T_ r_4)])
(.cond aH1
(h_ [s_ 1 (.mov (.cst (.int .i32 65533))),w_ 2 (i_ 1)]
.ret)
.skip))
(.seq (.seq (g_ [v_ l_7,s_ 18 (.bin .leq r_0 (i_ 3))])
(.cond wI
(h_ [v_ l_4,o_ (.bin .and r_0 (.cst (.int .u8 15))),o_ (.conv (.toInt .i32) r_1),o_ (.bin .shl r_2 (.cst (.int .u64 12))),v_ l_9,o_ (.bin .and r_4 (.cst (.int .u8 63))),o_ (.conv (.toInt .i32) r_5),o_ (.bin .shl r_6 (.cst (.int .u64 6))),o_ (.bin .or r_3 r_7),v_ eX,o_ (.bin .and r_9 (.cst (.int .u8 63))),o_ (.conv (.toInt .i32) gR),o_ (.bin .or r_8 jE),w_ 1 nP,w_ 2 (i_ 3)]
.ret)
.skip))
(h_ [v_ l_0,o_ (.indexAddrS 1 r_0 (i_ 3)),d_ r_1,w_ 11 r_2]
(.seq (.seq (g_ [v_ gJ,o_ (.bin .lss r_0 (.cst (.int .u8 128))),v_ r_1,x_ 2 (.mov gJ),x_ 2 (.bin .lss (.cst (.int .u8 191)) r_3),s_ 19 (.pick r_2 T_ r_4)])
(.cond tG
(h_ [s_ 1 (.mov (.cst (.int .i32 65533))),w_ 2 (i_ 1)]
.ret)
.skip))
(h_ [v_ l_4,o_ (.bin .and r_0 (.cst (.int .u8 7))),o_ (.conv (.toInt .i32) r_1),o_ (.bin .shl r_2 (.cst (.int .u64 18))),v_ l_9,o_ (.bin .and r_4 (.cst (.int .u8 63))),o_ (.conv (.toInt .i32) r_5),o_ (.bin .shl r_6 (.cst (.int .u64 12))),o_ (.bin .or r_3 r_7),v_ eX,o_ (.bin .and r_9 (.cst (.int .u8 63))),o_ (.conv (.toInt .i32) gR),o_ (.bin .shl jE (.cst (.int .u64 6))),o_ (.bin .or r_8 nP),v_ gJ,o_ (.bin .and wH (.cst (.int .u8 63))),o_ (.conv (.toInt .i32) aA0),o_ (.bin .or mM aEm),w_ 1 aEn,w_ 2 (i_ 4)]
.ret))))))))))))))))))⟩
def a129:Ann:=⟨[0,1,4],[],[],[],[]⟩
def t129:aN:=⟨2,3,[.loc 2],
(h_ [w_ 2 F_]
(h_ [v_ l_0,v_ l_1,o_ (.nilCheck r_0),o_ (.indexAddrA 256 1 r_2 r_1),d_ r_3,w_ 2 r_4]
.ret))⟩
def a130:Ann:=⟨[0,2,3,10],[],[],[],[]⟩
def t130:aN:=⟨1,4,[.loc 1,.loc 2],
(h_ [s_ 1 (.mov (.cst (.int .i32 0))),w_ 2 (i_ 0)]
(.seq (.seq (g_ [v_ l_0,o_ (.bin .neq r_0 (.cst (.str []))),v_ r_1,y_ 2 (.mov l_0),y_ 2 (.indexS r_3 (i_ 0)),y_ 2 (.bin .lss r_4 (.cst (.int .u8 128))),s_ 3 (.pick r_2 r_5 F_)])
(.cond l_3
(h_ [v_ l_0,o_ (.indexS r_0 (i_ 0)),o_ (.conv (.toInt .i32) r_1),w_ 1 r_2,w_ 2 (i_ 1)]
.ret)
(g_ [v_ l_0,c_ 140 [r_0],v_ r_1,o_ (.extract 0 r_2),o_ (.extract 1 r_2),w_ 1 r_3,w_ 2 r_4])))
.ret))⟩
def a131:Ann:=⟨[0,1,4],[],[],[],[]⟩
def t131:aN:=⟨2,3,[.loc 2],
(h_ [w_ 2 F_]
(h_ [v_ l_0,v_ l_1,c_ 141 [r_0,r_1],o_ (.bin .geq r_2 (i_ 0)),w_ 2 r_3]
.ret))⟩
def a135:Ann:=⟨[0,1,4,5,6,7,9,11,17,23,34],[],[],[],[]⟩
def t135:aN:=⟨2,11,[.loc 2],
(h_ [s_ 2 (.mov (.cst (.str [])))]
(.seq (.seq (g_ [v_ l_1,s_ 7 (.bin .eql r_0 (i_ 10))])
(.cond l_7
(.seq (.seq (g_ [v_ l_0,o_ (.bin .leq (i_ 0) r_0),v_ r_1,y_ 2 (.mov l_0),y_ 2 (.bin .lss r_3 (i_ 100)),s_ 8 (.pick r_2 r_4 F_)])
(.cond l_8
(h_ [v_ l_0,c_ 143 [r_0],w_ 2 r_1]
.ret)
.skip))
(h_ [s_ 3 (.allocH 217 [(.int .u8 0),(.int .u8 0),(.int .u8 0),(.int .u8 0),(.int .u8 0),(.int .u8 0),(.int .u8 0),(.int .u8 0),(.int .u8 0),(.int .u8 0),(.int .u8 0),(.int .u8 0),(.int .u8 0),(.int .u8 0),(.int .u8 0),(.int .u8 0),(.int .u8 0),(.int .u8 0),(.int .u8 0),(.int .u8 0),(.int .u8 0),(.int .u8 0),(.int .u8 0),(.int .u8 0)])]
(h_ [v_ l_0,o_ (.conv (.toInt .u64) r_0),w_ 4 r_1]
(.seq (.seq (g_ [v_ l_0,s_ 9 (.bin .lss r_0 (i_ 0))])
(.cond l_9
(g_ [v_ l_4,o_ (.un .neg r_0),w_ 4 r_1])
.skip))
(h_ [v_ l_4,c_ 144 [r_0],w_ 5 r_1]
(h_ [v_ l_5,o_ (.bin .add (i_ 1) r_0),o_ (.slice (.arr 24 1) l_3 (some (i_ 1)) (some r_1) none),v_ l_4,o_ (.call false false 145 [r_2,r_3])]
(.seq (.seq (g_ [v_ l_0,s_ 10 (.bin .lss r_0 (i_ 0))])
(.cond eX
(h_ [o_ (.indexAddrA 24 1 l_3 (i_ 0)),o_ (.store 1 r_0 (.cst (.int .u8 45)))]
(h_ [v_ l_5,o_ (.bin .add (i_ 1) r_0),o_ (.slice (.arr 24 1) l_3 none (some r_1) none),o_ (.conv .bytesStr r_2),w_ 2 r_3]
.ret))
.skip))
(h_ [v_ l_5,o_ (.bin .add (i_ 1) r_0),o_ (.slice (.arr 24 1) l_3 (some (i_ 1)) (some r_1) none),o_ (.conv .bytesStr r_2),w_ 2 r_3]
.ret))))))))
.skip))
(h_ [v_ l_0,o_ (.conv (.toInt .u64) r_0),v_ l_1,v_ l_0,o_ (.bin .lss r_3 (i_ 0)),c_ 146 [N_,r_1,r_2,r_4,F_],v_ r_5,o_ (.extract 0 r_6),o_ (.extract 1 r_6),v_ r_7,w_ 6 r_8]
(h_ [v_ l_6,w_ 2 r_0]
.ret))))⟩
def a136:Ann:=⟨[0,1,4,5,6],[],[],[],[]⟩
def t136:aN:=⟨2,5,[.loc 2,.loc 3],
(h_ [s_ 2 (.mov (.cst (.int .u32 0))),s_ 3 (.mov (.cst (.int .u32 0)))]
(h_ [v_ l_0,o_ (.conv (.toInt .u64) r_0),v_ l_1,o_ (.conv (.toInt .u64) r_2),o_ (.bin .mul r_1 r_3),w_ 4 r_4]
(h_ [v_ l_4,o_ (.bin .shr r_0 (.cst (.int .u64 32))),o_ (.conv (.toInt .u32) r_1),v_ l_4,o_ (.conv (.toInt .u32) r_3),w_ 2 r_2,w_ 3 r_4]
.ret)))⟩
def a137:Ann:=⟨[0,1,4,5,6,7,8,9,10,11,12,13],[],[],[],[]⟩
def t137:aN:=⟨2,12,[.loc 2,.loc 3],
(h_ [s_ 2 (.mov (.cst (.int .u64 0))),s_ 3 (.mov (.cst (.int .u64 0)))]
(h_ [v_ l_0,o_ (.bin .and r_0 (.cst (.int .u64 4294967295))),w_ 4 r_1]
(h_ [v_ l_0,o_ (.bin .shr r_0 (.cst (.int .u64 32))),w_ 5 r_1]
(h_ [v_ l_1,o_ (.bin .and r_0 (.cst (.int .u64 4294967295))),w_ 6 r_1]
(h_ [v_ l_1,o_ (.bin .shr r_0 (.cst (.int .u64 32))),w_ 7 r_1]
(h_ [v_ l_4,v_ l_6,o_ (.bin .mul r_0 r_1),w_ 8 r_2]
(h_ [v_ l_5,v_ l_6,o_ (.bin .mul r_0 r_1),v_ l_8,o_ (.bin .shr r_3 (.cst (.int .u64 32))),o_ (.bin .add r_2 r_4),w_ 9 r_5]
(h_ [v_ l_9,o_ (.bin .and r_0 (.cst (.int .u64 4294967295))),w_ 10 r_1]
(h_ [v_ l_9,o_ (.bin .shr r_0 (.cst (.int .u64 32))),w_ 11 r_1]
(h_ [v_ eX,v_ l_4,v_ l_7,o_ (.bin .mul r_1 r_2),o_ (.bin .add r_0 r_3),w_ 10 r_4]
(h_ [v_ l_5,v_ l_7,o_ (.bin .mul r_0 r_1),v_ gJ,o_ (.bin .add r_2 r_3),v_ eX,o_ (.bin .shr r_5 (.cst (.int .u64 32))),o_ (.bin .add r_4 r_6),w_ 2 r_7]
(h_ [v_ l_0,v_ l_1,o_ (.bin .mul r_0 r_1),w_ 3 r_2]
.ret))))))))))))⟩
def a138:Ann:=⟨[0,1,4],[],[],[],[(0,⟨[0,1,3,7,15,31,0,127,255,0,512,1536,3584,7680,16383,32767],[0,1,2,3,4,5,6,7,9,10,11,12,13],[(8,[12,13],[14,15])]⟩)]⟩
def t138:aN:=⟨2,3,[],
(.seq (.draw [0,1,2,3,4,5,6,7,9,10,11,12,13] [(8,[12,13],[14,15])] [v_ l_0,o_ (.nilCheck r_0),f_ 1 r_1,d_ r_2,o_ (.cap r_3),o_ (.bin .mul (i_ 2) r_4),v_ l_1,o_ (.bin .add r_5 r_6),o_ (.prim 147 [r_7]),v_ l_0,o_ (.nilCheck r_9),f_ 1 gR,d_ jE,o_ (.len .sl nP),o_ (.slice (.sl 1) r_8 none (some mM) none),w_ 2 wH])
(h_ [v_ l_2,v_ l_0,o_ (.nilCheck r_1),f_ 1 r_2,d_ r_3,o_ (.copy 1 r_0 r_4)]
(g_ [v_ l_0,v_ l_2,o_ (.nilCheck r_0),f_ 1 r_2,o_ (.store 1 r_3 r_1)])))⟩
def a139:Ann:=⟨[0,1,3,8,18],[],[],[],[]⟩
def t139L0:aL:=(.seq (.seq (g_ [v_ l_2,s_ 3 (.bin .geq r_0 (i_ 0))])
(.cond l_3
.skip
(.exit 0)))
(.seq (.block 1
(h_ [v_ l_0,v_ l_2,d_ l_1,v_ l_2,o_ (.indexAddrS 1 r_2 r_3),d_ r_4,o_ (.callv r_0 [r_1,r_5]),s_ 4 (.un .not r_6)]
(.cond l_4
.ret
.skip)))
(g_ [v_ l_2,o_ (.bin .sub r_0 (i_ 1)),w_ 2 r_1])))
def t139:aN:=⟨2,5,[],
(h_ [d_ l_1,o_ (.len .sl r_0),o_ (.bin .sub r_1 (i_ 1)),w_ 2 r_2]
(.block 0
(.loop t139L0)))⟩
def a140:Ann:=⟨[0,2,3,4,5,6,7,8,9,10,11,12,16,23,45,57,59,75,77,98],[9],[],[],[]⟩
def t140:aN:=⟨1,20,[.loc 1,.loc 2],
(h_ [s_ 1 (.mov (.cst (.int .i32 0))),w_ 2 (i_ 0)]
(h_ [v_ l_0,o_ (.len .str r_0),w_ 3 r_1]
(.seq (.seq (g_ [v_ l_3,s_ 12 (.bin .lss r_0 (i_ 1))])
(.cond mN
(h_ [s_ 1 (.mov (.cst (.int .i32 65533))),w_ 2 (i_ 0)]
.ret)
.skip))
(h_ [v_ l_0,o_ (.indexS r_0 (i_ 0)),w_ 4 r_1]
(h_ [v_ l_4,o_ (.indexAddrA 256 1 (.glob 0) r_0),d_ r_1,w_ 5 r_2]
(.seq (.seq (g_ [v_ l_5,s_ 13 (.bin .geq r_0 (.cst (.int .u8 240)))])
(.cond jV
(h_ [v_ l_5,o_ (.conv (.toInt .i32) r_0),o_ (.bin .shl r_1 (.cst (.int .u64 31))),o_ (.bin .shr r_2 (.cst (.int .u64 31))),w_ 6 r_3]
(h_ [v_ l_0,o_ (.indexS r_0 (i_ 0)),o_ (.conv (.toInt .i32) r_1),v_ l_6,o_ (.bin .andNot r_2 r_3),v_ l_6,o_ (.bin .and (.cst (.int .i32 65533)) r_5),o_ (.bin .or r_4 r_6),w_ 1 r_7,w_ 2 (i_ 1)]
.ret))
.skip))
(h_ [v_ l_5,o_ (.bin .and r_0 (.cst (.int .u8 7))),o_ (.conv (.toInt .i64) r_1),w_ 7 r_2]
(h_ [v_ l_5,o_ (.bin .shr r_0 (.cst (.int .u64 4))),o_ (.indexAddrA 16 2 (.glob 1) r_1),o_ (.loadN 2 r_2),o_ (.allocL 8 [(.int .u8 0),(.int .u8 0)]),o_ (.store 2 r_4 r_3)]
(.seq (.seq (g_ [v_ l_3,v_ l_7,s_ 14 (.bin .lss r_0 r_1)])
(.cond uJ
(h_ [s_ 1 (.mov (.cst (.int .i32 65533))),w_ 2 (i_ 1)]
.ret)
.skip))
(h_ [v_ l_0,o_ (.indexS r_0 (i_ 1)),w_ 9 r_1]
(.seq (.seq (g_ [v_ l_9,f_ 0 l_8,d_ r_1,o_ (.bin .lss r_0 r_2),v_ r_3,x_ 4 (.fieldAddr 1 l_8),x_ 4 (.load1 r_5),x_ 4 (.mov l_9),x_ 4 (.bin .lss r_6 r_7),s_ 15 (.pick r_4 T_ r_8)])
(.cond tF
(h_ [s_ 1 (.mov (.cst (.int .i32 65533))),w_ 2 (i_ 1)]
.ret)
.skip))
(.seq (.seq (g_ [v_ l_7,s_ 16 (.bin .leq r_0 (i_ 2))])
(.cond pQ
(h_ [v_ l_4,o_ (.bin .and r_0 (.cst (.int .u8 31))),o_ (.conv (.toInt .i32) r_1),o_ (.bin .shl r_2 (.cst (.int .u64 6))),v_ l_9,o_ (.bin .and r_4 (.cst (.int .u8 63))),o_ (.conv (.toInt .i32) r_5),o_ (.bin .or r_3 r_6),w_ 1 r_7,w_ 2 (i_ 2)]
.ret)
.skip))
(h_ [v_ l_0,o_ (.indexS r_0 (i_ 2)),w_ 10 r_1]
(.seq (.seq (g_ [v_ eX,o_ (.bin .lss r_0 (.cst (.int .u8 128))),v_ r_1,x_ 2 (.mov eX),x_ 2 (.bin .lss (.cst (.int .u8 191)) r_3),s_ 17 (.pick r_2 T_ r_4)])
(.cond aH1
(h_ [s_ 1 (.mov (.cst (.int .i32 65533))),w_ 2 (i_ 1)]
.ret)
.skip))
(.seq (.seq (g_ [v_ l_7,s_ 18 (.bin .leq r_0 (i_ 3))])
(.cond wI
(h_ [v_ l_4,o_ (.bin .and r_0 (.cst (.int .u8 15))),o_ (.conv (.toInt .i32) r_1),o_ (.bin .shl r_2 (.cst (.int .u64 12))),v_ l_9,o_ (.bin .and r_4 (.cst (.int .u8 63))),o_ (.conv (.toInt .i32) r_5),o_ (.bin .shl r_6 (.cst (.int .u64 6))),o_ (.bin .or r_3 r_7),v_ eX,o_ (.bin .and r_9 (.cst (.int .u8 63))),o_ (.conv (.toInt .i32) gR),o_ (.bin .or r_8 jE),w_ 1 nP,w_ 2 (i_ 3)]
.ret)
.skip))
(h_ [v_ l_0,o_ (.indexS r_0 (i_ 3)),w_ 11 r_1]
(.seq (.seq (g_ [v_ gJ,o_ (.bin .lss r_0 (.cst (.int .u8 128))),v_ r_1,x_ 2 (.mov gJ),x_ 2 (.bin .lss (.cst (.int .u8 191)) r_3),s_ 19 (.pick r_2 T_ r_4)])
(.cond tG
(h_ [s_ 1 (.mov (.cst (.int .i32 65533))),w_ 2 (i_ 1)]
.ret)
.skip))
(h_ [v_ l_4,o_ (.bin .and r_0 (.cst (.int .u8 7))),o_ (.conv (.toInt .i32) r_1),o_ (.bin .shl r_2 (.cst (.int .u64 18))),v_ l_9,o_ (.bin .and r_4 (.cst (.int .u8 63))),o_ (.conv (.toInt .i32) r_5),o_ (.bin .shl r_6 (.cst (.int .u64 12))),o_ (.bin .or r_3 r_7),v_ eX,o_ (.bin .and r_9 (.cst (.int .u8 63))),o_ (.conv (.toInt .i32) gR),o_ (.bin .shl jE (.cst (.int .u64 6))),o_ (.bin .or r_8 nP),v_ gJ,o_ (.bin .and wH (.cst (.int .u8 63))),o_ (.conv (.toInt .i32) aA0),o_ (.bin .or mM aEm),w_ 1 aEn,w_ 2 (i_ 4)]
.ret))))))))))))))))))⟩
def a141:Ann:=⟨[0,1,4,5,6,7,8,9,10,11,12,13,14,15,16,26,33,43,51,64,98,108,124,139,143,156,160,171,175,176,177,181,183],[],[],[],[(6,⟨[0,0,3,0,0,24,63],[0,1,2,3,4,5,6],[]⟩),(7,⟨[0,0,2,7,0,0,48,127,255],[0,1,2,3,4,5,6],[(7,[],[8])]⟩),(14,⟨[0,0,0,6,15,0,0,0,192,480,1023],[0,1,2,3,4,5,6,7,8,9,10],[]⟩),(31,⟨[0,0,0,6,15,0,0,0,192,480,1023],[0,1,2,3,4,5,6,7,8,9,10],[]⟩)]⟩
def t141L0:aL:=(.seq (g_ [s_ 29 (.nextS bE5), s_ 30 (.extract 0 r_0)])
(.seq (.cond bGq
.skip
(.exit 9))
(.block 10
(h_ [o_ (.extract 1 bBt),o_ (.extract 2 bBt),w_ 3 r_0,w_ 4 r_1]
(h_ [v_ l_4,s_ 31 (.bin .eql r_0 (.cst (.int .i32 65533)))]
(.cond bH0
(h_ [v_ l_3,w_ 2 r_0]
.ret)
.skip))))))
def t141:aN:=⟨2,33,[.loc 2],
(h_ [w_ 2 (i_ 0)]
(.block 0
(h_ [v_ l_1,o_ (.bin .leq (.cst (.int .i32 0)) r_0),v_ r_1,y_ 2 (.mov l_1),y_ 2 (.bin .lss r_3 (.cst (.int .i32 128))),o_ (.pick r_2 r_4 F_),w_ 26 r_5]
(.cond bE4
(h_ [v_ l_0,v_ l_1,o_ (.conv (.toInt .u8) r_1),c_ 148 [r_0,r_2],w_ 2 r_3]
.ret)
(h_ [v_ l_1,o_ (.bin .eql r_0 (.cst (.int .i32 65533))),w_ 27 r_1]
(.cond bGp
(.seq (.seq (g_ [v_ l_0,s_ 28 (.range true r_0)])
(.block 9
(.loop t141L0)))
(h_ [s_ 2 (.mov (i_ (-1)))]
.ret))
(h_ [v_ l_1,c_ 78 [r_0],o_ (.un .not r_1),w_ 32 r_2]
(.cond bH1
(h_ [s_ 2 (.mov (i_ (-1)))]
.ret)
     .bad))))))))⟩
def a143:Ann:=⟨[0,2,4],[],[],[],[]⟩
def t143:aN:=⟨1,3,[.loc 1],
(h_ [s_ 1 (.mov (.cst (.str [])))]
(.seq (.seq (g_ [v_ l_0,s_ 2 (.bin .lss r_0 (i_ 10))])
(.cond l_2
(h_ [v_ l_0,v_ l_0,o_ (.bin .add r_1 (i_ 1)),o_ (.slice .str (.cst (.str [48,49,50,51,52,53,54,55,56,57,97,98,99,100,101,102,103,104,105,106,107,108,109,110,111,112,113,114,115,116,117,118,119,120,121,122])) (some r_0) (some r_2) none),w_ 1 r_3]
.ret)
.skip))
(h_ [v_ l_0,o_ (.bin .mul r_0 (i_ 2)),v_ l_0,o_ (.bin .mul r_2 (i_ 2)),o_ (.bin .add r_3 (i_ 2)),o_ (.slice .str (.cst (.str D_)) (some r_1) (some r_4) none),w_ 1 r_5]
.ret)))⟩
def a144:Ann:=⟨[0,2,3],[],[],[],[]⟩
def t144:aN:=⟨1,3,[.loc 1],
(h_ [w_ 1 (i_ 0)]
(h_ [v_ l_0,c_ 152 [r_0],c_ 151 [r_1],w_ 2 r_2]
(h_ [v_ l_2,v_ l_0,v_ l_2,o_ (.indexAddrA 20 1 (.glob 2) r_2),d_ r_3,o_ (.bin .geq r_1 r_4),c_ 153 [r_5],o_ (.bin .add r_0 r_6),w_ 1 r_7]
.ret)))⟩
def a145:Ann:=⟨[0,1,4,5,6,7,8,9,10,11,12,13,14,15,16,20,99,139,161],[],[],[],[(7,⟨[0,0,2,0,0,16,0,64,192,0,512,455,2503,8191,16383],[0,1,2,3,4,5,6,7,8,9,10,11],[(12,[],[13]),(14,[],[])]⟩),(8,⟨[0,0,2,0,0,16,0,64,192,0,512,455,2503,8191,16383],[0,1,2,3,4,5,6,7,8,9,10,11],[(12,[],[13]),(14,[],[])]⟩),(9,⟨[0,0,2,0,0,16,0,64,192,0,512,455,2503,8191,16383],[0,1,2,3,4,5,6,7,8,9,10,11],[(12,[],[13]),(14,[],[])]⟩),(10,⟨[0,0,2,0,0,16,0,64,192,0,512,455,2503,8191,16383],[0,1,2,3,4,5,6,7,8,9,10,11],[(12,[],[13]),(14,[],[])]⟩),(17,⟨[0,0,2,0,0,16,0,64,192,0,512,455,2503,8191,16383],[0,1,2,3,4,5,6,7,8,9,10,11],[(12,[],[13]),(14,[],[])]⟩),(18,⟨[0,0,2,0,0,16,0,64,192,0,512,455,2503,8191,16383],[0,1,2,3,4,5,6,7,8,9,10,11],[(12,[],[13]),(14,[],[])]⟩),(23,⟨[0,0,2,0,0,16,0,64,192,0,512,455,2503,8191,16383],[0,1,2,3,4,5,6,7,8,9,10,11],[(12,[],[13]),(14,[],[])]⟩)]⟩
def t145L0:aL:=(.seq (.seq (g_ [v_ l_2,s_ 15 (.bin .geq r_0 (i_ 8))])
(.cond tF
.skip
(.exit 0)))
(.block 1
(h_ [v_ l_1,o_ (.bin .rem r_0 (.cst (.int .u64 100000000))),o_ (.conv (.toInt .u32) r_1),w_ 3 r_2]
(h_ [v_ l_1,o_ (.bin .quo r_0 (.cst (.int .u64 100000000))),w_ 1 r_1]
(h_ [v_ l_3,o_ (.bin .quo r_0 (.cst (.int .u32 10000))),v_ l_3,o_ (.bin .rem r_2 (.cst (.int .u32 10000))),w_ 4 r_1,w_ 5 r_3]
(h_ [v_ l_5,o_ (.bin .quo r_0 (.cst (.int .u32 100))),o_ (.bin .mul r_1 (.cst (.int .u32 2))),v_ l_5,o_ (.bin .rem r_3 (.cst (.int .u32 100))),o_ (.bin .mul r_4 (.cst (.int .u32 2))),w_ 6 r_2,w_ 7 r_5]
(h_ [v_ l_4,o_ (.bin .quo r_0 (.cst (.int .u32 100))),o_ (.bin .mul r_1 (.cst (.int .u32 2))),v_ l_4,o_ (.bin .rem r_3 (.cst (.int .u32 100))),o_ (.bin .mul r_4 (.cst (.int .u32 2))),w_ 8 r_2,w_ 9 r_5]
(.seq (.draw [0,1,2,3,4,5,6,7,8,9,10,11] [(12,[],[13]),(14,[],[])] [v_ l_0,v_ l_2,o_ (.bin .sub r_1 (i_ 1)),v_ l_0,v_ l_2,o_ (.bin .sub r_4 (i_ 2)),v_ l_7,o_ (.bin .add r_6 (.cst (.int .u32 1))),o_ (.indexS (.cst (.str D_)) r_7),v_ l_7,o_ (.indexS (.cst (.str D_)) r_9),o_ (.indexAddrS 1 r_0 r_2),o_ (.store 1 jE r_8),o_ (.indexAddrS 1 r_3 r_5),o_ (.store 1 mM gR)])
(.seq (.draw [0,1,2,3,4,5,6,7,8,9,10,11] [(12,[],[13]),(14,[],[])] [v_ l_0,v_ l_2,o_ (.bin .sub r_1 (i_ 3)),v_ l_0,v_ l_2,o_ (.bin .sub r_4 (i_ 4)),v_ l_6,o_ (.bin .add r_6 (.cst (.int .u32 1))),o_ (.indexS (.cst (.str D_)) r_7),v_ l_6,o_ (.indexS (.cst (.str D_)) r_9),o_ (.indexAddrS 1 r_0 r_2),o_ (.store 1 jE r_8),o_ (.indexAddrS 1 r_3 r_5),o_ (.store 1 mM gR)])
(.seq (.draw [0,1,2,3,4,5,6,7,8,9,10,11] [(12,[],[13]),(14,[],[])] [v_ l_0,v_ l_2,o_ (.bin .sub r_1 (i_ 5)),v_ l_0,v_ l_2,o_ (.bin .sub r_4 (i_ 6)),v_ l_9,o_ (.bin .add r_6 (.cst (.int .u32 1))),o_ (.indexS (.cst (.str D_)) r_7),v_ l_9,o_ (.indexS (.cst (.str D_)) r_9),o_ (.indexAddrS 1 r_0 r_2),o_ (.store 1 jE r_8),o_ (.indexAddrS 1 r_3 r_5),o_ (.store 1 mM gR)])
(.seq (.draw [0,1,2,3,4,5,6,7,8,9,10,11] [(12,[],[13]),(14,[],[])] [v_ l_0,v_ l_2,o_ (.bin .sub r_1 (i_ 7)),v_ l_0,v_ l_2,o_ (.bin .sub r_4 (i_ 8)),v_ l_8,o_ (.bin .add r_6 (.cst (.int .u32 1))),o_ (.indexS (.cst (.str D_)) r_7),v_ l_8,o_ (.indexS (.cst (.str D_)) r_9),o_ (.indexAddrS 1 r_0 r_2),o_ (.store 1 jE r_8),o_ (.indexAddrS 1 r_3 r_5),o_ (.store 1 mM gR)])
(g_ [v_ l_2,o_ (.bin .sub r_0 (i_ 8)),w_ 2 r_1]))))))))))))
def t145:aN:=⟨2,19,[],
(h_ [v_ l_0,o_ (.len .sl r_0),w_ 2 r_1]
(.seq (.block 0
(.loop t145L0))
(h_ [v_ l_1,o_ (.conv (.toInt .u32) r_0),w_ 10 r_1]
(.seq (.seq (g_ [v_ l_2,s_ 16 (.bin .geq r_0 (i_ 4))])
(.cond pQ
(h_ [v_ eX,o_ (.bin .rem r_0 (.cst (.int .u32 10000))),w_ 11 r_1]
(h_ [v_ eX,o_ (.bin .quo r_0 (.cst (.int .u32 10000))),w_ 10 r_1]
(h_ [v_ gJ,o_ (.bin .quo r_0 (.cst (.int .u32 100))),o_ (.bin .mul r_1 (.cst (.int .u32 2))),v_ gJ,o_ (.bin .rem r_3 (.cst (.int .u32 100))),o_ (.bin .mul r_4 (.cst (.int .u32 2))),w_ 12 r_2,w_ 13 r_5]
(.seq (.draw [0,1,2,3,4,5,6,7,8,9,10,11] [(12,[],[13]),(14,[],[])] [v_ l_0,v_ l_2,o_ (.bin .sub r_1 (i_ 1)),v_ l_0,v_ l_2,o_ (.bin .sub r_4 (i_ 2)),v_ jV,o_ (.bin .add r_6 (.cst (.int .u32 1))),o_ (.indexS (.cst (.str D_)) r_7),v_ jV,o_ (.indexS (.cst (.str D_)) r_9),o_ (.indexAddrS 1 r_0 r_2),o_ (.store 1 jE r_8),o_ (.indexAddrS 1 r_3 r_5),o_ (.store 1 mM gR)])
(.seq (.draw [0,1,2,3,4,5,6,7,8,9,10,11] [(12,[],[13]),(14,[],[])] [v_ l_0,v_ l_2,o_ (.bin .sub r_1 (i_ 3)),v_ l_0,v_ l_2,o_ (.bin .sub r_4 (i_ 4)),v_ mN,o_ (.bin .add r_6 (.cst (.int .u32 1))),o_ (.indexS (.cst (.str D_)) r_7),v_ mN,o_ (.indexS (.cst (.str D_)) r_9),o_ (.indexAddrS 1 r_0 r_2),o_ (.store 1 jE r_8),o_ (.indexAddrS 1 r_3 r_5),o_ (.store 1 mM gR)])
(g_ [v_ l_2,o_ (.bin .sub r_0 (i_ 4)),w_ 2 r_1]))))))
.skip))
(.seq (.seq (g_ [v_ l_2,s_ 17 (.bin .geq r_0 (i_ 2))])
(.cond aH1
(h_ [v_ eX,o_ (.bin .rem r_0 (.cst (.int .u32 100))),o_ (.bin .mul r_1 (.cst (.int .u32 2))),w_ 14 r_2]
(h_ [v_ eX,o_ (.bin .quo r_0 (.cst (.int .u32 100))),w_ 10 r_1]
(.seq (.draw [0,1,2,3,4,5,6,7,8,9,10,11] [(12,[],[13]),(14,[],[])] [v_ l_0,v_ l_2,o_ (.bin .sub r_1 (i_ 1)),v_ l_0,v_ l_2,o_ (.bin .sub r_4 (i_ 2)),v_ uJ,o_ (.bin .add r_6 (.cst (.int .u32 1))),o_ (.indexS (.cst (.str D_)) r_7),v_ uJ,o_ (.indexS (.cst (.str D_)) r_9),o_ (.indexAddrS 1 r_0 r_2),o_ (.store 1 jE r_8),o_ (.indexAddrS 1 r_3 r_5),o_ (.store 1 mM gR)])
(g_ [v_ l_2,o_ (.bin .sub r_0 (i_ 2)),w_ 2 r_1]))))
.skip))
(h_ [v_ l_2,s_ 18 (.bin .gtr r_0 (i_ 0))]
(.cond wI
(g_ [v_ l_0,v_ eX,o_ (.bin .add (.cst (.int .u32 48)) r_1),o_ (.conv (.toInt .u8) r_2),o_ (.indexAddrS 1 r_0 (i_ 0)),o_ (.store 1 r_4 r_3)])
.skip)))))))⟩
def a146:Ann:=⟨[0,1,2,3,4,10,11,12,13,14,15,16,17,18,28,30,34,46,68,89,94],[],[],[],[]⟩
def t146L0:aL:=(.seq (.seq (g_ [v_ l_1,v_ mN,s_ 18 (.bin .geq r_0 r_1)])
(.cond wI
.skip
(.exit 2)))
(.block 3
(h_ [v_ l_8,o_ (.bin .sub r_0 (i_ 1)),w_ 8 r_1]
(h_ [v_ l_1,v_ mN,o_ (.bin .quo r_0 r_1),w_ 13 r_2]
(h_ [v_ l_8,v_ l_1,v_ jV,v_ mN,o_ (.bin .mul r_2 r_3),o_ (.bin .sub r_1 r_4),o_ (.indexS (.cst (.str [48,49,50,51,52,53,54,55,56,57,97,98,99,100,101,102,103,104,105,106,107,108,109,110,111,112,113,114,115,116,117,118,119,120,121,122])) r_5),o_ (.indexAddrA 65 1 l_7 r_0),o_ (.store 1 r_7 r_6)]
(g_ [v_ jV,w_ 1 r_0]))))))
def t146L1:aL:=(.seq (.seq (g_ [v_ l_1,v_ eX,s_ 17 (.bin .geq r_0 r_1)])
(.cond aH1
.skip
(.exit 0)))
(.block 1
(h_ [v_ l_8,o_ (.bin .sub r_0 (i_ 1)),w_ 8 r_1]
(h_ [v_ l_8,v_ l_1,v_ gJ,o_ (.bin .and r_1 r_2),o_ (.indexS (.cst (.str [48,49,50,51,52,53,54,55,56,57,97,98,99,100,101,102,103,104,105,106,107,108,109,110,111,112,113,114,115,116,117,118,119,120,121,122])) r_3),o_ (.indexAddrA 65 1 l_7 r_0),o_ (.store 1 r_5 r_4)]
(g_ [v_ l_1,v_ l_9,o_ (.bin .shr r_0 r_1),w_ 1 r_2])))))
def t146:aN:=⟨5,21,[.loc 5,.loc 6],
(h_ [w_ 5 N_,s_ 6 (.mov (.cst (.str [])))]
(.seq (.seq (g_ [v_ l_2,o_ (.bin .lss r_0 (i_ 2)),v_ r_1,x_ 2 (.mov l_2),x_ 2 (.bin .eql r_3 (i_ 10)),o_ (.pick r_2 T_ r_4),v_ r_5,x_ 6 (.mov l_2),x_ 6 (.bin .gtr r_7 (i_ 36)),s_ 14 (.pick r_6 T_ r_8)])
(.cond uJ
(g_ [o_ (.bad),o_ (.bad)])
.skip))
(h_ [s_ 7 (.allocH 227 [(.int .u8 0),(.int .u8 0),(.int .u8 0),(.int .u8 0),(.int .u8 0),(.int .u8 0),(.int .u8 0),(.int .u8 0),(.int .u8 0),(.int .u8 0),(.int .u8 0),(.int .u8 0),(.int .u8 0),(.int .u8 0),(.int .u8 0),(.int .u8 0),(.int .u8 0),(.int .u8 0),(.int .u8 0),(.int .u8 0),(.int .u8 0),(.int .u8 0),(.int .u8 0),(.int .u8 0),(.int .u8 0),(.int .u8 0),(.int .u8 0),(.int .u8 0),(.int .u8 0),(.int .u8 0),(.int .u8 0),(.int .u8 0),(.int .u8 0),(.int .u8 0),(.int .u8 0),(.int .u8 0),(.int .u8 0),(.int .u8 0),(.int .u8 0),(.int .u8 0),(.int .u8 0),(.int .u8 0),(.int .u8 0),(.int .u8 0),(.int .u8 0),(.int .u8 0),(.int .u8 0),(.int .u8 0),(.int .u8 0),(.int .u8 0),(.int .u8 0),(.int .u8 0),(.int .u8 0),(.int .u8 0),(.int .u8 0),(.int .u8 0),(.int .u8 0),(.int .u8 0),(.int .u8 0),(.int .u8 0),(.int .u8 0),(.int .u8 0),(.int .u8 0),(.int .u8 0),(.int .u8 0)])]
(h_ [w_ 8 (i_ 65)]
(.seq (.seq (g_ [w_ 15 l_3])
(.cond tF
(g_ [v_ l_1,o_ (.un .neg r_0),w_ 1 r_1])
.skip))
(.seq (.seq (g_ [v_ l_2,s_ 16 (.call true false 154 [r_0])])
(.cond pQ
(h_ [v_ l_2,o_ (.conv (.toInt .u64) r_0),c_ 155 [r_1],o_ (.conv (.toInt .u64) r_2),w_ 9 r_3]
(h_ [v_ l_2,o_ (.conv (.toInt .u64) r_0),w_ 10 r_1]
(h_ [v_ l_2,o_ (.conv (.toInt .u64) r_0),o_ (.bin .sub r_1 (.cst (.int .u64 1))),w_ 11 r_2]
(.seq (.block 0
(.loop t146L1))
(h_ [v_ l_8,o_ (.bin .sub r_0 (i_ 1)),w_ 8 r_1]
(g_ [v_ l_8,v_ l_1,o_ (.indexS (.cst (.str [48,49,50,51,52,53,54,55,56,57,97,98,99,100,101,102,103,104,105,106,107,108,109,110,111,112,113,114,115,116,117,118,119,120,121,122])) r_1),o_ (.indexAddrA 65 1 l_7 r_0),o_ (.store 1 r_3 r_2)]))))))
(h_ [v_ l_2,o_ (.conv (.toInt .u64) r_0),w_ 12 r_1]
(.seq (.block 2
(.loop t146L0))
(h_ [v_ l_8,o_ (.bin .sub r_0 (i_ 1)),w_ 8 r_1]
(g_ [v_ l_8,v_ l_1,o_ (.indexS (.cst (.str [48,49,50,51,52,53,54,55,56,57,97,98,99,100,101,102,103,104,105,106,107,108,109,110,111,112,113,114,115,116,117,118,119,120,121,122])) r_1),o_ (.indexAddrA 65 1 l_7 r_0),o_ (.store 1 r_3 r_2)]))))))
(.seq (.seq (g_ [w_ 19 l_3])
(.cond tG
(h_ [v_ l_8,o_ (.bin .sub r_0 (i_ 1)),w_ 8 r_1]
(g_ [v_ l_8,o_ (.indexAddrA 65 1 l_7 r_0),o_ (.store 1 r_1 (.cst (.int .u8 45)))]))
.skip))
(.seq (.seq (g_ [w_ 20 l_4])
(.cond aQj
(h_ [v_ l_0,v_ l_8,o_ (.slice (.arr 65 1) l_7 (some r_1) none none),o_ (.append false 1 1 5 r_0 r_2),w_ 5 r_3]
.ret)
.skip))
(h_ [v_ l_8,o_ (.slice (.arr 65 1) l_7 (some r_0) none none),o_ (.conv .bytesStr r_1),w_ 6 r_2]
.ret)))))))))⟩
def a148:Ann:=⟨[0,1,4],[],[],[],[]⟩
def t148:aN:=⟨2,3,[.loc 2],
(h_ [w_ 2 (i_ 0)]
(h_ [v_ l_0,v_ l_1,c_ 156 [r_0,r_1],w_ 2 r_2]
.ret))⟩
def a151:Ann:=⟨[0,2],[],[],[],[]⟩
def t151:aN:=⟨1,2,[.loc 1],
(h_ [w_ 1 (i_ 0)]
(h_ [v_ l_0,o_ (.bin .mul r_0 (i_ 78913)),o_ (.bin .shr r_1 (.cst (.int .u64 18))),w_ 1 r_2]
.ret))⟩
def a152:Ann:=⟨[0,2,4,8,14],[],[],[],[]⟩
def t152:aN:=⟨1,5,[.loc 1],
(h_ [w_ 1 (i_ 0)]
(.seq (.seq (g_ [v_ l_0,s_ 2 (.bin .geq r_0 (.cst (.int .u64 4294967296)))])
(.cond l_2
(h_ [v_ l_0,o_ (.bin .shr r_0 (.cst (.int .u64 32))),w_ 0 r_1]
(g_ [w_ 1 (i_ 32)]))
.skip))
(.seq (.seq (g_ [v_ l_0,s_ 3 (.bin .geq r_0 (.cst (.int .u64 65536)))])
(.cond l_3
(h_ [v_ l_0,o_ (.bin .shr r_0 (.cst (.int .u64 16))),w_ 0 r_1]
(g_ [v_ l_1,o_ (.bin .add r_0 (i_ 16)),w_ 1 r_1]))
.skip))
(.seq (.seq (g_ [v_ l_0,s_ 4 (.bin .geq r_0 (.cst (.int .u64 256)))])
(.cond l_4
(h_ [v_ l_0,o_ (.bin .shr r_0 (.cst (.int .u64 8))),w_ 0 r_1]
(g_ [v_ l_1,o_ (.bin .add r_0 (i_ 8)),w_ 1 r_1]))
.skip))
(h_ [v_ l_1,v_ l_0,o_ (.conv (.toInt .u8) r_1),o_ (.indexS (.cst (.str [0,1,2,2,3,3,3,3,4,4,4,4,4,4,4,4,5,5,5,5,5,5,5,5,5,5,5,5,5,5,5,5,6,6,6,6,6,6,6,6,6,6,6,6,6,6,6,6,6,6,6,6,6,6,6,6,6,6,6,6,6,6,6,6,7,7,7,7,7,7,7,7,7,7,7,7,7,7,7,7,7,7,7,7,7,7,7,7,7,7,7,7,7,7,7,7,7,7,7,7,7,7,7,7,7,7,7,7,7,7,7,7,7,7,7,7,7,7,7,7,7,7,7,7,7,7,7,7,8,8,8,8,8,8,8,8,8,8,8,8,8,8,8,8,8,8,8,8,8,8,8,8,8,8,8,8,8,8,8,8,8,8,8,8,8,8,8,8,8,8,8,8,8,8,8,8,8,8,8,8,8,8,8,8,8,8,8,8,8,8,8,8,8,8,8,8,8,8,8,8,8,8,8,8,8,8,8,8,8,8,8,8,8,8,8,8,8,8,8,8,8,8,8,8,8,8,8,8,8,8,8,8,8,8,8,8,8,8,8,8,8,8,8,8,8,8,8,8,8,8,8,8,8,8,8,8])) r_2),o_ (.conv (.toInt .i64) r_3),o_ (.bin .add r_0 r_4),w_ 1 r_5]
.ret)))))⟩
def a153:Ann:=⟨[0,2,3],[],[],[],[]⟩
def t153:aN:=⟨1,3,[.loc 1],
(h_ [w_ 1 (i_ 0)]
(.seq (.seq (g_ [w_ 2 l_0])
(.cond l_2
(h_ [w_ 1 (i_ 1)]
.ret)
.skip))
(h_ [w_ 1 (i_ 0)]
.ret)))⟩
def a154:Ann:=⟨[0,2],[],[],[],[]⟩
def t154:aN:=⟨1,2,[.loc 1],
(h_ [w_ 1 F_]
(h_ [v_ l_0,v_ l_0,o_ (.bin .sub r_1 (i_ 1)),o_ (.bin .and r_0 r_2),o_ (.bin .eql r_3 (i_ 0)),w_ 1 r_4]
.ret))⟩
def a155:Ann:=⟨[0,2],[],[],[],[]⟩
def t155:aN:=⟨1,2,[.loc 1],
(h_ [w_ 1 (i_ 0)]
(.seq (.cond F_
(h_ [v_ l_0,o_ (.conv (.toInt .u32) r_0),c_ 157 [r_1],w_ 1 r_2]
.ret)
.skip)
(h_ [v_ l_0,c_ 158 [r_0],w_ 1 r_1]
.ret)))⟩
def a156:Ann:=⟨[0,1,4],[],[],[],[]⟩
def t156:aN:=⟨2,3,[.loc 2],
(h_ [w_ 2 (i_ 0)]
(h_ [v_ l_0,v_ l_1,o_ (.prim 159 [r_0,r_1]),w_ 2 r_2]
.ret))⟩
def a157:Ann:=⟨[0,2,4],[],[],[],[]⟩
def t157:aN:=⟨1,3,[.loc 1],
(h_ [w_ 1 (i_ 0)]
(.seq (.seq (g_ [v_ l_0,s_ 2 (.bin .eql r_0 (.cst (.int .u32 0)))])
(.cond l_2
(h_ [w_ 1 (i_ 32)]
.ret)
.skip))
(h_ [v_ l_0,v_ l_0,o_ (.un .neg r_1),o_ (.bin .and r_0 r_2),o_ (.bin .mul r_3 (.cst (.int .u32 125613361))),o_ (.bin .shr r_4 (.cst (.int .u64 27))),o_ (.indexAddrA 32 1 (.glob 4) r_5),d_ r_6,o_ (.conv (.toInt .i64) r_7),w_ 1 r_8]
.ret)))⟩
def a158:Ann:=⟨[0,2,4],[],[],[],[]⟩
def t158:aN:=⟨1,3,[.loc 1],
(h_ [w_ 1 (i_ 0)]
(.seq (.seq (g_ [v_ l_0,s_ 2 (.bin .eql r_0 (.cst (.int .u64 0)))])
(.cond l_2
(h_ [w_ 1 (i_ 64)]
.ret)
.skip))
(h_ [v_ l_0,v_ l_0,o_ (.un .neg r_1),o_ (.bin .and r_0 r_2),o_ (.bin .mul r_3 (.cst (.int .u64 285870213051353865))),o_ (.bin .shr r_4 (.cst (.int .u64 58))),o_ (.indexAddrA 64 1 (.glob 5) r_5),d_ r_6,o_ (.conv (.toInt .i64) r_7),w_ 1 r_8]
.ret)))⟩
def g0:List IV:=[(.int .u8 240),(.int .u8 240),(.int .u8 240),(.int .u8 240),(.int .u8 240),(.int .u8 240),(.int .u8 240),(.int .u8 240),(.int .u8 240),(.int .u8 240),(.int .u8 240),(.int .u8 240),(.int .u8 240),(.int .u8 240),(.int .u8 240),(.int .u8 240),(.int .u8 240),(.int .u8 240),(.int .u8 240),(.int .u8 240),(.int .u8 240),(.int .u8 240),(.int .u8 240),(.int .u8 240),(.int .u8 240),(.int .u8 240),(.int .u8 240),(.int .u8 240),(.int .u8 240),(.int .u8 240),(.int .u8 240),(.int .u8 240),(.int .u8 240),(.int .u8 240),(.int .u8 240),(.int .u8 240),(.int .u8 240),(.int .u8 240),(.int .u8 240),(.int .u8 240),(.int .u8 240),(.int .u8 240),(.int .u8 240),(.int .u8 240),(.int .u8 240),(.int .u8 240),(.int .u8 240),(.int .u8 240),(.int .u8 240),(.int .u8 240),(.int .u8 240),(.int .u8 240),(.int .u8 240),(.int .u8 240),(.int .u8 240),(.int .u8 240),(.int .u8 240),(.int .u8 240),(.int .u8 240),(.int .u8 240),(.int .u8 240),(.int .u8 240),(.int .u8 240),(.int .u8 240),(.int .u8 240),(.int .u8 240),(.int .u8 240),(.int .u8 240),(.int .u8 240),(.int .u8 240),(.int .u8 240),(.int .u8 240),(.int .u8 240),(.int .u8 240),(.int .u8 240),(.int .u8 240),(.int .u8 240),(.int .u8 240),(.int .u8 240),(.int .u8 240),(.int .u8 240),(.int .u8 240),(.int .u8 240),(.int .u8 240),(.int .u8 240),(.int .u8 240),(.int .u8 240),(.int .u8 240),(.int .u8 240),(.int .u8 240),(.int .u8 240),(.int .u8 240),(.int .u8 240),(.int .u8 240),(.int .u8 240),(.int .u8 240),(.int .u8 240),(.int .u8 240),(.int .u8 240),(.int .u8 240),(.int .u8 240),(.int .u8 240),(.int .u8 240),(.int .u8 240),(.int .u8 240),(.int .u8 240),(.int .u8 240),(.int .u8 240),(.int .u8 240),(.int .u8 240),(.int .u8 240),(.int .u8 240),(.int .u8 240),(.int .u8 240),(.int .u8 240),(.int .u8 240),(.int .u8 240),(.int .u8 240),(.int .u8 240),(.int .u8 240),(.int .u8 240),(.int .u8 240),(.int .u8 240),(.int .u8 240),(.int .u8 240),(.int .u8 240),(.int .u8 240),(.int .u8 240),(.int .u8 241),(.int .u8 241),(.int .u8 241),(.int .u8 241),(.int .u8 241),(.int .u8 241),(.int .u8 241),(.int .u8 241),(.int .u8 241),(.int .u8 241),(.int .u8 241),(.int .u8 241),(.int .u8 241),(.int .u8 241),(.int .u8 241),(.int .u8 241),(.int .u8 241),(.int .u8 241),(.int .u8 241),(.int .u8 241),(.int .u8 241),(.int .u8 241),(.int .u8 241),(.int .u8 241),(.int .u8 241),(.int .u8 241),(.int .u8 241),(.int .u8 241),(.int .u8 241),(.int .u8 241),(.int .u8 241),(.int .u8 241),(.int .u8 241),(.int .u8 241),(.int .u8 241),(.int .u8 241),(.int .u8 241),(.int .u8 241),(.int .u8 241),(.int .u8 241),(.int .u8 241),(.int .u8 241),(.int .u8 241),(.int .u8 241),(.int .u8 241),(.int .u8 241),(.int .u8 241),(.int .u8 241),(.int .u8 241),(.int .u8 241),(.int .u8 241),(.int .u8 241),(.int .u8 241),(.int .u8 241),(.int .u8 241),(.int .u8 241),(.int .u8 241),(.int .u8 241),(.int .u8 241),(.int .u8 241),(.int .u8 241),(.int .u8 241),(.int .u8 241),(.int .u8 241),(.int .u8 241),(.int .u8 241),(.int .u8 2),(.int .u8 2),(.int .u8 2),(.int .u8 2),(.int .u8 2),(.int .u8 2),(.int .u8 2),(.int .u8 2),(.int .u8 2),(.int .u8 2),(.int .u8 2),(.int .u8 2),(.int .u8 2),(.int .u8 2),(.int .u8 2),(.int .u8 2),(.int .u8 2),(.int .u8 2),(.int .u8 2),(.int .u8 2),(.int .u8 2),(.int .u8 2),(.int .u8 2),(.int .u8 2),(.int .u8 2),(.int .u8 2),(.int .u8 2),(.int .u8 2),(.int .u8 2),(.int .u8 2),(.int .u8 19),(.int .u8 3),(.int .u8 3),(.int .u8 3),(.int .u8 3),(.int .u8 3),(.int .u8 3),(.int .u8 3),(.int .u8 3),(.int .u8 3),(.int .u8 3),(.int .u8 3),(.int .u8 3),(.int .u8 35),(.int .u8 3),(.int .u8 3),(.int .u8 52),(.int .u8 4),(.int .u8 4),(.int .u8 4),(.int .u8 68),(.int .u8 241),(.int .u8 241),(.int .u8 241),(.int .u8 241),(.int .u8 241),(.int .u8 241),(.int .u8 241),(.int .u8 241),(.int .u8 241),(.int .u8 241),(.int .u8 241)]
def g1:List IV:=[(.int .u8 128),(.int .u8 191),(.int .u8 160),(.int .u8 191),(.int .u8 128),(.int .u8 159),(.int .u8 144),(.int .u8 191),(.int .u8 128),(.int .u8 143),(.int .u8 0),(.int .u8 0),(.int .u8 0),(.int .u8 0),(.int .u8 0),(.int .u8 0),(.int .u8 0),(.int .u8 0),(.int .u8 0),(.int .u8 0),(.int .u8 0),(.int .u8 0),(.int .u8 0),(.int .u8 0),(.int .u8 0),(.int .u8 0),(.int .u8 0),(.int .u8 0),(.int .u8 0),(.int .u8 0),(.int .u8 0),(.int .u8 0)]
def tbl:List (Option aN):=[none,none,none,none,some t4,none,some t6,some t7,some t8,none,none,some t11,some t12,none,some t14,some t15,none,none,some t18,some t19,some t20,some t21,some t22,some t23,some t24,some t25,none,none,none,none,some t30,some t31,none,some t33,some t34,some t35,some t36,some t37,none,none,none,none,some t42,some t43,some t44,some t45,some t46,some t47,some t48,some t49,some t50,some t51,some t52,some t53,some t54,some t55,some t56,some t57,some t58,some t59,some t60,none,none,none,none,none,none,some t67,some t68,some t69,some t70,some t71,none,some t73,some t74,some t75,some t76,some t77,some t78,some t79,some t80,some t81,some t82,some t83,some t84,none,none,none,none,none,none,none,some t92,some t93,some t94,some t95,some t96,some t97,none,some t99,some t100,some t101,some t102,some t103,some t104,some t105,some t106,some t107,some t108,none,none,none,none,none,none,none,some t116,some t117,some t118,some t119,some t120,some t121,some t122,none,some t124,some t125,some t126,some t127,some t128,some t129,some t130,some t131,none,none,none,some t135,some t136,some t137,some t138,some t139,some t140,some t141,none,some t143,some t144,some t145,some t146,none,some t148,none,none,some t151,some t152,some t153,some t154,some t155,some t156,some t157,some t158]
def gtbl:List (Option (List IV)):=[some g0,some g1]
def K:TM.bG:=⟨fun k=>tbl.getD k none,fun g=>gtbl.getD g none,fun f=>aAd prims f⟩
def bI (k : Nat) (tf : aN) : Prop := ∃ (A : Ann) (fn : Func), Tryz.prog.funcs[k]? = some fn ∧ fn.name ≠ "runtime.NumGoroutine" ∧ oA Tryz.prog opts A fn = some tf
theorem m_ {k : Nat} {t : aN} (a : Ann) {f : Func} (h : Tryz.prog.funcs[k]? = some f) (n : (f.name == "runtime.NumGoroutine") = false := by kernel_rfl) (c : oA Tryz.prog opts a f = some t := by kernel_rfl) : bI k t := ⟨a,f,h,fun e => by rw [e] at n; simp at n,c⟩
theorem q4:bI 4 t4:=m_ a4 Tryz.func4
theorem q6:bI 6 t6:=m_ a6 Tryz.func6
theorem q7:bI 7 t7:=m_ a7 Tryz.func7
theorem q8:bI 8 t8:=m_ a8 Tryz.func8
theorem q11:bI 11 t11:=m_ a11 Tryz.func11
theorem q12:bI 12 t12:=m_ a12 Tryz.func12
theorem q14:bI 14 t14:=m_ a14 Tryz.func14
theorem q15:bI 15 t15:=m_ a15 Tryz.func15
theorem q18:bI 18 t18:=m_ a18 Tryz.func18
theorem q19:bI 19 t19:=m_ a19 Tryz.func19
theorem q20:bI 20 t20:=m_ a20 Tryz.func20
theorem q21:bI 21 t21:=m_ a21 Tryz.func21
theorem q22:bI 22 t22:=m_ a22 Tryz.func22
theorem q23:bI 23 t23:=m_ a23 Tryz.func23
theorem q24:bI 24 t24:=m_ a24 Tryz.func24
theorem q25:bI 25 t25:=m_ a25 Tryz.func25
theorem q30:bI 30 t30:=m_ a30 Tryz.func30
theorem q31:bI 31 t31:=m_ a31 Tryz.func31
theorem q33:bI 33 t33:=m_ a33 Tryz.func33
theorem q34:bI 34 t34:=m_ a34 Tryz.func34
theorem q35:bI 35 t35:=m_ a35 Tryz.func35
theorem q36:bI 36 t36:=m_ a36 Tryz.func36
theorem q37:bI 37 t37:=m_ a37 Tryz.func37
theorem q42:bI 42 t42:=m_ a42 Tryz.func42
theorem q43:bI 43 t43:=m_ a43 Tryz.func43
theorem q44:bI 44 t44:=m_ a44 Tryz.func44
theorem q45:bI 45 t45:=m_ a45 Tryz.func45
theorem q46:bI 46 t46:=m_ a46 Tryz.func46
theorem q47:bI 47 t47:=m_ a47 Tryz.func47
theorem q48:bI 48 t48:=m_ a48 Tryz.func48
theorem q49:bI 49 t49:=m_ a49 Tryz.func49
theorem q50:bI 50 t50:=m_ a50 Tryz.func50
theorem q51:bI 51 t51:=m_ a51 Tryz.func51
theorem q52:bI 52 t52:=m_ a52 Tryz.func52
theorem q53:bI 53 t53:=m_ a53 Tryz.func53
theorem q54:bI 54 t54:=m_ a54 Tryz.func54
theorem q55:bI 55 t55:=m_ a55 Tryz.func55
theorem q56:bI 56 t56:=m_ a56 Tryz.func56
theorem q57:bI 57 t57:=m_ a57 Tryz.func57
theorem q58:bI 58 t58:=m_ a58 Tryz.func58
theorem q59:bI 59 t59:=m_ a59 Tryz.func59
theorem q60:bI 60 t60:=m_ a60 Tryz.func60
theorem q67:bI 67 t67:=m_ a67 Tryz.func67
theorem q68:bI 68 t68:=m_ a68 Tryz.func68
theorem q69:bI 69 t69:=m_ a69 Tryz.func69
theorem q70:bI 70 t70:=m_ a70 Tryz.func70
theorem q71:bI 71 t71:=m_ a71 Tryz.func71
theorem q73:bI 73 t73:=m_ a73 Tryz.func73
theorem q74:bI 74 t74:=m_ a74 Tryz.func74
theorem q75:bI 75 t75:=m_ a75 Tryz.func75
theorem q76:bI 76 t76:=m_ a76 Tryz.func76
theorem q77:bI 77 t77:=m_ a77 Tryz.func77
theorem q78:bI 78 t78:=m_ a78 Tryz.func78
theorem q79:bI 79 t79:=m_ a79 Tryz.func79
theorem q80:bI 80 t80:=m_ a80 Tryz.func80
theorem q81:bI 81 t81:=m_ a81 Tryz.func81
theorem q82:bI 82 t82:=m_ a82 Tryz.func82
theorem q83:bI 83 t83:=m_ a83 Tryz.func83
theorem q84:bI 84 t84:=m_ a84 Tryz.func84
theorem q92:bI 92 t92:=m_ a92 Tryz.func92
theorem q93:bI 93 t93:=m_ a93 Tryz.func93
theorem q94:bI 94 t94:=m_ a94 Tryz.func94
theorem q95:bI 95 t95:=m_ a95 Tryz.func95
theorem q96:bI 96 t96:=m_ a96 Tryz.func96
theorem q97:bI 97 t97:=m_ a97 Tryz.func97
theorem q99:bI 99 t99:=m_ a99 Tryz.func99
theorem q100:bI 100 t100:=m_ a100 Tryz.func100
theorem q101:bI 101 t101:=m_ a101 Tryz.func101
theorem q102:bI 102 t102:=m_ a102 Tryz.func102
theorem q103:bI 103 t103:=m_ a103 Tryz.func103
theorem q104:bI 104 t104:=m_ a104 Tryz.func104
theorem q105:bI 105 t105:=m_ a105 Tryz.func105
theorem q106:bI 106 t106:=m_ a106 Tryz.func106
theorem q107:bI 107 t107:=m_ a107 Tryz.func107
theorem q108:bI 108 t108:=m_ a108 Tryz.func108
theorem q116:bI 116 t116:=m_ a116 Tryz.func116
theorem q117:bI 117 t117:=m_ a117 Tryz.func117
theorem q118:bI 118 t118:=m_ a118 Tryz.func118
theorem q119:bI 119 t119:=m_ a119 Tryz.func119
theorem q120:bI 120 t120:=m_ a120 Tryz.func120
theorem q121:bI 121 t121:=m_ a121 Tryz.func121
theorem q122:bI 122 t122:=m_ a122 Tryz.func122
theorem q124:bI 124 t124:=m_ a124 Tryz.func124
theorem q125:bI 125 t125:=m_ a125 Tryz.func125
theorem q126:bI 126 t126:=m_ a126 Tryz.func126
theorem q127:bI 127 t127:=m_ a127 Tryz.func127
theorem q128:bI 128 t128:=m_ a128 Tryz.func128
theorem q129:bI 129 t129:=m_ a129 Tryz.func129
theorem q130:bI 130 t130:=m_ a130 Tryz.func130
theorem q131:bI 131 t131:=m_ a131 Tryz.func131
theorem q135:bI 135 t135:=m_ a135 Tryz.func135
theorem q136:bI 136 t136:=m_ a136 Tryz.func136
theorem q137:bI 137 t137:=m_ a137 Tryz.func137
theorem q138:bI 138 t138:=m_ a138 Tryz.func138
theorem q139:bI 139 t139:=m_ a139 Tryz.func139
theorem q140:bI 140 t140:=m_ a140 Tryz.func140
theorem q141:bI 141 t141:=m_ a141 Tryz.func141
theorem q143:bI 143 t143:=m_ a143 Tryz.func143
theorem q144:bI 144 t144:=m_ a144 Tryz.func144
theorem q145:bI 145 t145:=m_ a145 Tryz.func145
theorem q146:bI 146 t146:=m_ a146 Tryz.func146
theorem q148:bI 148 t148:=m_ a148 Tryz.func148
theorem q151:bI 151 t151:=m_ a151 Tryz.func151
theorem q152:bI 152 t152:=m_ a152 Tryz.func152
theorem q153:bI 153 t153:=m_ a153 Tryz.func153
theorem q154:bI 154 t154:=m_ a154 Tryz.func154
theorem q155:bI 155 t155:=m_ a155 Tryz.func155
theorem q156:bI 156 t156:=m_ a156 Tryz.func156
theorem q157:bI 157 t157:=m_ a157 Tryz.func157
theorem q158:bI 158 t158:=m_ a158 Tryz.func158
theorem bHm:aBy bI 0 tbl:=⟨q4,q6,q7,q8,q11,q12,q14,q15,q18,q19,q20,q21,q22,q23,q24,q25,q30,q31,q33,q34,q35,q36,q37,q42,q43,q44,q45,q46,q47,q48,q49,q50,q51,q52,q53,q54,q55,q56,q57,q58,q59,q60,q67,q68,q69,q70,q71,q73,q74,q75,q76,q77,q78,q79,q80,q81,q82,q83,q84,q92,q93,q94,q95,q96,q97,q99,q100,q101,q102,q103,q104,q105,q106,q107,q108,q116,q117,q118,q119,q120,q121,q122,q124,q125,q126,q127,q128,q129,q130,q131,q135,q136,q137,q138,q139,q140,q141,q143,q144,q145,q146,q148,q151,q152,q153,q154,q155,q156,q157,q158,trivial⟩
theorem kok:KOK Tryz.prog opts K:=⟨fun k tf h=>aBz bHm k tf h,fun f p h=>aQh (aSk opts K) h,by kernel_rfl⟩
end Go.Proofs.YtjbpbohpmfpoiaaGreatDoor
