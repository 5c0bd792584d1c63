/- The functions of this seat, compiled for the evaluator TM, a part. By program. Condition: none. -/
import Derived.Test.YtageemgcnoblnaaDoorTmProg1
set_option maxRecDepth 100000
set_option linter.unusedVariables false
namespace Go.Proofs.YtageemgcnoblnaaDoor
open Go Go.TM
def a70:Ann:=⟨[0,1,4,5,7,8,9,16],[],[],[],[]⟩
def t70L0:aQ:=(.seq (g_ [s_ 6 (.bin .lss l_5 l_4)])
(.seq (.cond l_6
.skip
(.exit 0))
(.seq (.block 1
(h_ [v_ l_5,w_ 3 r_0]
(h_ [v_ l_1,v_ l_0,v_ l_3,o_ (.indexAddrS 5 r_1 r_2),o_ (.loadN 5 r_3),s_ 7 (.callv r_0 [r_4])]
(.cond l_7
(h_ [v_ l_3,w_ 2 r_0]
.ret)
.skip))))
(g_ [o_ (.bin .add l_5 (i_ 1)),w_ 5 r_0]))))
def t70:bE:=⟨2,8,[.loc 2],
(h_ [w_ 2 (i_ 0)]
(.seq (.seq (g_ [v_ l_0,s_ 4 (.len .sl r_0),w_ 5 (i_ 0)])
(.block 0
(.loop t70L0)))
(h_ [s_ 2 (.mov (i_ (-1)))]
.ret)))⟩
def a71:Ann:=⟨[0,1,3,8,18],[],[],[],[]⟩
def t71L0:aQ:=(.seq (.seq (g_ [v_ l_2,s_ 3 (.bin .geq r_0 (i_ 0))])
(.cond l_3
.skip
(.exit 0)))
(.seq (.block 1
(h_ [v_ l_0,v_ l_2,d_ l_1,v_ l_2,o_ (.indexAddrS 14 r_2 r_3),o_ (.loadN 14 r_4),o_ (.callv r_0 [r_1,r_5]),s_ 4 (.un .not r_6)]
(.cond l_4
.ret
.skip)))
(g_ [v_ l_2,o_ (.bin .sub r_0 (i_ 1)),w_ 2 r_1])))
def t71:bE:=⟨2,5,[],
(h_ [d_ l_1,o_ (.len .sl r_0),o_ (.bin .sub r_1 (i_ 1)),w_ 2 r_2]
(.block 0
(.loop t71L0)))⟩
def a72:Ann:=⟨[0,1,4,6,16],[],[],[],[]⟩
def t72:bE:=⟨2,5,[.loc 2],
(h_ [w_ 2 N_]
(.seq (.seq (g_ [v_ l_1,s_ 3 (.bin .lss r_0 (i_ 0))])
(.cond l_3
(g_ [o_ (.bad),o_ (.bad)])
.skip))
(.seq (.seq (g_ [v_ l_1,v_ l_0,o_ (.cap r_1),v_ l_0,o_ (.len .sl r_3),o_ (.bin .sub r_2 r_4),o_ (.bin .sub r_0 r_5),w_ 1 r_6])
(h_ [v_ l_1,s_ 4 (.bin .gtr r_0 (i_ 0))]
(.cond l_4
(g_ [v_ l_0,v_ l_0,o_ (.cap r_1),o_ (.slice (.sl 2) r_0 none (some r_2) none),v_ l_1,o_ (.grow 2 16 53 r_3 r_4),v_ l_0,o_ (.len .sl r_6),o_ (.slice (.sl 2) r_5 none (some r_7) none),w_ 0 r_8])
.skip)))
(h_ [v_ l_0,w_ 2 r_0]
.ret))))⟩
def a73:Ann:=⟨[0,1,3,4,5],[3],[],[],[(2,⟨[0,0,2,0,8,30,0,64,0,0,512,1536,3584,0,8254,32574,65534,131071,262143],[0,1,2,3,4,6,7,8,9,10,11,12,13],[(5,[7,10,12],[]),(14,[7,10,12],[]),(15,[7],[16]),(17,[],[18])]⟩)]⟩
def t73:bE:=⟨2,5,[.loc 3],
(h_ [o_ (.boxL 2 l_1),w_ 3 (i_ 0)]
(h_ [v_ l_0,o_ (.call false false 21 [r_0]),w_ 4 r_1]
(.seq (.draw [0,1,2,3,4,6,7,8,9,10,11,12,13] [(5,[7,10,12],[]),(14,[7,10,12],[]),(15,[7],[16]),(17,[],[18])] [v_ l_0,v_ l_4,o_ (.lit false [(.int .i64 0)] 1 [(0,r_1)]),f_ 2 l_2,d_ r_3,o_ (.append false 1 8 3 r_2 r_4),f_ 3 l_2,d_ r_6,v_ l_0,f_ 4 l_2,d_ r_9,o_ (.indexAddrS 5 dU (i_ 0)),o_ (.loadN 5 eZ),v_ l_4,c_ 25 [iU],o_ (.call false false 24 [r_8,gK,oF]),o_ (.build [(.sl .nil []),(.bool false),(.bool false),(.sl .nil []),(.int .i64 0),(.int .i64 0),(.int .i64 0),(.int .i64 0),(.int .i64 0),(.sl .nil []),(.sl .nil [])] [(0,1,r_5),(1,1,r_7),(4,7,uC)]),o_ (.call false false 20 [r_0,vP]),w_ 3 yP])
.ret)))⟩
def a74:Ann:=⟨[0,1,3,4,5,6],[5,3],[],[],[(2,⟨[0,0,3,7,0,16,63,127],[0,1,2,3,4],[(5,[0],[6]),(7,[],[])]⟩)]⟩
def t74:bE:=⟨2,6,[.loc 3,.cell 4 2 true],
(h_ [o_ (.boxL 2 l_1),w_ 3 N_,o_ (.allocL 4 [(.int .i64 0),(.int .i64 0)])]
(h_ [v_ l_0,o_ (.call false false 21 [r_0]),w_ 5 r_1]
(.seq (.draw [0,1,2,3,4] [(5,[0],[6]),(7,[],[])] [o_ (.loadN 5 l_2),v_ l_5,o_ (.build [(.int .i64 0),(.int .i64 0),(.int .i64 0),(.int .i64 0),(.int .i64 0),(.int .i64 0),(.sl .nil []),(.sl .nil []),(.int .i64 0),(.int .i64 0),(.sl .nil []),(.bool false),(.sl .nil []),(.int .i64 0)] [(0,1,(i_ 1)),(8,5,r_0),(13,1,r_1)]),o_ (.lit false [(.int .i64 0),(.int .i64 0),(.int .i64 0),(.int .i64 0),(.int .i64 0),(.int .i64 0),(.sl .nil []),(.sl .nil []),(.int .i64 0),(.int .i64 0),(.sl .nil []),(.bool false),(.sl .nil []),(.int .i64 0)] 1 [(0,r_2)]),v_ l_5,c_ 25 [r_4],w_ 3 r_3,o_ (.store 2 l_4 r_5)])
.ret)))⟩
def a75:Ann:=⟨[0,1,2,3,5,6,8,10,12,16],[1],[],[],[(9,⟨[0,1,0,7],[0,1,2,3],[]⟩),(11,⟨[0,1,0,7],[0,1,2,3],[]⟩)]⟩
def t75:bE:=⟨1,10,[.loc 2,.loc 3],
(h_ [o_ (.boxL 1 l_0),w_ 2 (i_ 0),w_ 3 (i_ 0)]
(.seq (.seq (g_ [f_ 0 l_1,s_ 4 (.load1 r_0)])
(.block 0
(h_ [o_ (.bin .eql l_4 (i_ 12)),w_ 5 r_0]
(.cond l_5
(h_ [w_ 2 (i_ 100),w_ 3 (i_ 0)]
.ret)
(h_ [o_ (.bin .eql l_4 (i_ 13)),w_ 6 r_0]
(.cond l_6
(h_ [w_ 2 (i_ 101),w_ 3 (i_ 0)]
.ret)
(h_ [o_ (.bin .eql l_4 (i_ 14)),w_ 7 r_0]
(.cond l_7
(h_ [w_ 2 (i_ 102),w_ 3 (i_ 0)]
.ret)
(h_ [o_ (.bin .eql l_4 (i_ 3)),w_ 8 r_0]
(.cond l_8
(.seq (.draw [0,1,2,3] [] [f_ 1 l_1,d_ r_0,w_ 2 (i_ 103),w_ 3 r_1])
.ret)
(h_ [o_ (.bin .eql l_4 (i_ 5)),w_ 9 r_0]
(.cond l_9
(.seq (.draw [0,1,2,3] [] [f_ 1 l_1,d_ r_0,w_ 2 (i_ 104),w_ 3 r_1])
.ret)
.skip))))))))))))
(h_ [f_ 1 l_1,d_ r_0,w_ 2 r_1,w_ 3 (i_ 0)]
.ret)))⟩
def a76:Ann:=⟨[0,1,2],[],[],[],[]⟩
def t76:bE:=⟨1,3,[.loc 2],
(h_ [s_ 1 (.boxH 23 l_0),s_ 2 (.mov (.cst .nilf))]
(h_ [o_ (.mkFn 96 [] [l_1]),w_ 2 r_0]
.ret))⟩
def a77:Ann:=⟨[0,2],[2],[],[],[]⟩
def t77:bE:=⟨1,2,[.cell 1 7 true],
(h_ [o_ (.allocL 1 [(.int .i64 0),(.int .i64 0),(.int .i64 0),(.int .i64 0),(.int .i64 0),(.sl .nil []),(.sl .nil [])])]
(h_ [v_ l_0,o_ (.build [(.int .i64 0),(.int .i64 0),(.int .i64 0),(.int .i64 0),(.int .i64 0),(.sl .nil []),(.sl .nil [])] [(0,1,(i_ 6)),(5,1,r_0)]),o_ (.store 7 l_1 r_1)]
.ret))⟩
def a78:Ann:=⟨[0,1,2,3,4,13],[3,1],[],[],[(5,⟨[0,0,1,7],[0,1,2],[(3,[],[])]⟩)]⟩
def t78L0:aQ:=(.seq (.seq (g_ [f_ 0 l_1,d_ r_0,o_ (.bin .eql r_1 (i_ 6)),v_ r_2,y_ 3 (.fieldAddr 3 l_1),y_ 3 (.load1 r_4),y_ 3 (.len .sl r_5),y_ 3 (.bin .eql r_6 (i_ 2)),s_ 5 (.pick r_3 r_7 F_)])
(.cond l_5
.skip
(.exit 0)))
(.block 1
(h_ [v_ l_4,f_ 3 l_1,d_ r_1,o_ (.indexAddrS 5 r_2 (i_ 0)),o_ (.loadN 5 r_3),o_ (.lit false [(.int .i64 0),(.int .i64 0),(.str []),(.sl .nil []),(.int .i64 0)] 1 [(0,r_4)]),o_ (.append false 5 64 51 r_0 r_5),w_ 4 r_6]
(g_ [f_ 3 l_1,d_ r_0,o_ (.indexAddrS 5 r_1 (i_ 1)),o_ (.loadN 5 r_2),o_ (.store 5 l_1 r_3)]))))
def t78:bE:=⟨1,6,[.loc 2,.cell 3 5 true],
(h_ [o_ (.boxL 1 l_0),w_ 2 N_,o_ (.allocL 3 [(.int .i64 0),(.int .i64 0),(.str []),(.sl .nil []),(.int .i64 0)])]
(h_ [w_ 4 N_]
(.seq (.block 0
(.loop t78L0))
(.seq (.draw [0,1,2] [(3,[],[])] [v_ l_4,o_ (.loadN 5 l_1),w_ 2 r_0,o_ (.store 5 l_3 r_1)])
.ret))))⟩
def a79:Ann:=⟨[0,2,3,4,5,7,8,17,22],[],[],[],[]⟩
def t79L0:aQ:=(.seq (.seq (g_ [v_ l_6,v_ l_3,o_ (.len .sl r_1),s_ 8 (.bin .lss r_0 r_2)])
(.cond l_8
.skip
(.exit 0)))
(.seq (.block 1
(g_ [v_ l_5,v_ l_3,v_ l_6,o_ (.indexAddrS 2 r_1 r_2),f_ 0 r_3,d_ r_4,o_ (.lit false [(.int .i64 0)] 1 [(0,r_5)]),o_ (.append false 1 8 3 r_0 r_6),w_ 5 r_7]))
(g_ [v_ l_6,o_ (.bin .add r_0 (i_ 1)),w_ 6 r_1])))
def t79:bE:=⟨1,9,[.loc 1,.loc 2],
(h_ [w_ 1 N_,w_ 2 (i_ 0)]
(h_ [v_ l_0,o_ (.conv .strBytes r_0),c_ 97 [r_1],v_ r_2,o_ (.extract 0 r_3),o_ (.extract 1 r_3),o_ (.extract 2 r_3),w_ 3 r_4,w_ 4 r_5,v_ r_6]
(.seq (.seq (g_ [v_ l_4,s_ 7 (.bin .neq r_0 (i_ 0))])
(.cond l_7
(h_ [v_ l_4,w_ 1 N_,w_ 2 r_0]
.ret)
.skip))
(h_ [w_ 5 N_]
(.seq (.seq (g_ [w_ 6 (i_ 0)])
(.block 0
(.loop t79L0)))
(h_ [v_ l_5,w_ 1 r_0,w_ 2 (i_ 0)]
.ret))))))⟩
def a80:Ann:=⟨[0,2,3,5,13,23,27,39],[],[],[],[]⟩
def t80L0:aQ:=(.seq (.seq (g_ [v_ l_2,v_ l_0,o_ (.len .str r_1),s_ 6 (.bin .lss r_0 r_2)])
(.cond l_6
.skip
(.exit 0)))
(.seq (.block 1
(h_ [v_ l_0,v_ l_2,o_ (.indexS r_0 r_1),o_ (.bin .lss r_2 (.cst (.int .u8 48))),v_ r_3,x_ 4 (.mov l_0),x_ 4 (.mov l_2),x_ 4 (.indexS r_5 r_6),x_ 4 (.bin .gtr r_7 (.cst (.int .u8 57))),s_ 7 (.pick r_4 T_ r_8)]
(.cond l_7
(h_ [w_ 1 F_]
.ret)
.skip)))
(g_ [v_ l_2,o_ (.bin .add r_0 (i_ 1)),w_ 2 r_1])))
def t80:bE:=⟨1,8,[.loc 1],
(h_ [w_ 1 F_]
(.seq (.seq (g_ [v_ l_0,s_ 3 (.bin .eql r_0 (.cst (.str [48])))])
(.cond l_3
(h_ [w_ 1 T_]
.ret)
.skip))
(.seq (.seq (g_ [v_ l_0,o_ (.len .str r_0),o_ (.bin .gtr r_1 (i_ 0)),v_ r_2,y_ 3 (.mov l_0),y_ 3 (.indexS r_4 (i_ 0)),y_ 3 (.bin .eql r_5 (.cst (.int .u8 45))),s_ 4 (.pick r_3 r_6 F_)])
(.cond l_4
(g_ [v_ l_0,o_ (.slice .str r_0 (some (i_ 1)) none none),w_ 0 r_1])
.skip))
(.seq (.seq (g_ [v_ l_0,o_ (.len .str r_0),o_ (.bin .eql r_1 (i_ 0)),v_ r_2,x_ 3 (.mov l_0),x_ 3 (.indexS r_4 (i_ 0)),x_ 3 (.bin .eql r_5 (.cst (.int .u8 48))),s_ 5 (.pick r_3 T_ r_6)])
(.cond l_5
(h_ [w_ 1 F_]
.ret)
.skip))
(.seq (.seq (g_ [w_ 2 (i_ 0)])
(.block 0
(.loop t80L0)))
(h_ [w_ 1 T_]
.ret))))))⟩
def a81:Ann:=⟨[0,2],[],[],[],[]⟩
def t81:bE:=⟨1,2,[.loc 1],
(h_ [w_ 1 F_]
(h_ [v_ l_0,o_ (.bin .geq r_0 (i_ 0)),v_ r_1,y_ 2 (.mov l_0),y_ 2 (.bin .leq r_3 (i_ 1114111)),o_ (.pick r_2 r_4 F_),v_ r_5,y_ 6 (.mov l_0),y_ 6 (.bin .lss r_7 (i_ 55296)),y_ 6 (.mov r_8),x_ 9 (.mov l_0),x_ 9 (.bin .gtr dU (i_ 57343)),y_ 6 (.pick r_9 T_ eZ),o_ (.pick r_6 gK F_),w_ 1 iU]
.ret))⟩
def a82:Ann:=⟨[0,1,2,3,4,5,6,7,48,71,76,94,97,116,134],[3,2],[],[],[(10,⟨[0,1,0,7,15,31,63,127,255,127,1023,2047,127,4223,16383,32767],[0,1,2,3,4,5,6,7,8,9,10,11,12,13,14,15],[]⟩)]⟩
def t82L0:aQ:=(.seq (.seq (g_ [v_ l_7,f_ 2 l_3,d_ r_1,o_ (.len .sl r_2),s_ 10 (.bin .lss r_0 r_3)])
(.cond iD
.skip
(.exit 0)))
(.seq (.block 1
(.seq (.draw [0,1,2,3,4,5,6,7,8,9,10,11,12,13,14,15] [] [f_ 2 l_3,d_ r_0,v_ l_7,o_ (.indexAddrS 1 r_1 r_2),d_ r_3,o_ (.bin .lss r_4 (i_ 0)),v_ r_5,x_ 6 (.fieldAddr 2 l_3),x_ 6 (.load1 r_7),x_ 6 (.mov l_7),x_ 6 (.indexAddrS 1 r_8 r_9),x_ 6 (.load1 dU),x_ 6 (.fieldAddr 6 l_2),x_ 6 (.load1 gK),x_ 6 (.bin .geq eZ iU),s_ 11 (.pick r_6 T_ oF)])
(.cond mI
(h_ [w_ 4 F_]
.ret)
.skip)))
(g_ [v_ l_7,o_ (.bin .add r_0 (i_ 1)),w_ 7 r_1])))
def t82:bE:=⟨2,15,[.loc 4],
(h_ [o_ (.boxL 2 l_0),o_ (.boxL 3 l_1),w_ 4 F_]
(h_ [o_ (.loadN 5 l_3),c_ 98 [r_0],w_ 5 r_1]
(h_ [f_ 0 l_3,d_ r_0,o_ (.bin .eql r_1 (i_ 8)),v_ r_2,x_ 3 (.fieldAddr 0 l_3),x_ 3 (.load1 r_4),x_ 3 (.bin .eql r_5 (i_ 10)),o_ (.pick r_3 T_ r_6),w_ 6 r_7]
(.seq (.seq (g_ [v_ l_5,o_ (.bin .lss r_0 (i_ 0)),v_ r_1,x_ 2 (.fieldAddr 4 l_3),x_ 2 (.load1 r_3),x_ 2 (.len .sl r_4),x_ 2 (.mov l_5),x_ 2 (.bin .lss r_5 r_6),o_ (.pick r_2 T_ r_7),v_ r_8,x_ 9 (.fieldAddr 4 l_3),x_ 9 (.load1 dU),x_ 9 (.len .sl eZ),x_ 9 (.mov l_5),x_ 9 (.bin .gtr gK iU),x_ 9 (.mov oF),y_ 15 (.mov l_6),y_ 15 (.un .not vP),x_ 9 (.pick uC yP F_),o_ (.pick r_9 T_ aEg),v_ aO5,x_ 20 (.fieldAddr 0 l_3),x_ 20 (.load1 aO7),x_ 20 (.call true false 99 [aVh]),x_ 20 (.un .not aVi),x_ 20 (.mov aVj),y_ 25 (.fieldAddr 1 l_3),y_ 25 (.load1 bGh),y_ 25 (.bin .neq bJ6 (i_ 0)),x_ 20 (.pick bGg bJ7 F_),s_ 8 (.pick aO6 T_ bLx)])
(.cond l_8
(h_ [w_ 4 F_]
.ret)
.skip))
(.seq (.seq (g_ [f_ 0 l_3,d_ r_0,o_ (.bin .neq r_1 (i_ 7)),v_ r_2,y_ 3 (.fieldAddr 2 l_3),y_ 3 (.load1 r_4),y_ 3 (.len .sl r_5),y_ 3 (.bin .gtr r_6 (i_ 0)),y_ 3 (.mov r_7),x_ 8 (.fieldAddr 3 l_3),x_ 8 (.load1 r_9),y_ 3 (.pick r_8 T_ dU),o_ (.pick r_3 eZ F_),v_ gK,x_ 13 (.fieldAddr 3 l_3),x_ 13 (.load1 oF),x_ 13 (.mov uC),y_ 16 (.fieldAddr 2 l_3),y_ 16 (.load1 yP),y_ 16 (.len .sl aEg),y_ 16 (.bin .eql aO5 (i_ 0)),x_ 13 (.pick vP aO6 F_),s_ 9 (.pick iU T_ aO7)])
(.cond l_9
(h_ [w_ 4 F_]
.ret)
.skip))
(.seq (.seq (g_ [w_ 7 (i_ 0)])
(.block 0
(.loop t82L0)))
(.seq (.seq (g_ [f_ 0 l_3,d_ r_0,s_ 12 (.bin .eql r_1 (i_ 1))])
(.cond pF
(h_ [f_ 1 l_3,d_ r_0,o_ (.bin .geq r_1 (i_ 0)),v_ r_2,y_ 3 (.fieldAddr 1 l_3),y_ 3 (.load1 r_4),y_ 3 (.fieldAddr 7 l_2),y_ 3 (.load1 r_6),y_ 3 (.len .sl r_7),y_ 3 (.bin .lss r_5 r_8),o_ (.pick r_3 r_9 F_),w_ 4 dU]
.ret)
.skip))
(.seq (.seq (g_ [f_ 0 l_3,d_ r_0,o_ (.bin .eql r_1 (i_ 2)),v_ r_2,x_ 3 (.fieldAddr 0 l_3),x_ 3 (.load1 r_4),x_ 3 (.bin .eql r_5 (i_ 4)),s_ 13 (.pick r_3 T_ r_6)])
(.cond gW
(h_ [f_ 1 l_3,d_ r_0,o_ (.bin .geq r_1 (i_ 0)),v_ r_2,y_ 3 (.fieldAddr 1 l_3),y_ 3 (.load1 r_4),y_ 3 (.fieldAddr 6 l_2),y_ 3 (.load1 r_6),y_ 3 (.bin .lss r_5 r_7),o_ (.pick r_3 r_8 F_),w_ 4 r_9]
.ret)
.skip))
(.seq (.seq (g_ [f_ 0 l_3,d_ r_0,o_ (.bin .eql r_1 (i_ 3)),v_ r_2,x_ 3 (.fieldAddr 0 l_3),x_ 3 (.load1 r_4),x_ 3 (.bin .eql r_5 (i_ 5)),s_ 14 (.pick r_3 T_ r_6)])
(.cond lM
(h_ [f_ 1 l_3,d_ r_0,o_ (.bin .geq r_1 (i_ 0)),v_ r_2,y_ 3 (.fieldAddr 1 l_3),y_ 3 (.load1 r_4),y_ 3 (.fieldAddr 5 l_2),y_ 3 (.load1 r_6),y_ 3 (.bin .lss r_5 r_7),o_ (.pick r_3 r_8 F_),w_ 4 r_9]
.ret)
.skip))
(h_ [w_ 4 T_]
.ret))))))))))⟩
def a83:Ann:=⟨[0,1,4,5,9,17],[],[],[],[]⟩
def t83L0:aQ:=(.seq (.seq (g_ [v_ l_3,v_ l_0,o_ (.len .sl r_1),s_ 4 (.bin .lss r_0 r_2)])
(.cond l_4
.skip
(.exit 0)))
(.seq (.block 1
(h_ [v_ l_0,v_ l_3,o_ (.indexAddrS 1 r_0 r_1),d_ r_2,v_ l_1,s_ 5 (.bin .eql r_3 r_4)]
(.cond l_5
(h_ [w_ 2 T_]
.ret)
.skip)))
(g_ [v_ l_3,o_ (.bin .add r_0 (i_ 1)),w_ 3 r_1])))
def t83:bE:=⟨2,6,[.loc 2],
(h_ [w_ 2 F_]
(.seq (.seq (g_ [w_ 3 (i_ 0)])
(.block 0
(.loop t83L0)))
(h_ [w_ 2 F_]
.ret)))⟩
def a84:Ann:=⟨[0,1,4,5,7,8,9,16],[],[],[],[]⟩
def t84L0:aQ:=(.seq (g_ [s_ 6 (.bin .lss l_5 l_4)])
(.seq (.cond l_6
.skip
(.exit 0))
(.seq (.block 1
(h_ [v_ l_5,w_ 3 r_0]
(h_ [v_ l_1,v_ l_0,v_ l_3,o_ (.indexAddrS 5 r_1 r_2),o_ (.loadN 5 r_3),s_ 7 (.callv r_0 [r_4])]
(.cond l_7
(h_ [v_ l_3,w_ 2 r_0]
.ret)
.skip))))
(g_ [o_ (.bin .add l_5 (i_ 1)),w_ 5 r_0]))))
def t84:bE:=⟨2,8,[.loc 2],
(h_ [w_ 2 (i_ 0)]
(.seq (.seq (g_ [v_ l_0,s_ 4 (.len .sl r_0),w_ 5 (i_ 0)])
(.block 0
(.loop t84L0)))
(h_ [s_ 2 (.mov (i_ (-1)))]
.ret)))⟩
def a85:Ann:=⟨[0,2,3,16],[],[],[],[]⟩
def t85:bE:=⟨1,4,[.loc 1],
(h_ [w_ 1 F_]
(h_ [v_ l_0,o_ (.call true false 100 [r_0,(.cst (.str [45]))]),w_ 2 r_1]
(.seq (.seq (g_ [v_ l_2,o_ (.bin .eql r_0 (.cst (.str []))),v_ r_1,x_ 2 (.mov l_2),x_ 2 (.indexS r_3 (i_ 0)),x_ 2 (.bin .eql r_4 (.cst (.int .u8 48))),x_ 2 (.mov r_5),y_ 6 (.mov l_0),y_ 6 (.bin .neq r_7 (.cst (.str [48]))),x_ 2 (.pick r_6 r_8 F_),s_ 3 (.pick r_2 T_ r_9)])
(.cond l_3
(h_ [w_ 1 F_]
.ret)
.skip))
(h_ [v_ l_2,o_ (.call false false 101 [r_0,(.fn 102)]),o_ (.un .not r_1),w_ 1 r_2]
.ret))))⟩
def a86:Ann:=⟨[0,2],[],[],[],[]⟩
def t86:bE:=⟨1,2,[.loc 1],
(h_ [w_ 1 F_]
(h_ [v_ l_0,o_ (.bin .geq r_0 (i_ 0)),v_ r_1,y_ 2 (.mov l_0),y_ 2 (.bin .leq r_3 (i_ 1114111)),o_ (.pick r_2 r_4 F_),v_ r_5,y_ 6 (.mov l_0),y_ 6 (.conv (.toInt .i32) r_7),y_ 6 (.call true false 103 [r_8]),o_ (.pick r_6 r_9 F_),w_ 1 dU]
.ret))⟩
def a87:Ann:=⟨[0,2,3,4,5,6,8,17,20,21,22,23],[8,5],[],[],[(3,⟨[0,1,0,7],[0,1,2,3],[]⟩)]⟩
def t87L0:aQ:=(.seq (g_ [s_ 11 (.bin .lss iD l_9)])
(.seq (.cond mI
.skip
(.exit 0))
(.seq (.block 1
(h_ [o_ (.indexAddrS 2 l_8 iD),o_ (.loadN 2 r_0),o_ (.allocL 6 [(.int .i64 0),(.int .i64 0)]),o_ (.store 2 r_2 r_1)]
(g_ [v_ l_5,f_ 0 l_6,d_ r_1,o_ (.lit false [(.int .i64 0)] 1 [(0,r_2)]),o_ (.append false 1 8 3 r_0 r_3),w_ 5 r_4])))
(g_ [o_ (.bin .add iD (i_ 1)),w_ 10 r_0]))))
def t87:bE:=⟨1,12,[.loc 1,.loc 2],
(h_ [w_ 1 N_,w_ 2 (i_ 0)]
(h_ [v_ l_0,o_ (.conv .strBytes r_0),c_ 104 [r_1],v_ r_2,o_ (.extract 0 r_3),o_ (.extract 1 r_3),o_ (.allocL 4 [(.int .i64 0),(.int .i64 0)]),w_ 3 r_4,o_ (.store 2 r_6 r_5)]
(.seq (.seq (g_ [f_ 0 l_4,d_ r_0,s_ 7 (.bin .neq r_1 (i_ 0))])
(.cond l_7
(.seq (.draw [0,1,2,3] [] [f_ 0 l_4,d_ r_0,w_ 1 N_,w_ 2 r_1])
.ret)
.skip))
(h_ [w_ 5 N_]
(.seq (.seq (g_ [w_ 8 l_3,s_ 9 (.len .sl r_0),w_ 10 (i_ 0)])
(.block 0
(.loop t87L0)))
(h_ [v_ l_5,w_ 1 r_0,w_ 2 (i_ 0)]
.ret))))))⟩
def a88:Ann:=⟨[0,1,2,3,5,6,9,12,15,18,21,24,27,30,44,47,56,67,70,73],[2,1],[],[],[(19,⟨[0,1,3,7,0,16,55,127,0,256,887,1911,2047,8191],[0,1,4,5,8,9],[(2,[5,9],[3]),(6,[9],[7]),(10,[],[11]),(12,[],[13])]⟩),(25,⟨[0,1,3,7,0,0,32,112,255,511,1023],[0,1,2,3,4,5,6,7,8],[(9,[],[10])]⟩)]⟩
def t88:bE:=⟨1,20,[.cell 2 4 true,.loc 3],
(h_ [o_ (.boxL 1 l_0),o_ (.allocL 2 [(.bool false),(.int .i64 0),(.bool false),(.str [])]),w_ 3 F_]
(.seq (.seq (g_ [f_ 0 l_1,s_ 4 (.load1 r_0)])
(.block 0
(h_ [o_ (.bin .eql l_4 (i_ 1)),w_ 5 r_0]
(.cond l_5
(h_ [o_ (.build [(.bool false),(.int .i64 0),(.bool false),(.str [])] [(0,1,T_),(1,1,(i_ 0)),(2,1,F_),(3,1,(.cst (.str [99])))]),o_ (.store 4 l_2 r_0),w_ 3 T_]
.ret)
(h_ [o_ (.bin .eql l_4 (i_ 2)),w_ 6 r_0]
(.cond l_6
(h_ [o_ (.build [(.bool false),(.int .i64 0),(.bool false),(.str [])] [(0,1,T_),(1,1,(i_ 0)),(2,1,F_),(3,1,(.cst (.str [118])))]),o_ (.store 4 l_2 r_0),w_ 3 T_]
.ret)
(h_ [o_ (.bin .eql l_4 (i_ 3)),w_ 7 r_0]
(.cond l_7
(h_ [o_ (.build [(.bool false),(.int .i64 0),(.bool false),(.str [])] [(0,1,T_),(1,1,(i_ 0)),(2,1,F_),(3,1,(.cst (.str [103])))]),o_ (.store 4 l_2 r_0),w_ 3 T_]
.ret)
(h_ [o_ (.bin .eql l_4 (i_ 4)),w_ 8 r_0]
(.cond l_8
(h_ [o_ (.build [(.bool false),(.int .i64 0),(.bool false),(.str [])] [(0,1,T_),(1,1,(i_ 1)),(2,1,F_),(3,1,(.cst (.str [115,101,116,33,32,118])))]),o_ (.store 4 l_2 r_0),w_ 3 T_]
.ret)
(h_ [o_ (.bin .eql l_4 (i_ 5)),w_ 9 r_0]
(.cond l_9
(h_ [o_ (.build [(.bool false),(.int .i64 0),(.bool false),(.str [])] [(0,1,T_),(1,1,(i_ 1)),(2,1,F_),(3,1,(.cst (.str [115,101,116,33,32,103])))]),o_ (.store 4 l_2 r_0),w_ 3 T_]
.ret)
(h_ [o_ (.bin .eql l_4 (i_ 6)),w_ 10 r_0]
(.cond iD
(h_ [o_ (.build [(.bool false),(.int .i64 0),(.bool false),(.str [])] [(0,1,F_),(1,1,(i_ 3)),(2,1,F_),(3,1,(.cst (.str [105,102])))]),o_ (.store 4 l_2 r_0),w_ 3 T_]
.ret)
(h_ [o_ (.bin .eql l_4 (i_ 7)),w_ 11 r_0]
(.cond mI
(h_ [o_ (.build [(.bool false),(.int .i64 0),(.bool false),(.str [])] [(0,1,F_),(1,1,(i_ 1)),(2,1,F_),(3,1,(.cst (.str [108,97,109,98,100,97])))]),o_ (.store 4 l_2 r_0),w_ 3 T_]
.ret)
(h_ [o_ (.bin .eql l_4 (i_ 8)),w_ 12 r_0]
(.cond pF
(h_ [o_ (.build [(.bool false),(.int .i64 0),(.bool false),(.str [])] [(0,1,F_),(1,1,(i_ 1)),(2,1,T_),(3,1,(.cst (.str [99,97,108,108])))]),o_ (.store 4 l_2 r_0),w_ 3 T_]
.ret)
(h_ [o_ (.bin .eql l_4 (i_ 9)),w_ 13 r_0]
(.cond gW
(.seq (.draw [0,1,4,5,8,9] [(2,[5,9],[3]),(6,[9],[7]),(10,[],[11]),(12,[],[13])] [f_ 1 l_1,d_ r_0,c_ 92 [r_1],o_ (.minmax true [(i_ 0),r_2]),f_ 1 l_1,d_ r_4,c_ 105 [r_5],o_ (.build [(.bool false),(.int .i64 0),(.bool false),(.str [])] [(0,1,T_),(1,1,r_3),(2,1,F_),(3,1,r_6)]),f_ 1 l_1,d_ r_8,c_ 92 [r_9],o_ (.bin .geq dU (i_ 0)),o_ (.store 4 l_2 r_7),w_ 3 eZ])
.ret)
(h_ [o_ (.bin .eql l_4 (i_ 10)),w_ 14 r_0]
(.cond lM
(h_ [o_ (.build [(.bool false),(.int .i64 0),(.bool false),(.str [])] [(0,1,F_),(1,1,(i_ 1)),(2,1,T_),(3,1,(.cst (.str [98,101,103,105,110])))]),o_ (.store 4 l_2 r_0),w_ 3 T_]
.ret)
(h_ [o_ (.bin .eql l_4 (i_ 11)),w_ 15 r_0]
(.cond xJ
(.seq (.seq (g_ [f_ 1 l_1,d_ r_0,o_ (.bin .lss r_1 (i_ 0)),v_ r_2,x_ 3 (.fieldAddr 1 l_1),x_ 3 (.load1 r_4),x_ 3 (.bin .gtr r_5 (i_ 2)),s_ 16 (.pick r_3 T_ r_6)])
(.cond aDq
(h_ [o_ (.build [(.bool false),(.int .i64 0),(.bool false),(.str [])] []),o_ (.store 4 l_2 r_0),w_ 3 F_]
.ret)
.skip))
(.seq (.draw [0,1,2,3,4,5,6,7,8] [(9,[],[10])] [f_ 1 l_1,d_ r_0,o_ (.bin .add r_1 (i_ 1)),o_ (.minmax false [r_2,(i_ 2)]),o_ (.build [(.str []),(.str []),(.str [])] [(0,1,(.cst (.str [99,97,108,108,47,99,99]))),(1,1,(.cst (.str [97,112,112,108,121]))),(2,1,(.cst (.str [99,97,108,108,45,119,105,116,104,45,118,97,108,117,101,115])))]),f_ 1 l_1,d_ r_5,o_ (.indexA 3 1 false r_4 r_6),o_ (.build [(.bool false),(.int .i64 0),(.bool false),(.str [])] [(0,1,T_),(1,1,r_3),(2,1,F_),(3,1,r_7)]),o_ (.store 4 l_2 r_8),w_ 3 T_])
.ret))
(h_ [o_ (.bin .eql l_4 (i_ 12)),w_ 17 r_0]
(.cond yQ
(h_ [o_ (.build [(.bool false),(.int .i64 0),(.bool false),(.str [])] [(0,1,F_),(1,1,(i_ 1)),(2,1,F_),(3,1,(.cst (.str [98,111,120])))]),o_ (.store 4 l_2 r_0),w_ 3 T_]
.ret)
(h_ [o_ (.bin .eql l_4 (i_ 13)),w_ 18 r_0]
(.cond qX
(h_ [o_ (.build [(.bool false),(.int .i64 0),(.bool false),(.str [])] [(0,1,F_),(1,1,(i_ 1)),(2,1,F_),(3,1,(.cst (.str [117,110,98,111,120])))]),o_ (.store 4 l_2 r_0),w_ 3 T_]
.ret)
(h_ [o_ (.bin .eql l_4 (i_ 14)),w_ 19 r_0]
(.cond aLp
(h_ [o_ (.build [(.bool false),(.int .i64 0),(.bool false),(.str [])] [(0,1,F_),(1,1,(i_ 2)),(2,1,F_),(3,1,(.cst (.str [115,101,116,45,98,111,120,33])))]),o_ (.store 4 l_2 r_0),w_ 3 T_]
.ret)
.skip))))))))))))))))))))))))))))))
(h_ [o_ (.build [(.bool false),(.int .i64 0),(.bool false),(.str [])] []),o_ (.store 4 l_2 r_0),w_ 3 F_]
.ret)))⟩
def a89:Ann:=⟨[0,1,4],[],[],[],[]⟩
def t89:bE:=⟨2,3,[.loc 2],
(h_ [w_ 2 F_]
(h_ [v_ l_0,o_ (.bin .geq r_0 (i_ 0)),v_ r_1,y_ 2 (.mov l_0),y_ 2 (.mov l_1),y_ 2 (.bin .lss r_3 r_4),o_ (.pick r_2 r_5 F_),w_ 2 r_6]
.ret))⟩
def a90:Ann:=⟨[0,1,4],[],[],[],[]⟩
def t90:bE:=⟨2,3,[.loc 2],
(h_ [w_ 2 F_]
(h_ [v_ l_0,v_ l_1,o_ (.call false false 106 [r_0,r_1]),o_ (.bin .geq r_2 (i_ 0)),w_ 2 r_3]
.ret))⟩
def a91:Ann:=⟨[0,1,2,4],[],[],[],[(1,⟨[0,0,0,4,12,28,60,127,255,511],[0,1,2,3,4,5,6],[(7,[],[8,9])]⟩)]⟩
def t91:bE:=⟨3,4,[.loc 3],
(h_ [w_ 3 F_]
(.seq (.draw [0,1,2,3,4,5,6] [(7,[],[8,9])] [d_ l_1,v_ l_0,d_ l_2,o_ (.nilCheck r_2),f_ 0 r_3,f_ 6 r_4,d_ r_5,o_ (.callv r_0 [r_1,r_6]),o_ (.un .not r_7),w_ 3 r_8])
.ret))⟩
def a92:Ann:=⟨[0,2,3,10],[3],[],[],[]⟩
def t92:bE:=⟨1,4,[.loc 1],
(h_ [w_ 1 (i_ 0)]
(h_ [o_ (.build [(.int .i64 0),(.int .i64 0),(.int .i64 0),(.int .i64 0),(.int .i64 0),(.int .i64 0),(.int .i64 0),(.int .i64 0),(.int .i64 0),(.int .i64 0),(.int .i64 0),(.int .i64 0),(.int .i64 0),(.int .i64 0),(.int .i64 0),(.int .i64 0),(.int .i64 0),(.int .i64 0),(.int .i64 0),(.int .i64 0),(.int .i64 0),(.int .i64 0),(.int .i64 0),(.int .i64 0),(.int .i64 0),(.int .i64 0),(.int .i64 0),(.int .i64 0),(.int .i64 0),(.int .i64 0),(.int .i64 0),(.int .i64 0),(.int .i64 0),(.int .i64 0),(.int .i64 0),(.int .i64 0),(.int .i64 0),(.int .i64 0),(.int .i64 0),(.int .i64 0),(.int .i64 0),(.int .i64 0)] [(0,1,(i_ 2)),(1,1,(i_ 1)),(2,1,(i_ 2)),(3,1,(i_ 1)),(4,1,(i_ 1)),(5,1,(i_ 2)),(6,1,(i_ 2)),(7,1,(i_ 1)),(8,1,(i_ 2)),(9,1,(i_ 2)),(10,1,(i_ 2)),(11,1,(i_ 2)),(12,1,(i_ 2)),(13,1,(i_ 2)),(14,1,(i_ 2)),(15,1,(i_ 1)),(16,1,(i_ 1)),(17,1,(i_ 1)),(18,1,(i_ 1)),(19,1,(i_ 2)),(20,1,(i_ 1)),(21,1,(i_ 2)),(22,1,(i_ 3)),(23,1,(i_ 1)),(24,1,(i_ 1)),(25,1,(i_ 1)),(26,1,(i_ 1)),(27,1,(i_ 2)),(28,1,(i_ 1)),(29,1,(i_ 2)),(30,1,(i_ 3)),(31,1,(i_ 1)),(32,1,(i_ 2)),(33,1,(i_ 1)),(34,1,(i_ 2)),(35,1,(i_ 3)),(36,1,(i_ 1)),(37,1,(i_ 0)),(38,1,(i_ 1)),(39,1,(i_ 1)),(40,1,(i_ 0)),(41,1,(i_ 0))]),o_ (.allocL 2 [(.int .i64 0),(.int .i64 0),(.int .i64 0),(.int .i64 0),(.int .i64 0),(.int .i64 0),(.int .i64 0),(.int .i64 0),(.int .i64 0),(.int .i64 0),(.int .i64 0),(.int .i64 0),(.int .i64 0),(.int .i64 0),(.int .i64 0),(.int .i64 0),(.int .i64 0),(.int .i64 0),(.int .i64 0),(.int .i64 0),(.int .i64 0),(.int .i64 0),(.int .i64 0),(.int .i64 0),(.int .i64 0),(.int .i64 0),(.int .i64 0),(.int .i64 0),(.int .i64 0),(.int .i64 0),(.int .i64 0),(.int .i64 0),(.int .i64 0),(.int .i64 0),(.int .i64 0),(.int .i64 0),(.int .i64 0),(.int .i64 0),(.int .i64 0),(.int .i64 0),(.int .i64 0),(.int .i64 0)]),o_ (.store 42 r_1 r_0)]
(.seq (.seq (g_ [v_ l_0,o_ (.bin .lss r_0 (i_ 0)),v_ r_1,x_ 2 (.mov l_0),x_ 2 (.bin .geq r_3 (i_ 42)),s_ 3 (.pick r_2 T_ r_4)])
(.cond l_3
(h_ [s_ 1 (.mov (i_ (-1)))]
.ret)
.skip))
(h_ [v_ l_0,o_ (.indexAddrA 42 1 l_2 r_0),d_ r_1,w_ 1 r_2]
.ret))))⟩
def a96:Ann:=⟨[0,1,3,8,18],[],[],[],[]⟩
def t96L0:aQ:=(.seq (.seq (g_ [v_ l_2,s_ 3 (.bin .geq r_0 (i_ 0))])
(.cond l_3
.skip
(.exit 0)))
(.seq (.block 1
(h_ [v_ l_0,v_ l_2,d_ l_1,v_ l_2,o_ (.indexAddrS 1 r_2 r_3),d_ r_4,o_ (.callv r_0 [r_1,r_5]),s_ 4 (.un .not r_6)]
(.cond l_4
.ret
.skip)))
(g_ [v_ l_2,o_ (.bin .sub r_0 (i_ 1)),w_ 2 r_1])))
def t96:bE:=⟨2,5,[],
(h_ [d_ l_1,o_ (.len .sl r_0),o_ (.bin .sub r_1 (i_ 1)),w_ 2 r_2]
(.block 0
(.loop t96L0)))⟩
def a97:Ann:=⟨[0,2,3,4,5,6,7,8,9,13,22],[],[],[],[]⟩
def t97L0:aQ:=(.seq (.seq (g_ [v_ l_5,v_ l_0,o_ (.len .sl r_1),s_ 9 (.bin .lss r_0 r_2)])
(.cond l_9
.skip
(.exit 0)))
(.block 1
(h_ [v_ l_0,v_ l_5,c_ 110 [r_0,r_1],v_ r_2,o_ (.extract 0 r_3),o_ (.extract 1 r_3),o_ (.extract 2 r_3),w_ 6 r_4,w_ 7 r_5,w_ 8 r_6]
(.seq (.seq (g_ [v_ l_8,s_ 10 (.bin .neq r_0 (i_ 0))])
(.cond iD
(h_ [v_ l_5,w_ 1 N_,w_ 2 (i_ 4),w_ 3 r_0]
.ret)
.skip))
(h_ [v_ l_4,v_ l_6,v_ l_5,o_ (.build [(.int .i64 0),(.int .i64 0)] [(0,1,r_1),(1,1,r_2)]),o_ (.lit false [(.int .i64 0),(.int .i64 0)] 1 [(0,r_3)]),o_ (.append false 2 16 161 r_0 r_4),w_ 4 r_5]
(g_ [v_ l_5,v_ l_7,o_ (.bin .add r_0 r_1),w_ 5 r_2]))))))
def t97:bE:=⟨1,11,[.loc 1,.loc 2,.loc 3],
(h_ [w_ 1 N_,w_ 2 (i_ 0),w_ 3 (i_ 0)]
(h_ [w_ 4 N_]
(h_ [w_ 5 (i_ 0)]
(.seq (.block 0
(.loop t97L0))
(h_ [v_ l_4,w_ 1 r_0,w_ 2 (i_ 0),w_ 3 (i_ 0)]
.ret)))))⟩
def a98:Ann:=⟨[0,1,2,3,15,41,43,45,64,71],[1],[],[],[]⟩
def t98:bE:=⟨1,10,[.loc 2],
(h_ [o_ (.boxL 1 l_0),w_ 2 (i_ 0)]
(h_ [f_ 0 l_1,d_ r_0,w_ 3 r_1]
(.seq (.seq (g_ [v_ l_3,o_ (.bin .eql r_0 (i_ 1)),v_ r_1,x_ 2 (.mov l_3),x_ 2 (.bin .eql r_3 (i_ 2)),o_ (.pick r_2 T_ r_4),v_ r_5,x_ 6 (.mov l_3),x_ 6 (.bin .eql r_7 (i_ 3)),s_ 4 (.pick r_6 T_ r_8)])
(.cond l_4
(h_ [w_ 2 (i_ 0)]
.ret)
.skip))
(.seq (.seq (g_ [v_ l_3,o_ (.bin .eql r_0 (i_ 4)),v_ r_1,x_ 2 (.mov l_3),x_ 2 (.bin .eql r_3 (i_ 5)),o_ (.pick r_2 T_ r_4),v_ r_5,x_ 6 (.mov l_3),x_ 6 (.bin .eql r_7 (i_ 7)),o_ (.pick r_6 T_ r_8),v_ r_9,x_ 10 (.mov l_3),x_ 10 (.bin .eql eZ (i_ 8)),o_ (.pick dU T_ gK),v_ iU,x_ 14 (.mov l_3),x_ 14 (.bin .eql uC (i_ 10)),o_ (.pick oF T_ vP),v_ yP,x_ 18 (.mov l_3),x_ 18 (.bin .eql aO5 (i_ 12)),o_ (.pick aEg T_ aO6),v_ aO7,x_ 22 (.mov l_3),x_ 22 (.bin .eql aVi (i_ 13)),s_ 5 (.pick aVh T_ aVj)])
(.cond l_5
(h_ [w_ 2 (i_ 1)]
.ret)
.skip))
(.seq (.seq (g_ [v_ l_3,s_ 6 (.bin .eql r_0 (i_ 6))])
(.cond l_6
(h_ [w_ 2 (i_ 3)]
.ret)
.skip))
(.seq (.seq (g_ [v_ l_3,s_ 7 (.bin .eql r_0 (i_ 9))])
(.cond l_7
(h_ [f_ 1 l_1,d_ r_0,c_ 92 [r_1],w_ 2 r_2]
.ret)
.skip))
(.seq (.seq (g_ [v_ l_3,o_ (.bin .eql r_0 (i_ 14)),v_ r_1,x_ 2 (.mov l_3),x_ 2 (.bin .eql r_3 (i_ 11)),x_ 2 (.mov r_4),y_ 5 (.fieldAddr 1 l_1),y_ 5 (.load1 r_6),y_ 5 (.bin .eql r_7 (i_ 1)),y_ 5 (.mov r_8),x_ 9 (.fieldAddr 1 l_1),x_ 9 (.load1 dU),x_ 9 (.bin .eql eZ (i_ 2)),y_ 5 (.pick r_9 T_ gK),x_ 2 (.pick r_5 iU F_),s_ 8 (.pick r_2 T_ oF)])
(.cond l_8
(h_ [w_ 2 (i_ 2)]
.ret)
.skip))
(.seq (.seq (g_ [v_ l_3,o_ (.bin .eql r_0 (i_ 11)),v_ r_1,y_ 2 (.fieldAddr 1 l_1),y_ 2 (.load1 r_3),y_ 2 (.bin .eql r_4 (i_ 0)),s_ 9 (.pick r_2 r_5 F_)])
(.cond l_9
(h_ [w_ 2 (i_ 1)]
.ret)
.skip))
(h_ [s_ 2 (.mov (i_ (-1)))]
.ret)))))))))⟩
def a99:Ann:=⟨[0,2],[],[],[],[]⟩
def t99:bE:=⟨1,2,[.loc 1],
(h_ [w_ 1 F_]
(h_ [v_ l_0,o_ (.bin .geq r_0 (i_ 1)),v_ r_1,y_ 2 (.mov l_0),y_ 2 (.bin .leq r_3 (i_ 5)),o_ (.pick r_2 r_4 F_),v_ r_5,x_ 6 (.mov l_0),x_ 6 (.bin .eql r_7 (i_ 9)),o_ (.pick r_6 T_ r_8),v_ r_9,x_ 10 (.mov l_0),x_ 10 (.bin .eql eZ (i_ 11)),o_ (.pick dU T_ gK),w_ 1 iU]
.ret))⟩
def a100:Ann:=⟨[0,1,4],[],[],[],[]⟩
def t100:bE:=⟨2,3,[.loc 2],
(h_ [s_ 2 (.mov (.cst (.str [])))]
(h_ [v_ l_0,v_ l_1,c_ 111 [r_0,r_1],w_ 2 r_2]
.ret))⟩
def a101:Ann:=⟨[0,1,4],[],[],[],[]⟩
def t101:bE:=⟨2,3,[.loc 2],
(h_ [w_ 2 F_]
(h_ [v_ l_0,v_ l_1,o_ (.call false false 112 [r_0,r_1]),o_ (.bin .geq r_2 (i_ 0)),w_ 2 r_3]
.ret))⟩
def a102:Ann:=⟨[0,2],[],[],[],[]⟩
def t102:bE:=⟨1,2,[.loc 1],
(h_ [w_ 1 F_]
(h_ [v_ l_0,o_ (.bin .lss r_0 (.cst (.int .i32 48))),v_ r_1,x_ 2 (.mov l_0),x_ 2 (.bin .gtr r_3 (.cst (.int .i32 57))),o_ (.pick r_2 T_ r_4),w_ 1 r_5]
.ret))⟩
def a103:Ann:=⟨[0,2,3,10],[],[],[],[]⟩
def t103:bE:=⟨1,4,[.loc 1],
(h_ [w_ 1 F_]
(.seq (.block 0
(h_ [v_ l_0,o_ (.bin .leq (.cst (.int .i32 0)) r_0),v_ r_1,y_ 2 (.mov l_0),y_ 2 (.bin .lss r_3 (.cst (.int .i32 55296))),o_ (.pick r_2 r_4 F_),w_ 2 r_5]
(.cond l_2
(h_ [w_ 1 T_]
.ret)
(h_ [v_ l_0,o_ (.bin .lss (.cst (.int .i32 57343)) r_0),v_ r_1,y_ 2 (.mov l_0),y_ 2 (.bin .leq r_3 (.cst (.int .i32 1114111))),o_ (.pick r_2 r_4 F_),w_ 3 r_5]
(.cond l_3
(h_ [w_ 1 T_]
.ret)
.skip)))))
(h_ [w_ 1 F_]
.ret)))⟩
def a104:Ann:=⟨[0,2,3,4,5,6,8,11,12,13,17,27],[3],[],[],[]⟩
def t104L0:aQ:=(.seq (g_ [s_ 8 (.nextS l_7),s_ 9 (.extract 0 r_0)])
(.seq (.cond l_9
.skip
(.exit 0))
(.block 1
(h_ [o_ (.extract 1 l_8),o_ (.extract 2 l_8),w_ 4 r_0,w_ 5 r_1]
(.seq (.seq (g_ [v_ l_5,s_ 10 (.bin .eql r_0 (.cst (.int .i32 65533)))])
(.cond iD
(h_ [v_ l_0,v_ l_4,o_ (.slice (.sl 1) r_0 (some r_1) none none),c_ 113 [r_2],v_ r_3,o_ (.extract 0 r_4),o_ (.extract 1 r_4),v_ r_5,w_ 6 r_6]
(h_ [v_ l_5,v_ l_6,s_ 11 (.call true false 114 [r_0,r_1])]
(.cond mI
(h_ [v_ l_4,o_ (.build [(.int .i64 0),(.int .i64 0)] [(0,1,(i_ 4)),(1,1,r_0)]),w_ 1 N_,o_ (.store 2 l_2 r_1)]
.ret)
.skip)))
.skip))
(g_ [v_ l_3,v_ l_5,o_ (.conv (.toInt .i64) r_1),v_ l_4,o_ (.build [(.int .i64 0),(.int .i64 0)] [(0,1,r_2),(1,1,r_3)]),o_ (.lit false [(.int .i64 0),(.int .i64 0)] 1 [(0,r_4)]),o_ (.append false 2 16 170 r_0 r_5),w_ 3 r_6]))))))
def t104:bE:=⟨1,12,[.loc 1,.cell 2 2 true],
(h_ [w_ 1 N_,o_ (.allocL 2 [(.int .i64 0),(.int .i64 0)])]
(h_ [w_ 3 N_]
(.seq (.seq (g_ [v_ l_0,o_ (.conv .bytesStr r_0),s_ 7 (.range true r_1)])
(.block 0
(.loop t104L0)))
(h_ [v_ l_3,o_ (.build [(.int .i64 0),(.int .i64 0)] []),w_ 1 r_0,o_ (.store 2 l_2 r_1)]
.ret))))⟩
def a105:Ann:=⟨[0,2,3,10],[3],[],[],[]⟩
def t105:bE:=⟨1,4,[.loc 1],
(h_ [s_ 1 (.mov (.cst (.str [])))]
(h_ [o_ (.build [(.str []),(.str []),(.str []),(.str []),(.str []),(.str []),(.str []),(.str []),(.str []),(.str []),(.str []),(.str []),(.str []),(.str []),(.str []),(.str []),(.str []),(.str []),(.str []),(.str []),(.str []),(.str []),(.str []),(.str []),(.str []),(.str []),(.str []),(.str []),(.str []),(.str []),(.str []),(.str []),(.str []),(.str []),(.str []),(.str []),(.str []),(.str []),(.str []),(.str []),(.str []),(.str [])] [(0,1,(.cst (.str [101,113,63]))),(1,1,(.cst (.str [112,97,105,114,63]))),(2,1,(.cst (.str [99,111,110,115]))),(3,1,(.cst (.str [99,97,114]))),(4,1,(.cst (.str [99,100,114]))),(5,1,(.cst (.str [115,101,116,45,99,97,114,33]))),(6,1,(.cst (.str [115,101,116,45,99,100,114,33]))),(7,1,(.cst (.str [105,110,116,101,103,101,114,63]))),(8,1,(.cst (.str [37,43]))),(9,1,(.cst (.str [37,45]))),(10,1,(.cst (.str [37,42]))),(11,1,(.cst (.str [113,117,111,116,105,101,110,116]))),(12,1,(.cst (.str [114,101,109,97,105,110,100,101,114]))),(13,1,(.cst (.str [37,61]))),(14,1,(.cst (.str [37,60]))),(15,1,(.cst (.str [99,104,97,114,63]))),(16,1,(.cst (.str [99,104,97,114,45,62,105,110,116,101,103,101,114]))),(17,1,(.cst (.str [105,110,116,101,103,101,114,45,62,99,104,97,114]))),(18,1,(.cst (.str [115,116,114,105,110,103,63]))),(19,1,(.cst (.str [109,97,107,101,45,115,116,114,105,110,103]))),(20,1,(.cst (.str [115,116,114,105,110,103,45,108,101,110,103,116,104]))),(21,1,(.cst (.str [115,116,114,105,110,103,45,114,101,102]))),(22,1,(.cst (.str [115,116,114,105,110,103,45,115,101,116,33]))),(23,1,(.cst (.str [115,121,109,98,111,108,63]))),(24,1,(.cst (.str [115,121,109,98,111,108,45,62,115,116,114,105,110,103]))),(25,1,(.cst (.str [115,116,114,105,110,103,45,62,115,121,109,98,111,108]))),(26,1,(.cst (.str [118,101,99,116,111,114,63]))),(27,1,(.cst (.str [109,97,107,101,45,118,101,99,116,111,114]))),(28,1,(.cst (.str [118,101,99,116,111,114,45,108,101,110,103,116,104]))),(29,1,(.cst (.str [118,101,99,116,111,114,45,114,101,102]))),(30,1,(.cst (.str [118,101,99,116,111,114,45,115,101,116,33]))),(31,1,(.cst (.str [98,121,116,101,118,101,99,116,111,114,63]))),(32,1,(.cst (.str [109,97,107,101,45,98,121,116,101,118,101,99,116,111,114]))),(33,1,(.cst (.str [98,121,116,101,118,101,99,116,111,114,45,108,101,110,103,116,104]))),(34,1,(.cst (.str [98,121,116,101,118,101,99,116,111,114,45,117,56,45,114,101,102]))),(35,1,(.cst (.str [98,121,116,101,118,101,99,116,111,114,45,117,56,45,115,101,116,33]))),(36,1,(.cst (.str [112,114,111,99,101,100,117,114,101,63]))),(37,1,(.cst (.str [114,101,97,100,45,117,56]))),(38,1,(.cst (.str [119,114,105,116,101,45,117,56]))),(39,1,(.cst (.str [37,104,97,108,116]))),(40,1,(.cst (.str [101,111,102,45,111,98,106,101,99,116]))),(41,1,(.cst (.str [37,110,111,110,101])))]),o_ (.allocL 2 [(.str []),(.str []),(.str []),(.str []),(.str []),(.str []),(.str []),(.str []),(.str []),(.str []),(.str []),(.str []),(.str []),(.str []),(.str []),(.str []),(.str []),(.str []),(.str []),(.str []),(.str []),(.str []),(.str []),(.str []),(.str []),(.str []),(.str []),(.str []),(.str []),(.str []),(.str []),(.str []),(.str []),(.str []),(.str []),(.str []),(.str []),(.str []),(.str []),(.str []),(.str []),(.str [])]),o_ (.store 42 r_1 r_0)]
(.seq (.seq (g_ [v_ l_0,o_ (.bin .lss r_0 (i_ 0)),v_ r_1,x_ 2 (.mov l_0),x_ 2 (.bin .geq r_3 (i_ 42)),s_ 3 (.pick r_2 T_ r_4)])
(.cond l_3
(h_ [s_ 1 (.mov (.cst (.str [])))]
.ret)
.skip))
(h_ [v_ l_0,o_ (.indexAddrA 42 1 l_2 r_0),d_ r_1,w_ 1 r_2]
.ret))))⟩
def a106:Ann:=⟨[0,1,4,5,7,8,9,16],[],[],[],[]⟩
def t106L0:aQ:=(.seq (g_ [s_ 6 (.bin .lss l_5 l_4)])
(.seq (.cond l_6
.skip
(.exit 0))
(.seq (.block 1
(h_ [v_ l_5,w_ 3 r_0]
(h_ [v_ l_1,v_ l_0,v_ l_3,o_ (.indexAddrS 1 r_1 r_2),d_ r_3,s_ 7 (.callv r_0 [r_4])]
(.cond l_7
(h_ [v_ l_3,w_ 2 r_0]
.ret)
.skip))))
(g_ [o_ (.bin .add l_5 (i_ 1)),w_ 5 r_0]))))
def t106:bE:=⟨2,8,[.loc 2],
(h_ [w_ 2 (i_ 0)]
(.seq (.seq (g_ [v_ l_0,s_ 4 (.len .sl r_0),w_ 5 (i_ 0)])
(.block 0
(.loop t106L0)))
(h_ [s_ 2 (.mov (i_ (-1)))]
.ret)))⟩
def a110:Ann:=⟨[0,1,4,5,6,7,8,16,26,50],[],[],[],[(7,⟨[0,1,3,7,15,31,7,7,7,7,775,1991,4039,8191,16383],[0],[(1,[],[2,3,6,7,8,9,10,11,12]),(4,[11,12],[5,13,14])]⟩)]⟩
def t110L0:aQ:=(.seq (.seq (g_ [v_ l_5,o_ (.bin .leq r_0 (i_ 4)),v_ r_1,y_ 2 (.mov l_1),y_ 2 (.mov l_5),y_ 2 (.bin .add r_3 r_4),y_ 2 (.mov l_0),y_ 2 (.len .sl r_6),y_ 2 (.bin .leq r_5 r_7),s_ 8 (.pick r_2 r_8 F_)])
(.cond l_8
.skip
(.exit 0)))
(.seq (.block 1
(h_ [v_ l_0,v_ l_1,v_ l_1,v_ l_5,o_ (.bin .add r_2 r_3),o_ (.slice (.sl 1) r_0 (some r_1) (some r_4) none),c_ 126 [r_5],w_ 6 r_6]
(.seq (.draw [0] [(1,[],[2,3,6,7,8,9,10,11,12]),(4,[11,12],[5,13,14])] [v_ l_6,c_ 81 [r_0],v_ r_1,y_ 2 (.mov l_6),y_ 2 (.call true false 127 [r_3]),y_ 2 (.conv .bytesStr r_4),y_ 2 (.mov l_0),y_ 2 (.mov l_1),y_ 2 (.mov l_1),y_ 2 (.mov l_5),y_ 2 (.bin .add r_8 r_9),y_ 2 (.slice (.sl 1) r_6 (some r_7) (some dU) none),y_ 2 (.conv .bytesStr eZ),y_ 2 (.bin .eql r_5 gK),s_ 9 (.pick r_2 iU F_)])
(.cond l_9
(h_ [v_ l_6,v_ l_5,w_ 2 r_0,w_ 3 r_1,w_ 4 (i_ 0)]
.ret)
.skip))))
(g_ [v_ l_5,o_ (.bin .add r_0 (i_ 1)),w_ 5 r_1])))
def t110:bE:=⟨2,10,[.loc 2,.loc 3,.loc 4],
(h_ [w_ 2 (i_ 0),w_ 3 (i_ 0),w_ 4 (i_ 0)]
(.seq (.seq (g_ [v_ l_1,o_ (.bin .lss r_0 (i_ 0)),v_ r_1,x_ 2 (.mov l_1),x_ 2 (.mov l_0),x_ 2 (.len .sl r_4),x_ 2 (.bin .geq r_3 r_5),s_ 7 (.pick r_2 T_ r_6)])
(.cond l_7
(h_ [w_ 2 (i_ 0),w_ 3 (i_ 0),w_ 4 (i_ 2)]
.ret)
.skip))
(.seq (.seq (g_ [w_ 5 (i_ 1)])
(.block 0
(.loop t110L0)))
(h_ [w_ 2 (i_ 0),w_ 3 (i_ 0),w_ 4 (i_ 4)]
.ret))))⟩
def a111:Ann:=⟨[0,1,4,7],[],[],[],[]⟩
def t111:bE:=⟨2,4,[.loc 2],
(h_ [s_ 2 (.mov (.cst (.str [])))]
(.seq (.seq (g_ [v_ l_0,v_ l_1,s_ 3 (.call true false 128 [r_0,r_1])])
(.cond l_3
(h_ [v_ l_0,v_ l_1,o_ (.len .str r_1),o_ (.slice .str r_0 (some r_2) none none),w_ 2 r_3]
.ret)
.skip))
(h_ [v_ l_0,w_ 2 r_0]
.ret)))⟩
def a112:Ann:=⟨[0,1,4],[],[],[],[]⟩
def t112:bE:=⟨2,3,[.loc 2],
(h_ [w_ 2 (i_ 0)]
(h_ [v_ l_0,v_ l_1,o_ (.call false false 129 [r_0,r_1,T_]),w_ 2 r_2]
.ret))⟩
def a113:Ann:=⟨[0,2,3,5,6,7,8,9,13],[],[],[],[]⟩
def t113L0:aQ:=(.seq (g_ [s_ 7 (.bin .lss l_6 l_5)])
(.seq (.cond l_7
.skip
(.exit 0))
(.seq (.block 1
(h_ [o_ (.indexAddrS 1 l_4 l_6),d_ r_0,w_ 3 r_1]
(.seq (.seq (g_ [v_ l_3,s_ 8 (.bin .lss r_0 (.cst (.int .u8 128)))])
(.cond l_8
(h_ [v_ l_3,o_ (.conv (.toInt .i32) r_0),w_ 1 r_1,w_ 2 (i_ 1)]
.ret)
.skip))
(.exit 0))))
(g_ [o_ (.bin .add l_6 (i_ 1)),w_ 6 r_0]))))
def t113:bE:=⟨1,9,[.loc 1,.loc 2],
(h_ [s_ 1 (.mov (.cst (.int .i32 0))),w_ 2 (i_ 0)]
(.seq (.seq (g_ [w_ 4 l_0,s_ 5 (.len .sl r_0),w_ 6 (i_ 0)])
(.block 0
(.loop t113L0)))
(h_ [v_ l_0,c_ 130 [r_0],v_ r_1,o_ (.extract 0 r_2),o_ (.extract 1 r_2),w_ 1 r_3,w_ 2 r_4]
.ret)))⟩
def a114:Ann:=⟨[0,1,4],[],[],[],[]⟩
def t114:bE:=⟨2,3,[.loc 2],
(h_ [w_ 2 F_]
(h_ [v_ l_0,o_ (.bin .eql r_0 (.cst (.int .i32 65533))),v_ r_1,y_ 2 (.mov l_1),y_ 2 (.bin .leq r_3 (i_ 1)),o_ (.pick r_2 r_4 F_),w_ 2 r_5]
.ret))⟩
def a126:Ann:=⟨[0,2,3,4,5,13,18,23,29],[],[],[],[]⟩
def t126L0:aQ:=(.seq (.seq (g_ [v_ l_4,v_ l_0,o_ (.len .sl r_1),s_ 8 (.bin .lss r_0 r_2)])
(.cond l_8
.skip
(.exit 0)))
(.seq (.block 1
(g_ [v_ l_3,o_ (.bin .mul (i_ 64) r_0),v_ l_0,v_ l_4,o_ (.indexAddrS 1 r_2 r_3),d_ r_4,o_ (.conv (.toInt .i64) r_5),o_ (.bin .rem r_6 (i_ 64)),o_ (.bin .add r_1 r_7),w_ 3 r_8]))
(g_ [v_ l_4,o_ (.bin .add r_0 (i_ 1)),w_ 4 r_1])))
def t126:bE:=⟨1,9,[.loc 1],
(h_ [w_ 1 (i_ 0)]
(h_ [v_ l_0,o_ (.indexAddrS 1 r_0 (i_ 0)),d_ r_1,o_ (.conv (.toInt .i64) r_2),w_ 2 r_3]
(h_ [v_ l_2,w_ 3 r_0]
(.seq (.seq (g_ [v_ l_0,o_ (.len .sl r_0),s_ 5 (.bin .eql r_1 (i_ 2))])
(.cond l_5
(g_ [v_ l_2,o_ (.bin .rem r_0 (i_ 32)),w_ 3 r_1])
.skip))
(.seq (.seq (g_ [v_ l_0,o_ (.len .sl r_0),s_ 6 (.bin .eql r_1 (i_ 3))])
(.cond l_6
(g_ [v_ l_2,o_ (.bin .rem r_0 (i_ 16)),w_ 3 r_1])
.skip))
(.seq (.seq (g_ [v_ l_0,o_ (.len .sl r_0),s_ 7 (.bin .eql r_1 (i_ 4))])
(.cond l_7
(g_ [v_ l_2,o_ (.bin .rem r_0 (i_ 8)),w_ 3 r_1])
.skip))
(.seq (.seq (g_ [w_ 4 (i_ 1)])
(.block 0
(.loop t126L0)))
(h_ [v_ l_3,w_ 1 r_0]
.ret))))))))⟩
def a127:Ann:=⟨[0,2,4,9,20],[],[],[],[]⟩
def t127:bE:=⟨1,5,[.loc 1],
(h_ [w_ 1 N_]
(.seq (.seq (g_ [v_ l_0,s_ 2 (.bin .lss r_0 (i_ 128))])
(.cond l_2
(h_ [v_ l_0,o_ (.conv (.toInt .u8) r_0),o_ (.lit false [(.int .u8 0)] 1 [(0,r_1)]),w_ 1 r_2]
.ret)
.skip))
(.seq (.seq (g_ [v_ l_0,s_ 3 (.bin .lss r_0 (i_ 2048))])
(.cond l_3
(h_ [v_ l_0,o_ (.bin .quo r_0 (i_ 64)),o_ (.bin .add (i_ 192) r_1),o_ (.conv (.toInt .u8) r_2),v_ l_0,o_ (.bin .rem r_4 (i_ 64)),o_ (.bin .add (i_ 128) r_5),o_ (.conv (.toInt .u8) r_6),o_ (.lit false [(.int .u8 0)] 2 [(0,r_3),(1,r_7)]),w_ 1 r_8]
.ret)
.skip))
(.seq (.seq (g_ [v_ l_0,s_ 4 (.bin .lss r_0 (i_ 65536))])
(.cond l_4
(h_ [v_ l_0,o_ (.bin .quo r_0 (i_ 4096)),o_ (.bin .add (i_ 224) r_1),o_ (.conv (.toInt .u8) r_2),v_ l_0,o_ (.bin .quo r_4 (i_ 64)),o_ (.bin .rem r_5 (i_ 64)),o_ (.bin .add (i_ 128) r_6),o_ (.conv (.toInt .u8) r_7),v_ l_0,o_ (.bin .rem r_9 (i_ 64)),o_ (.bin .add (i_ 128) dU),o_ (.conv (.toInt .u8) eZ),o_ (.lit false [(.int .u8 0)] 3 [(0,r_3),(1,r_8),(2,gK)]),w_ 1 iU]
.ret)
.skip))
(h_ [v_ l_0,o_ (.bin .quo r_0 (i_ 262144)),o_ (.bin .add (i_ 240) r_1),o_ (.conv (.toInt .u8) r_2),v_ l_0,o_ (.bin .quo r_4 (i_ 4096)),o_ (.bin .rem r_5 (i_ 64)),o_ (.bin .add (i_ 128) r_6),o_ (.conv (.toInt .u8) r_7),v_ l_0,o_ (.bin .quo r_9 (i_ 64)),o_ (.bin .rem dU (i_ 64)),o_ (.bin .add (i_ 128) eZ),o_ (.conv (.toInt .u8) gK),v_ l_0,o_ (.bin .rem oF (i_ 64)),o_ (.bin .add (i_ 128) uC),o_ (.conv (.toInt .u8) vP),o_ (.lit false [(.int .u8 0)] 4 [(0,r_3),(1,r_8),(2,iU),(3,yP)]),w_ 1 aEg]
.ret)))))⟩
def a128:Ann:=⟨[0,1,4],[],[],[],[]⟩
def t128:bE:=⟨2,3,[.loc 2],
(h_ [w_ 2 F_]
(h_ [v_ l_0,o_ (.len .str r_0),v_ l_1,o_ (.len .str r_2),o_ (.bin .geq r_1 r_3),v_ r_4,y_ 5 (.mov l_0),y_ 5 (.mov l_1),y_ 5 (.len .str r_7),y_ 5 (.slice .str r_6 none (some r_8) none),y_ 5 (.mov l_1),y_ 5 (.bin .eql r_9 dU),o_ (.pick r_5 eZ F_),w_ 2 gK]
.ret))⟩
def a129:Ann:=⟨[0,1,2,6,7,8,10,11,12,19],[],[],[],[]⟩
def t129L0:aQ:=(.seq (g_ [s_ 7 (.nextS l_6),s_ 8 (.extract 0 r_0)])
(.seq (.cond l_8
.skip
(.exit 0))
(.block 1
(h_ [o_ (.extract 1 l_7),o_ (.extract 2 l_7),w_ 4 r_0,w_ 5 r_1]
(h_ [v_ l_1,v_ l_5,o_ (.callv r_0 [r_1]),v_ l_2,s_ 9 (.eqB false .bool r_2 r_3)]
(.cond l_9
(h_ [v_ l_4,w_ 3 r_0]
.ret)
.skip))))))
def t129:bE:=⟨3,10,[.loc 3],
(h_ [w_ 3 (i_ 0)]
(.seq (.seq (g_ [v_ l_0,s_ 6 (.range true r_0)])
(.block 0
(.loop t129L0)))
(h_ [s_ 3 (.mov (i_ (-1)))]
.ret)))⟩
def a130:Ann:=⟨[0,2,3,4,5,6,7,8,9,10,11,12,16,24,47,60,62,79,81,103],[9],[],[],[]⟩
def t130:bE:=⟨1,20,[.loc 1,.loc 2],
(h_ [s_ 1 (.mov (.cst (.int .i32 0))),w_ 2 (i_ 0)]
(h_ [v_ l_0,o_ (.len .sl r_0),w_ 3 r_1]
(.seq (.seq (g_ [v_ l_3,s_ 12 (.bin .lss r_0 (i_ 1))])
(.cond pF
(h_ [s_ 1 (.mov (.cst (.int .i32 65533))),w_ 2 (i_ 0)]
.ret)
.skip))
(h_ [v_ l_0,o_ (.indexAddrS 1 r_0 (i_ 0)),d_ r_1,w_ 4 r_2]
(h_ [v_ l_4,o_ (.indexAddrA 256 1 (.glob 0) r_0),d_ r_1,w_ 5 r_2]
(.seq (.seq (g_ [v_ l_5,s_ 13 (.bin .geq r_0 (.cst (.int .u8 240)))])
(.cond gW
(h_ [v_ l_5,o_ (.conv (.toInt .i32) r_0),o_ (.bin .shl r_1 (.cst (.int .u64 31))),o_ (.bin .shr r_2 (.cst (.int .u64 31))),w_ 6 r_3]
(h_ [v_ l_0,o_ (.indexAddrS 1 r_0 (i_ 0)),d_ r_1,o_ (.conv (.toInt .i32) r_2),v_ l_6,o_ (.bin .andNot r_3 r_4),v_ l_6,o_ (.bin .and (.cst (.int .i32 65533)) r_6),o_ (.bin .or r_5 r_7),w_ 1 r_8,w_ 2 (i_ 1)]
.ret))
.skip))
(h_ [v_ l_5,o_ (.bin .and r_0 (.cst (.int .u8 7))),o_ (.conv (.toInt .i64) r_1),w_ 7 r_2]
(h_ [v_ l_5,o_ (.bin .shr r_0 (.cst (.int .u64 4))),o_ (.indexAddrA 16 2 (.glob 1) r_1),o_ (.loadN 2 r_2),o_ (.allocL 8 [(.int .u8 0),(.int .u8 0)]),o_ (.store 2 r_4 r_3)]
(.seq (.seq (g_ [v_ l_3,v_ l_7,s_ 14 (.bin .lss r_0 r_1)])
(.cond lM
(h_ [s_ 1 (.mov (.cst (.int .i32 65533))),w_ 2 (i_ 1)]
.ret)
.skip))
(h_ [v_ l_0,o_ (.indexAddrS 1 r_0 (i_ 1)),d_ r_1,w_ 9 r_2]
(.seq (.seq (g_ [v_ l_9,f_ 0 l_8,d_ r_1,o_ (.bin .lss r_0 r_2),v_ r_3,x_ 4 (.fieldAddr 1 l_8),x_ 4 (.load1 r_5),x_ 4 (.mov l_9),x_ 4 (.bin .lss r_6 r_7),s_ 15 (.pick r_4 T_ r_8)])
(.cond xJ
(h_ [s_ 1 (.mov (.cst (.int .i32 65533))),w_ 2 (i_ 1)]
.ret)
.skip))
(.seq (.seq (g_ [v_ l_7,s_ 16 (.bin .leq r_0 (i_ 2))])
(.cond aDq
(h_ [v_ l_4,o_ (.bin .and r_0 (.cst (.int .u8 31))),o_ (.conv (.toInt .i32) r_1),o_ (.bin .shl r_2 (.cst (.int .u64 6))),v_ l_9,o_ (.bin .and r_4 (.cst (.int .u8 63))),o_ (.conv (.toInt .i32) r_5),o_ (.bin .or r_3 r_6),w_ 1 r_7,w_ 2 (i_ 2)]
.ret)
.skip))
(h_ [v_ l_0,o_ (.indexAddrS 1 r_0 (i_ 2)),d_ r_1,w_ 10 r_2]
(.seq (.seq (g_ [v_ iD,o_ (.bin .lss r_0 (.cst (.int .u8 128))),v_ r_1,x_ 2 (.mov iD),x_ 2 (.bin .lss (.cst (.int .u8 191)) r_3),s_ 17 (.pick r_2 T_ r_4)])
(.cond yQ
(h_ [s_ 1 (.mov (.cst (.int .i32 65533))),w_ 2 (i_ 1)]
.ret)
.skip))
(.seq (.seq (g_ [v_ l_7,s_ 18 (.bin .leq r_0 (i_ 3))])
(.cond qX
(h_ [v_ l_4,o_ (.bin .and r_0 (.cst (.int .u8 15))),o_ (.conv (.toInt .i32) r_1),o_ (.bin .shl r_2 (.cst (.int .u64 12))),v_ l_9,o_ (.bin .and r_4 (.cst (.int .u8 63))),o_ (.conv (.toInt .i32) r_5),o_ (.bin .shl r_6 (.cst (.int .u64 6))),o_ (.bin .or r_3 r_7),v_ iD,o_ (.bin .and r_9 (.cst (.int .u8 63))),o_ (.conv (.toInt .i32) dU),o_ (.bin .or r_8 eZ),w_ 1 gK,w_ 2 (i_ 3)]
.ret)
.skip))
(h_ [v_ l_0,o_ (.indexAddrS 1 r_0 (i_ 3)),d_ r_1,w_ 11 r_2]
(.seq (.seq (g_ [v_ mI,o_ (.bin .lss r_0 (.cst (.int .u8 128))),v_ r_1,x_ 2 (.mov mI),x_ 2 (.bin .lss (.cst (.int .u8 191)) r_3),s_ 19 (.pick r_2 T_ r_4)])
(.cond aLp
(h_ [s_ 1 (.mov (.cst (.int .i32 65533))),w_ 2 (i_ 1)]
.ret)
.skip))
(h_ [v_ l_4,o_ (.bin .and r_0 (.cst (.int .u8 7))),o_ (.conv (.toInt .i32) r_1),o_ (.bin .shl r_2 (.cst (.int .u64 18))),v_ l_9,o_ (.bin .and r_4 (.cst (.int .u8 63))),o_ (.conv (.toInt .i32) r_5),o_ (.bin .shl r_6 (.cst (.int .u64 12))),o_ (.bin .or r_3 r_7),v_ iD,o_ (.bin .and r_9 (.cst (.int .u8 63))),o_ (.conv (.toInt .i32) dU),o_ (.bin .shl eZ (.cst (.int .u64 6))),o_ (.bin .or r_8 gK),v_ mI,o_ (.bin .and oF (.cst (.int .u8 63))),o_ (.conv (.toInt .i32) uC),o_ (.bin .or iU vP),w_ 1 yP,w_ 2 (i_ 4)]
.ret))))))))))))))))))⟩
def g0:List IV:=[(.int .u8 240),(.int .u8 240),(.int .u8 240),(.int .u8 240),(.int .u8 240),(.int .u8 240),(.int .u8 240),(.int .u8 240),(.int .u8 240),(.int .u8 240),(.int .u8 240),(.int .u8 240),(.int .u8 240),(.int .u8 240),(.int .u8 240),(.int .u8 240),(.int .u8 240),(.int .u8 240),(.int .u8 240),(.int .u8 240),(.int .u8 240),(.int .u8 240),(.int .u8 240),(.int .u8 240),(.int .u8 240),(.int .u8 240),(.int .u8 240),(.int .u8 240),(.int .u8 240),(.int .u8 240),(.int .u8 240),(.int .u8 240),(.int .u8 240),(.int .u8 240),(.int .u8 240),(.int .u8 240),(.int .u8 240),(.int .u8 240),(.int .u8 240),(.int .u8 240),(.int .u8 240),(.int .u8 240),(.int .u8 240),(.int .u8 240),(.int .u8 240),(.int .u8 240),(.int .u8 240),(.int .u8 240),(.int .u8 240),(.int .u8 240),(.int .u8 240),(.int .u8 240),(.int .u8 240),(.int .u8 240),(.int .u8 240),(.int .u8 240),(.int .u8 240),(.int .u8 240),(.int .u8 240),(.int .u8 240),(.int .u8 240),(.int .u8 240),(.int .u8 240),(.int .u8 240),(.int .u8 240),(.int .u8 240),(.int .u8 240),(.int .u8 240),(.int .u8 240),(.int .u8 240),(.int .u8 240),(.int .u8 240),(.int .u8 240),(.int .u8 240),(.int .u8 240),(.int .u8 240),(.int .u8 240),(.int .u8 240),(.int .u8 240),(.int .u8 240),(.int .u8 240),(.int .u8 240),(.int .u8 240),(.int .u8 240),(.int .u8 240),(.int .u8 240),(.int .u8 240),(.int .u8 240),(.int .u8 240),(.int .u8 240),(.int .u8 240),(.int .u8 240),(.int .u8 240),(.int .u8 240),(.int .u8 240),(.int .u8 240),(.int .u8 240),(.int .u8 240),(.int .u8 240),(.int .u8 240),(.int .u8 240),(.int .u8 240),(.int .u8 240),(.int .u8 240),(.int .u8 240),(.int .u8 240),(.int .u8 240),(.int .u8 240),(.int .u8 240),(.int .u8 240),(.int .u8 240),(.int .u8 240),(.int .u8 240),(.int .u8 240),(.int .u8 240),(.int .u8 240),(.int .u8 240),(.int .u8 240),(.int .u8 240),(.int .u8 240),(.int .u8 240),(.int .u8 240),(.int .u8 240),(.int .u8 240),(.int .u8 240),(.int .u8 240),(.int .u8 240),(.int .u8 240),(.int .u8 241),(.int .u8 241),(.int .u8 241),(.int .u8 241),(.int .u8 241),(.int .u8 241),(.int .u8 241),(.int .u8 241),(.int .u8 241),(.int .u8 241),(.int .u8 241),(.int .u8 241),(.int .u8 241),(.int .u8 241),(.int .u8 241),(.int .u8 241),(.int .u8 241),(.int .u8 241),(.int .u8 241),(.int .u8 241),(.int .u8 241),(.int .u8 241),(.int .u8 241),(.int .u8 241),(.int .u8 241),(.int .u8 241),(.int .u8 241),(.int .u8 241),(.int .u8 241),(.int .u8 241),(.int .u8 241),(.int .u8 241),(.int .u8 241),(.int .u8 241),(.int .u8 241),(.int .u8 241),(.int .u8 241),(.int .u8 241),(.int .u8 241),(.int .u8 241),(.int .u8 241),(.int .u8 241),(.int .u8 241),(.int .u8 241),(.int .u8 241),(.int .u8 241),(.int .u8 241),(.int .u8 241),(.int .u8 241),(.int .u8 241),(.int .u8 241),(.int .u8 241),(.int .u8 241),(.int .u8 241),(.int .u8 241),(.int .u8 241),(.int .u8 241),(.int .u8 241),(.int .u8 241),(.int .u8 241),(.int .u8 241),(.int .u8 241),(.int .u8 241),(.int .u8 241),(.int .u8 241),(.int .u8 241),(.int .u8 2),(.int .u8 2),(.int .u8 2),(.int .u8 2),(.int .u8 2),(.int .u8 2),(.int .u8 2),(.int .u8 2),(.int .u8 2),(.int .u8 2),(.int .u8 2),(.int .u8 2),(.int .u8 2),(.int .u8 2),(.int .u8 2),(.int .u8 2),(.int .u8 2),(.int .u8 2),(.int .u8 2),(.int .u8 2),(.int .u8 2),(.int .u8 2),(.int .u8 2),(.int .u8 2),(.int .u8 2),(.int .u8 2),(.int .u8 2),(.int .u8 2),(.int .u8 2),(.int .u8 2),(.int .u8 19),(.int .u8 3),(.int .u8 3),(.int .u8 3),(.int .u8 3),(.int .u8 3),(.int .u8 3),(.int .u8 3),(.int .u8 3),(.int .u8 3),(.int .u8 3),(.int .u8 3),(.int .u8 3),(.int .u8 35),(.int .u8 3),(.int .u8 3),(.int .u8 52),(.int .u8 4),(.int .u8 4),(.int .u8 4),(.int .u8 68),(.int .u8 241),(.int .u8 241),(.int .u8 241),(.int .u8 241),(.int .u8 241),(.int .u8 241),(.int .u8 241),(.int .u8 241),(.int .u8 241),(.int .u8 241),(.int .u8 241)]
def g1:List IV:=[(.int .u8 128),(.int .u8 191),(.int .u8 160),(.int .u8 191),(.int .u8 128),(.int .u8 159),(.int .u8 144),(.int .u8 191),(.int .u8 128),(.int .u8 143),(.int .u8 0),(.int .u8 0),(.int .u8 0),(.int .u8 0),(.int .u8 0),(.int .u8 0),(.int .u8 0),(.int .u8 0),(.int .u8 0),(.int .u8 0),(.int .u8 0),(.int .u8 0),(.int .u8 0),(.int .u8 0),(.int .u8 0),(.int .u8 0),(.int .u8 0),(.int .u8 0),(.int .u8 0),(.int .u8 0),(.int .u8 0),(.int .u8 0)]
def tbl:List (Option bE):=[none,none,none,some t3,none,none,none,some t7,some t8,some t9,some t10,some t11,some t12,none,none,none,none,none,some t18,some t19,some t20,some t21,some t22,some t23,some t24,some t25,some t26,some t27,some t28,some t29,some t30,some t31,some t32,some t33,some t34,some t35,some t36,some t37,none,none,none,none,none,some t43,some t44,some t45,some t46,some t47,some t48,some t49,some t50,some t51,some t52,some t53,some t54,some t55,some t56,some t57,some t58,some t59,some t60,some t61,some t62,some t63,some t64,some t65,none,none,none,none,some t70,some t71,some t72,some t73,some t74,some t75,some t76,some t77,some t78,some t79,some t80,some t81,some t82,some t83,some t84,some t85,some t86,some t87,some t88,some t89,some t90,some t91,some t92,none,none,none,some t96,some t97,some t98,some t99,some t100,some t101,some t102,some t103,some t104,some t105,some t106,none,none,none,some t110,some t111,some t112,some t113,some t114,none,none,none,none,none,none,none,none,none,none,none,some t126,some t127,some t128,some t129,some t130]
def gtbl:List (Option (List IV)):=[some g0,some g1]
def K:TM.bV:=⟨fun k=>tbl.getD k none,fun g=>gtbl.getD g none,fun f=>aDp prims f⟩
def cC (k : Nat) (tf : bE) : Prop := ∃ (A : Ann) (fn : Func), Tryd.prog.funcs[k]? = some fn ∧ fn.name ≠ "runtime.NumGoroutine" ∧ rZ Tryd.prog opts A fn = some tf
theorem m_ {k : Nat} {t : bE} (a : Ann) {f : Func} (h : Tryd.prog.funcs[k]? = some f) (n : (f.name == "runtime.NumGoroutine") = false := by kernel_rfl) (c : rZ Tryd.prog opts a f = some t := by kernel_rfl) : cC k t := ⟨a,f,h,fun e => by rw [e] at n; simp at n,c⟩
theorem q3:cC 3 t3:=m_ a3 Tryd.func3
theorem q7:cC 7 t7:=m_ a7 Tryd.func7
theorem q8:cC 8 t8:=m_ a8 Tryd.func8
theorem q9:cC 9 t9:=m_ a9 Tryd.func9
theorem q10:cC 10 t10:=m_ a10 Tryd.func10
theorem q11:cC 11 t11:=m_ a11 Tryd.func11
theorem q12:cC 12 t12:=m_ a12 Tryd.func12
theorem q18:cC 18 t18:=m_ a18 Tryd.func18
theorem q19:cC 19 t19:=m_ a19 Tryd.func19
theorem q20:cC 20 t20:=m_ a20 Tryd.func20
theorem q21:cC 21 t21:=m_ a21 Tryd.func21
theorem q22:cC 22 t22:=m_ a22 Tryd.func22
theorem q23:cC 23 t23:=m_ a23 Tryd.func23
theorem q24:cC 24 t24:=m_ a24 Tryd.func24
theorem q25:cC 25 t25:=m_ a25 Tryd.func25
theorem q26:cC 26 t26:=m_ a26 Tryd.func26
theorem q27:cC 27 t27:=m_ a27 Tryd.func27
theorem q28:cC 28 t28:=m_ a28 Tryd.func28
theorem q29:cC 29 t29:=m_ a29 Tryd.func29
theorem q30:cC 30 t30:=m_ a30 Tryd.func30
theorem q31:cC 31 t31:=m_ a31 Tryd.func31
theorem q32:cC 32 t32:=m_ a32 Tryd.func32
theorem q33:cC 33 t33:=m_ a33 Tryd.func33
theorem q34:cC 34 t34:=m_ a34 Tryd.func34
theorem q35:cC 35 t35:=m_ a35 Tryd.func35
theorem q36:cC 36 t36:=m_ a36 Tryd.func36
theorem q37:cC 37 t37:=m_ a37 Tryd.func37
theorem q43:cC 43 t43:=m_ a43 Tryd.func43
theorem q44:cC 44 t44:=m_ a44 Tryd.func44
theorem q45:cC 45 t45:=m_ a45 Tryd.func45
theorem q46:cC 46 t46:=m_ a46 Tryd.func46
theorem q47:cC 47 t47:=m_ a47 Tryd.func47
theorem q48:cC 48 t48:=m_ a48 Tryd.func48
theorem q49:cC 49 t49:=m_ a49 Tryd.func49
theorem q50:cC 50 t50:=m_ a50 Tryd.func50
theorem q51:cC 51 t51:=m_ a51 Tryd.func51
theorem q52:cC 52 t52:=m_ a52 Tryd.func52
theorem q53:cC 53 t53:=m_ a53 Tryd.func53
theorem q54:cC 54 t54:=m_ a54 Tryd.func54
theorem q55:cC 55 t55:=m_ a55 Tryd.func55
theorem q56:cC 56 t56:=m_ a56 Tryd.func56
theorem q57:cC 57 t57:=m_ a57 Tryd.func57
theorem q58:cC 58 t58:=m_ a58 Tryd.func58
theorem q59:cC 59 t59:=m_ a59 Tryd.func59
theorem q60:cC 60 t60:=m_ a60 Tryd.func60
theorem q61:cC 61 t61:=m_ a61 Tryd.func61
theorem q62:cC 62 t62:=m_ a62 Tryd.func62
theorem q63:cC 63 t63:=m_ a63 Tryd.func63
theorem q64:cC 64 t64:=m_ a64 Tryd.func64
theorem q65:cC 65 t65:=m_ a65 Tryd.func65
theorem q70:cC 70 t70:=m_ a70 Tryd.func70
theorem q71:cC 71 t71:=m_ a71 Tryd.func71
theorem q72:cC 72 t72:=m_ a72 Tryd.func72
theorem q73:cC 73 t73:=m_ a73 Tryd.func73
theorem q74:cC 74 t74:=m_ a74 Tryd.func74
theorem q75:cC 75 t75:=m_ a75 Tryd.func75
theorem q76:cC 76 t76:=m_ a76 Tryd.func76
theorem q77:cC 77 t77:=m_ a77 Tryd.func77
theorem q78:cC 78 t78:=m_ a78 Tryd.func78
theorem q79:cC 79 t79:=m_ a79 Tryd.func79
theorem q80:cC 80 t80:=m_ a80 Tryd.func80
theorem q81:cC 81 t81:=m_ a81 Tryd.func81
theorem q82:cC 82 t82:=m_ a82 Tryd.func82
theorem q83:cC 83 t83:=m_ a83 Tryd.func83
theorem q84:cC 84 t84:=m_ a84 Tryd.func84
theorem q85:cC 85 t85:=m_ a85 Tryd.func85
theorem q86:cC 86 t86:=m_ a86 Tryd.func86
theorem q87:cC 87 t87:=m_ a87 Tryd.func87
theorem q88:cC 88 t88:=m_ a88 Tryd.func88
theorem q89:cC 89 t89:=m_ a89 Tryd.func89
theorem q90:cC 90 t90:=m_ a90 Tryd.func90
theorem q91:cC 91 t91:=m_ a91 Tryd.func91
theorem q92:cC 92 t92:=m_ a92 Tryd.func92
theorem q96:cC 96 t96:=m_ a96 Tryd.func96
theorem q97:cC 97 t97:=m_ a97 Tryd.func97
theorem q98:cC 98 t98:=m_ a98 Tryd.func98
theorem q99:cC 99 t99:=m_ a99 Tryd.func99
theorem q100:cC 100 t100:=m_ a100 Tryd.func100
theorem q101:cC 101 t101:=m_ a101 Tryd.func101
theorem q102:cC 102 t102:=m_ a102 Tryd.func102
theorem q103:cC 103 t103:=m_ a103 Tryd.func103
theorem q104:cC 104 t104:=m_ a104 Tryd.func104
theorem q105:cC 105 t105:=m_ a105 Tryd.func105
theorem q106:cC 106 t106:=m_ a106 Tryd.func106
theorem q110:cC 110 t110:=m_ a110 Tryd.func110
theorem q111:cC 111 t111:=m_ a111 Tryd.func111
theorem q112:cC 112 t112:=m_ a112 Tryd.func112
theorem q113:cC 113 t113:=m_ a113 Tryd.func113
theorem q114:cC 114 t114:=m_ a114 Tryd.func114
theorem q126:cC 126 t126:=m_ a126 Tryd.func126
theorem q127:cC 127 t127:=m_ a127 Tryd.func127
theorem q128:cC 128 t128:=m_ a128 Tryd.func128
theorem q129:cC 129 t129:=m_ a129 Tryd.func129
theorem q130:cC 130 t130:=m_ a130 Tryd.func130
theorem bM4:aFj cC 0 tbl:=⟨q3,q7,q8,q9,q10,q11,q12,q18,q19,q20,q21,q22,q23,q24,q25,q26,q27,q28,q29,q30,q31,q32,q33,q34,q35,q36,q37,q43,q44,q45,q46,q47,q48,q49,q50,q51,q52,q53,q54,q55,q56,q57,q58,q59,q60,q61,q62,q63,q64,q65,q70,q71,q72,q73,q74,q75,q76,q77,q78,q79,q80,q81,q82,q83,q84,q85,q86,q87,q88,q89,q90,q91,q92,q96,q97,q98,q99,q100,q101,q102,q103,q104,q105,q106,q110,q111,q112,q113,q114,q126,q127,q128,q129,q130,trivial⟩
theorem kok:KOK Tryd.prog opts K:=⟨fun k tf h=>aFk bM4 k tf h,fun f p h=>aVf (aXr opts K) h,by kernel_rfl⟩
end Go.Proofs.YtageemgcnoblnaaDoor
