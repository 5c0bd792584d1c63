/- The functions of this seat, compiled for the evaluator TM, a part. By program. Condition: none. -/
import Derived.Test.YtehlgnfhkidgoaaGreatDoorTmProg1
set_option maxRecDepth 100000
set_option linter.unusedVariables false
namespace Go.Proofs.YtehlgnfhkidgoaaGreatDoor
open Go Go.TM
def a113:Ann:=⟨[0,1,2,4,20,28,39,53],[4],[],[],[(0,⟨[0,1,3,7,15,0,63,127,0,511],[0,1,2,3,4,5,6,7,8],[(9,[],[])]⟩),(3,⟨[0,0,2,6,14,0,32,126,254,511,1023],[0,1,2,3,4,5,6,7,8],[(9,[],[10])]⟩),(4,⟨[0,1,3,7,15,31,15,79,207,463,975,1999,4095,8191],[0,1,2,3,4,5,6,7,8,9,10,11,12,13],[]⟩)]⟩
def t113:aS:=⟨3,8,[],
(.seq (.draw [0,1,2,3,4,5,6,7,8] [(9,[],[])] [d_ l_1,o_ (.nilCheck r_0),f_ 0 r_1,f_ 6 r_2,d_ r_3,d_ l_2,o_ (.indexAddrS 8 r_4 r_5),o_ (.loadN 8 r_6),s_ 3 (.allocH 29 Z8_),o_ (.store 8 r_8 r_7)])
(.seq (.seq (g_ [f_ 0 l_3,d_ r_0,o_ (.bin .eql r_1 (i_ 68)),v_ r_2,x_ 3 (.fieldAddr 0 l_3),x_ 3 (.load1 r_4),x_ 3 (.bin .eql r_5 (i_ 72)),s_ 4 (.pick r_3 T_ r_6)])
(.cond l_4
.ret
.skip))
(.seq (.seq (g_ [f_ 0 l_3,d_ r_0,c_ 72 [r_1],v_ r_2,x_ 3 (.fieldAddr 0 l_3),x_ 3 (.load1 r_4),x_ 3 (.bin .eql r_5 (i_ 66)),s_ 5 (.pick r_3 T_ r_6)])
(.cond l_5
(.seq (.draw [0,1,2,3,4,5,6,7,8] [(9,[],[10])] [v_ l_0,d_ l_1,o_ (.nilCheck r_1),f_ 7 r_2,d_ r_3,f_ 5 l_3,d_ r_5,o_ (.lookup (.leaf .int) (.agg Z1_) false r_4 r_6),o_ (.field 0 1 false r_7),o_ (.callv r_0 [r_8]),s_ 6 (.un .not r_9)])
(.cond l_6
.ret
.skip))
.skip))
(.seq (.draw [0,1,2,3,4,5,6,7,8,9,10,11,12,13] [] [f_ 0 l_3,d_ r_0,o_ (.bin .neq r_1 (i_ 66)),v_ r_2,y_ 3 (.load1 l_2),y_ 3 (.bin .add r_4 (i_ 1)),y_ 3 (.load1 l_1),y_ 3 (.nilCheck r_6),y_ 3 (.fieldAddr 0 r_7),y_ 3 (.fieldAddr 6 r_8),y_ 3 (.load1 r_9),y_ 3 (.len .sl gE),y_ 3 (.bin .lss r_5 iE),s_ 7 (.pick r_3 kO F_)])
(.cond l_7
(g_ [v_ l_0,d_ l_2,o_ (.bin .add r_1 (i_ 1)),o_ (.callv r_0 [r_2])])
.skip)))))⟩
def a114:Ann:=⟨[0,2],[],[],[],[]⟩
def t114:aS:=⟨1,2,[.loc 1],
(h_ [w_ 1 N_]
(h_ [v_ l_0,o_ (.call false false 129 [N_,r_0]),w_ 1 r_1]
.ret))⟩
def a116:Ann:=⟨[0,1,3,5,7,13],[3],[],[],[]⟩
def t116L0:aL:=(.seq (g_ [o_ (.nextM l_3),s_ 4 (.extract 0 r_0)])
(.seq (.cond l_4
.skip
(.exit 0))
(.block 1
(h_ [o_ (.entryM l_3),o_ (.extract 0 r_0),o_ (.allocL 2 [(.int .i64 0),(.int .i64 0)]),o_ (.store 2 r_2 r_1)]
(h_ [v_ l_0,o_ (.loadN 2 l_2),o_ (.callv r_0 [r_1]),s_ 5 (.un .not r_2)]
(.cond l_5
.ret
.skip))))))
def t116:aS:=⟨2,6,[],
(h_ [d_ l_1,s_ 3 (.range false r_0)]
(.block 0
(.loop t116L0)))⟩
def a117:Ann:=⟨[0,2,3,5,6,7,8,9,14],[],[],[],[]⟩
def t117L0:aL:=(.seq (g_ [s_ 7 (.bin .lss l_6 l_5)])
(.seq (.cond l_7
.skip
(.exit 0))
(.seq (.block 1
(h_ [o_ (.indexAddrS 1 l_4 l_6),d_ r_0,w_ 3 r_1]
(h_ [v_ l_3,v_ l_2,s_ 8 (.bin .neq r_0 r_1)]
(.cond l_8
(h_ [v_ l_3,w_ 1 r_0]
.ret)
.skip))))
(g_ [o_ (.bin .add l_6 (i_ 1)),w_ 6 r_0]))))
def t117:aS:=⟨1,9,[.loc 1],
(h_ [w_ 1 (i_ 0)]
(h_ [w_ 2 (i_ 0)]
(.seq (.seq (g_ [w_ 4 l_0,s_ 5 (.len .sl r_0),w_ 6 (i_ 0)])
(.block 0
(.loop t117L0)))
(h_ [v_ l_2,w_ 1 r_0]
.ret))))⟩
def a118:Ann:=⟨[0,1,4,5,7,8,9,16],[],[],[],[]⟩
def t118L0:aL:=(.seq (g_ [s_ 6 (.bin .lss l_5 l_4)])
(.seq (.cond l_6
.skip
(.exit 0))
(.seq (.block 1
(h_ [v_ l_5,w_ 3 r_0]
(h_ [v_ l_1,v_ l_0,v_ l_3,o_ (.indexAddrS 2 r_1 r_2),o_ (.loadN 2 r_3),s_ 7 (.callv r_0 [r_4])]
(.cond l_7
(h_ [v_ l_3,w_ 2 r_0]
.ret)
.skip))))
(g_ [o_ (.bin .add l_5 (i_ 1)),w_ 5 r_0]))))
def t118:aS:=⟨2,8,[.loc 2],
(h_ [w_ 2 (i_ 0)]
(.seq (.seq (g_ [v_ l_0,s_ 4 (.len .sl r_0),w_ 5 (i_ 0)])
(.block 0
(.loop t118L0)))
(h_ [s_ 2 (.mov (i_ (-1)))]
.ret)))⟩
def a119:Ann:=⟨[0,1,4],[],[],[],[]⟩
def t119:aS:=⟨2,3,[.loc 2],
(h_ [w_ 2 F_]
(h_ [v_ l_1,o_ (.bin .lss r_0 (i_ 32)),v_ r_1,x_ 2 (.mov l_0),x_ 2 (.nilCheck r_3),x_ 2 (.fieldAddr 3 r_4),x_ 2 (.load1 r_5),x_ 2 (.mov l_1),x_ 2 (.indexAddrS 1 r_6 r_7),x_ 2 (.load1 r_8),x_ 2 (.len .mp r_9),x_ 2 (.bin .geq gE (i_ 24)),o_ (.pick r_2 T_ iE),w_ 2 kO]
.ret))⟩
def a120:Ann:=⟨[0,2],[],[],[],[]⟩
def t120:aS:=⟨1,2,[.loc 1],
(h_ [w_ 1 F_]
(h_ [v_ l_0,v_ l_0,o_ (.bin .neq r_0 r_1),w_ 1 r_2]
.ret))⟩
def a126:Ann:=⟨[0,1,2,3,4,5,6,8,9,60],[1],[],[],[]⟩
def t126:aS:=⟨1,10,[.loc 2],
(h_ [o_ (.boxL 1 l_0),w_ 2 (i_ 0)]
(h_ [f_ 0 l_1,d_ r_0,c_ 128 [r_1],w_ 3 r_2]
(h_ [v_ l_3,c_ 127 [r_0],v_ r_1,o_ (.extract 0 r_2),o_ (.extract 1 r_2),o_ (.extract 2 r_2),o_ (.extract 3 r_2),w_ 4 r_3,w_ 5 r_4,w_ 6 r_5,v_ r_6]
(h_ [f_ 0 l_1,d_ r_0,c_ 132 [r_1],v_ r_2,o_ (.extract 0 r_3),o_ (.extract 1 r_3),w_ 7 r_4,w_ 8 r_5]
(.seq (.seq (g_ [v_ l_3,o_ (.bin .eql r_0 (i_ 0)),v_ r_1,x_ 2 (.mov l_4),x_ 2 (.fieldAddr 1 l_1),x_ 2 (.load1 r_4),x_ 2 (.call true false 133 [r_3,r_5]),x_ 2 (.un .not r_6),o_ (.pick r_2 T_ r_7),v_ r_8,x_ 9 (.mov l_5),x_ 9 (.fieldAddr 2 l_1),x_ 9 (.load1 iE),x_ 9 (.call true false 133 [gE,kO]),x_ 9 (.un .not nC),o_ (.pick r_9 T_ nS),v_ pP,x_ 16 (.mov l_6),x_ 16 (.fieldAddr 3 l_1),x_ 16 (.load1 aAs),x_ 16 (.call true false 133 [xF,aF0]),x_ 16 (.un .not aF1),o_ (.pick pQ T_ aF2),v_ aGw,x_ 23 (.fieldAddr 4 l_1),x_ 23 (.load1 aLr),x_ 23 (.mov l_7),x_ 23 (.bin .lss aTj bBs),o_ (.pick aLq T_ aTk),v_ aTl,x_ 29 (.fieldAddr 4 l_1),x_ 29 (.load1 bJs),x_ 29 (.mov l_8),x_ 29 (.bin .gtr bJt bPs),s_ 9 (.pick bJr T_ bV2)])
(.cond l_9
(h_ [w_ 2 (i_ 11)]
.ret)
.skip))
(h_ [w_ 2 (i_ 0)]
.ret))))))⟩
def a127:Ann:=⟨[0,2,3,4,5,6,7,9,11,13,15,17,19],[],[],[],[]⟩
def t127:aS:=⟨1,13,[.loc 1,.loc 2,.loc 3,.loc 4],
(h_ [w_ 1 F_,w_ 2 F_,w_ 3 F_,w_ 4 (i_ 0)]
(.seq (.seq (g_ [w_ 5 l_0])
(.block 0
(h_ [o_ (.bin .eql l_5 (i_ 1)),w_ 6 r_0]
(.cond l_6
(h_ [w_ 1 T_,w_ 2 T_,w_ 3 T_,w_ 4 (i_ 0)]
.ret)
(h_ [o_ (.bin .eql l_5 (i_ 2)),w_ 7 r_0]
(.cond l_7
(h_ [w_ 1 T_,w_ 2 T_,w_ 3 F_,w_ 4 (i_ 16)]
.ret)
(h_ [o_ (.bin .eql l_5 (i_ 3)),w_ 8 r_0]
(.cond l_8
(h_ [w_ 1 T_,w_ 2 F_,w_ 3 F_,w_ 4 (i_ 16)]
.ret)
(h_ [o_ (.bin .eql l_5 (i_ 4)),w_ 9 r_0]
(.cond l_9
(h_ [w_ 1 F_,w_ 2 T_,w_ 3 T_,w_ 4 (i_ 16)]
.ret)
(h_ [o_ (.bin .eql l_5 (i_ 5)),w_ 10 r_0]
(.cond iS
(h_ [w_ 1 T_,w_ 2 F_,w_ 3 F_,w_ 4 (i_ 21)]
.ret)
(h_ [o_ (.bin .eql l_5 (i_ 6)),w_ 11 r_0]
(.cond iL
(h_ [w_ 1 T_,w_ 2 F_,w_ 3 F_,w_ 4 (i_ 0)]
.ret)
(h_ [o_ (.bin .eql l_5 (i_ 7)),w_ 12 r_0]
(.cond nT
(h_ [w_ 1 F_,w_ 2 T_,w_ 3 F_,w_ 4 (i_ 0)]
.ret)
.skip))))))))))))))))
(h_ [w_ 1 F_,w_ 2 F_,w_ 3 F_,w_ 4 (i_ 0)]
.ret)))⟩
def a128:Ann:=⟨[0,2,3,10,13,22,29,32,35],[],[],[],[]⟩
def t128:aS:=⟨1,9,[.loc 1],
(h_ [w_ 1 (i_ 0)]
(.seq (.block 0
(h_ [v_ l_0,o_ (.bin .geq r_0 (i_ 1)),v_ r_1,y_ 2 (.mov l_0),y_ 2 (.bin .leq r_3 (i_ 14)),o_ (.pick r_2 r_4 F_),w_ 2 r_5]
(.cond l_2
(h_ [w_ 1 (i_ 1)]
.ret)
(h_ [v_ l_0,o_ (.bin .eql r_0 (i_ 23)),w_ 3 r_1]
(.cond l_3
(h_ [w_ 1 (i_ 3)]
.ret)
(.seq (.seq (g_ [v_ l_0,o_ (.bin .geq r_0 (i_ 15)),v_ r_1,y_ 2 (.mov l_0),y_ 2 (.bin .leq r_3 (i_ 24)),o_ (.pick r_2 r_4 F_),w_ 4 r_5])
(.cond l_4
.skip
(g_ [v_ l_0,o_ (.bin .eql r_0 (i_ 33)),w_ 4 r_1])))
(.cond l_4
(h_ [w_ 1 (i_ 2)]
.ret)
(h_ [v_ l_0,o_ (.bin .geq r_0 (i_ 25)),v_ r_1,y_ 2 (.mov l_0),y_ 2 (.bin .leq r_3 (i_ 31)),o_ (.pick r_2 r_4 F_),w_ 5 r_5]
(.cond l_5
(h_ [w_ 1 (i_ 4)]
.ret)
(h_ [v_ l_0,o_ (.bin .eql r_0 (i_ 32)),w_ 6 r_1]
(.cond l_6
(h_ [w_ 1 (i_ 5)]
.ret)
(h_ [v_ l_0,o_ (.bin .eql r_0 (i_ 34)),w_ 7 r_1]
(.cond l_7
(h_ [w_ 1 (i_ 6)]
.ret)
(.seq (.seq (g_ [v_ l_0,o_ (.bin .eql r_0 (i_ 35)),w_ 8 r_1])
(.cond l_8
.skip
(g_ [v_ l_0,o_ (.bin .eql r_0 (i_ 36)),w_ 8 r_1])))
(.cond l_8
(h_ [w_ 1 (i_ 7)]
.ret)
.skip)))))))))))))))
(h_ [w_ 1 (i_ 0)]
.ret)))⟩
def a129:Ann:=⟨[0,1,2,4,5,6,7],[],[(3,3)],[],[]⟩
def t129:aS:=⟨2,7,[.loc 3],
(h_ [s_ 2 (.boxH 67 l_0),w_ 3 N_]
(.seq (.seq (g_ [w_ 5 l_1])
(.block 0
(.rangeFunc l_5 [6]
(g_ [s_ 4 (.allocH 98 [(.int .i64 0),(.int .i64 0)]),o_ (.store 2 r_0 l_6)])
(.block 1
(g_ [d_ l_2,o_ (.loadN 2 l_4),o_ (.lit false [(.int .i64 0),(.int .i64 0)] 1 [(0,r_1)]),o_ (.append true 2 16 97 r_0 r_2),o_ (.store 1 l_2 r_3)])))))
(h_ [d_ l_2,w_ 3 r_0]
.ret)))⟩
def a132:Ann:=⟨[0,2,3,4,5,10,14,17,18],[],[],[],[]⟩
def t132:aS:=⟨1,9,[.loc 1,.loc 2],
(h_ [w_ 1 (i_ 0),w_ 2 (i_ 0)]
(.seq (.seq (g_ [w_ 3 l_0])
(.block 0
(.seq (.seq (g_ [o_ (.bin .eql l_3 (i_ 16)),w_ 4 r_0])
(.cond l_4
.skip
(h_ [o_ (.bin .eql l_3 (i_ 17)),w_ 4 r_0]
(.cond l_4
.skip
(h_ [o_ (.bin .eql l_3 (i_ 18)),w_ 4 r_0]
(.cond l_4
.skip
(g_ [o_ (.bin .eql l_3 (i_ 23)),w_ 4 r_0])))))))
(.cond l_4
(h_ [w_ 1 (i_ 0),w_ 2 (i_ 65535)]
.ret)
(.seq (.seq (g_ [o_ (.bin .eql l_3 (i_ 19)),w_ 5 r_0])
(.cond l_5
.skip
(h_ [o_ (.bin .eql l_3 (i_ 20)),w_ 5 r_0]
(.cond l_5
.skip
(g_ [o_ (.bin .eql l_3 (i_ 21)),w_ 5 r_0])))))
(.cond l_5
(h_ [w_ 1 (i_ 0),w_ 2 (i_ 31)]
.ret)
(h_ [o_ (.bin .eql l_3 (i_ 32)),w_ 6 r_0]
(.cond l_6
(h_ [s_ 1 (.mov (i_ (-1048576))),w_ 2 (i_ 1048575)]
.ret)
.skip))))))))
(.seq (.seq (g_ [v_ l_0,s_ 7 (.call true false 128 [r_0])])
(.block 1
(.seq (.seq (g_ [o_ (.bin .eql l_7 (i_ 2)),w_ 8 r_0])
(.cond l_8
.skip
(g_ [o_ (.bin .eql l_7 (i_ 4)),w_ 8 r_0])))
(.cond l_8
(h_ [s_ 1 (.mov (i_ (-32768))),w_ 2 (i_ 32767)]
.ret)
.skip))))
(h_ [w_ 1 (i_ 0),w_ 2 (i_ 0)]
.ret))))⟩
def a133:Ann:=⟨[0,1,4,6],[],[],[],[]⟩
def t133:aS:=⟨2,4,[.loc 2],
(h_ [w_ 2 F_]
(.seq (.seq (g_ [v_ l_0,s_ 3 (.un .not r_0)])
(.cond l_3
(h_ [v_ l_1,o_ (.bin .eql r_0 (i_ 0)),w_ 2 r_1]
.ret)
.skip))
(h_ [v_ l_1,o_ (.bin .geq r_0 (i_ 0)),v_ r_1,y_ 2 (.mov l_1),y_ 2 (.bin .lss r_3 (i_ 32)),o_ (.pick r_2 r_4 F_),w_ 2 r_5]
.ret)))⟩
def g0:List IV:=[(.int .u8 0),(.int .u8 1),(.int .u8 56),(.int .u8 2),(.int .u8 57),(.int .u8 49),(.int .u8 28),(.int .u8 3),(.int .u8 61),(.int .u8 58),(.int .u8 42),(.int .u8 50),(.int .u8 38),(.int .u8 29),(.int .u8 17),(.int .u8 4),(.int .u8 62),(.int .u8 47),(.int .u8 59),(.int .u8 36),(.int .u8 45),(.int .u8 43),(.int .u8 51),(.int .u8 22),(.int .u8 53),(.int .u8 39),(.int .u8 33),(.int .u8 30),(.int .u8 24),(.int .u8 18),(.int .u8 12),(.int .u8 5),(.int .u8 63),(.int .u8 55),(.int .u8 48),(.int .u8 27),(.int .u8 60),(.int .u8 41),(.int .u8 37),(.int .u8 16),(.int .u8 46),(.int .u8 35),(.int .u8 44),(.int .u8 21),(.int .u8 52),(.int .u8 32),(.int .u8 23),(.int .u8 11),(.int .u8 54),(.int .u8 26),(.int .u8 40),(.int .u8 15),(.int .u8 34),(.int .u8 20),(.int .u8 31),(.int .u8 10),(.int .u8 25),(.int .u8 14),(.int .u8 19),(.int .u8 9),(.int .u8 13),(.int .u8 8),(.int .u8 7),(.int .u8 6)]
def tbl:List (Option aS):=[none,none,none,some t3,none,some t5,some t6,some t7,some t8,some t9,none,none,some t12,some t13,some t14,some t15,some t16,some t17,some t18,some t19,some t20,some t21,some t22,some t23,some t24,some t25,some t26,some t27,some t28,some t29,some t30,some t31,some t32,some t33,some t34,some t35,some t36,some t37,some t38,some t39,some t40,some t41,some t42,some t43,some t44,some t45,none,some t47,some t48,some t49,some t50,some t51,some t52,some t53,some t54,some t55,some t56,some t57,some t58,some t59,some t60,some t61,some t62,some t63,some t64,some t65,some t66,some t67,some t68,some t69,some t70,some t71,some t72,some t73,some t74,none,none,some t77,some t78,some t79,some t80,some t81,some t82,some t83,some t84,some t85,some t86,some t87,some t88,some t89,some t90,some t91,some t92,some t93,some t94,some t95,some t96,some t97,some t98,some t99,some t100,none,none,none,none,none,none,none,none,none,none,none,some t112,some t113,some t114,none,some t116,some t117,some t118,some t119,some t120,none,none,none,none,none,some t126,some t127,some t128,some t129,none,none,some t132,some t133]
def gtbl:List (Option (List IV)):=[some g0]
def K:TM.bD:=⟨fun k=>tbl.getD k none,fun g=>gtbl.getD g none,fun f=>aFs prims f⟩
def bM (k : Nat) (tf : aS) : Prop := ∃ (A : Ann) (fn : Func), Tryz.prog.funcs[k]? = some fn ∧ fn.name ≠ "runtime.NumGoroutine" ∧ tF Tryz.prog opts A fn = some tf
theorem m_ {k : Nat} {t : aS} (a : Ann) {f : Func} (h : Tryz.prog.funcs[k]? = some f) (n : (f.name == "runtime.NumGoroutine") = false := by kernel_rfl) (c : tF Tryz.prog opts a f = some t := by kernel_rfl) : bM k t := ⟨a,f,h,fun e => by rw [e] at n; simp at n,c⟩
theorem q3:bM 3 t3:=m_ a3 Tryz.func3
theorem q5:bM 5 t5:=m_ a5 Tryz.func5
theorem q6:bM 6 t6:=m_ a6 Tryz.func6
theorem q7:bM 7 t7:=m_ a7 Tryz.func7
theorem q8:bM 8 t8:=m_ a8 Tryz.func8
theorem q9:bM 9 t9:=m_ a9 Tryz.func9
theorem q12:bM 12 t12:=m_ a12 Tryz.func12
theorem q13:bM 13 t13:=m_ a13 Tryz.func13
theorem q14:bM 14 t14:=m_ a14 Tryz.func14
theorem q15:bM 15 t15:=m_ a15 Tryz.func15
theorem q16:bM 16 t16:=m_ a16 Tryz.func16
theorem q17:bM 17 t17:=m_ a17 Tryz.func17
theorem q18:bM 18 t18:=m_ a18 Tryz.func18
theorem q19:bM 19 t19:=m_ a19 Tryz.func19
theorem q20:bM 20 t20:=m_ a20 Tryz.func20
theorem q21:bM 21 t21:=m_ a21 Tryz.func21
theorem q22:bM 22 t22:=m_ a22 Tryz.func22
theorem q23:bM 23 t23:=m_ a23 Tryz.func23
theorem q24:bM 24 t24:=m_ a24 Tryz.func24
theorem q25:bM 25 t25:=m_ a25 Tryz.func25
theorem q26:bM 26 t26:=m_ a26 Tryz.func26
theorem q27:bM 27 t27:=m_ a27 Tryz.func27
theorem q28:bM 28 t28:=m_ a28 Tryz.func28
theorem q29:bM 29 t29:=m_ a29 Tryz.func29
theorem q30:bM 30 t30:=m_ a30 Tryz.func30
theorem q31:bM 31 t31:=m_ a31 Tryz.func31
theorem q32:bM 32 t32:=m_ a32 Tryz.func32
theorem q33:bM 33 t33:=m_ a33 Tryz.func33
theorem q34:bM 34 t34:=m_ a34 Tryz.func34
theorem q35:bM 35 t35:=m_ a35 Tryz.func35
theorem q36:bM 36 t36:=m_ a36 Tryz.func36
theorem q37:bM 37 t37:=m_ a37 Tryz.func37
theorem q38:bM 38 t38:=m_ a38 Tryz.func38
theorem q39:bM 39 t39:=m_ a39 Tryz.func39
theorem q40:bM 40 t40:=m_ a40 Tryz.func40
theorem q41:bM 41 t41:=m_ a41 Tryz.func41
theorem q42:bM 42 t42:=m_ a42 Tryz.func42
theorem q43:bM 43 t43:=m_ a43 Tryz.func43
theorem q44:bM 44 t44:=m_ a44 Tryz.func44
theorem q45:bM 45 t45:=m_ a45 Tryz.func45
theorem q47:bM 47 t47:=m_ a47 Tryz.func47
theorem q48:bM 48 t48:=m_ a48 Tryz.func48
theorem q49:bM 49 t49:=m_ a49 Tryz.func49
theorem q50:bM 50 t50:=m_ a50 Tryz.func50
theorem q51:bM 51 t51:=m_ a51 Tryz.func51
theorem q52:bM 52 t52:=m_ a52 Tryz.func52
theorem q53:bM 53 t53:=m_ a53 Tryz.func53
theorem q54:bM 54 t54:=m_ a54 Tryz.func54
theorem q55:bM 55 t55:=m_ a55 Tryz.func55
theorem q56:bM 56 t56:=m_ a56 Tryz.func56
theorem q57:bM 57 t57:=m_ a57 Tryz.func57
theorem q58:bM 58 t58:=m_ a58 Tryz.func58
theorem q59:bM 59 t59:=m_ a59 Tryz.func59
theorem q60:bM 60 t60:=m_ a60 Tryz.func60
theorem q61:bM 61 t61:=m_ a61 Tryz.func61
theorem q62:bM 62 t62:=m_ a62 Tryz.func62
theorem q63:bM 63 t63:=m_ a63 Tryz.func63
theorem q64:bM 64 t64:=m_ a64 Tryz.func64
theorem q65:bM 65 t65:=m_ a65 Tryz.func65
theorem q66:bM 66 t66:=m_ a66 Tryz.func66
theorem q67:bM 67 t67:=m_ a67 Tryz.func67
theorem q68:bM 68 t68:=m_ a68 Tryz.func68
theorem q69:bM 69 t69:=m_ a69 Tryz.func69
theorem q70:bM 70 t70:=m_ a70 Tryz.func70
theorem q71:bM 71 t71:=m_ a71 Tryz.func71
theorem q72:bM 72 t72:=m_ a72 Tryz.func72
theorem q73:bM 73 t73:=m_ a73 Tryz.func73
theorem q74:bM 74 t74:=m_ a74 Tryz.func74
theorem q77:bM 77 t77:=m_ a77 Tryz.func77
theorem q78:bM 78 t78:=m_ a78 Tryz.func78
theorem q79:bM 79 t79:=m_ a79 Tryz.func79
theorem q80:bM 80 t80:=m_ a80 Tryz.func80
theorem q81:bM 81 t81:=m_ a81 Tryz.func81
theorem q82:bM 82 t82:=m_ a82 Tryz.func82
theorem q83:bM 83 t83:=m_ a83 Tryz.func83
theorem q84:bM 84 t84:=m_ a84 Tryz.func84
theorem q85:bM 85 t85:=m_ a85 Tryz.func85
theorem q86:bM 86 t86:=m_ a86 Tryz.func86
theorem q87:bM 87 t87:=m_ a87 Tryz.func87
theorem q88:bM 88 t88:=m_ a88 Tryz.func88
theorem q89:bM 89 t89:=m_ a89 Tryz.func89
theorem q90:bM 90 t90:=m_ a90 Tryz.func90
theorem q91:bM 91 t91:=m_ a91 Tryz.func91
theorem q92:bM 92 t92:=m_ a92 Tryz.func92
theorem q93:bM 93 t93:=m_ a93 Tryz.func93
theorem q94:bM 94 t94:=m_ a94 Tryz.func94
theorem q95:bM 95 t95:=m_ a95 Tryz.func95
theorem q96:bM 96 t96:=m_ a96 Tryz.func96
theorem q97:bM 97 t97:=m_ a97 Tryz.func97
theorem q98:bM 98 t98:=m_ a98 Tryz.func98
theorem q99:bM 99 t99:=m_ a99 Tryz.func99
theorem q100:bM 100 t100:=m_ a100 Tryz.func100
theorem q112:bM 112 t112:=m_ a112 Tryz.func112
theorem q113:bM 113 t113:=m_ a113 Tryz.func113
theorem q114:bM 114 t114:=m_ a114 Tryz.func114
theorem q116:bM 116 t116:=m_ a116 Tryz.func116
theorem q117:bM 117 t117:=m_ a117 Tryz.func117
theorem q118:bM 118 t118:=m_ a118 Tryz.func118
theorem q119:bM 119 t119:=m_ a119 Tryz.func119
theorem q120:bM 120 t120:=m_ a120 Tryz.func120
theorem q126:bM 126 t126:=m_ a126 Tryz.func126
theorem q127:bM 127 t127:=m_ a127 Tryz.func127
theorem q128:bM 128 t128:=m_ a128 Tryz.func128
theorem q129:bM 129 t129:=m_ a129 Tryz.func129
theorem q132:bM 132 t132:=m_ a132 Tryz.func132
theorem q133:bM 133 t133:=m_ a133 Tryz.func133
theorem bW6:aH1 bM 0 tbl:=⟨q3,q5,q6,q7,q8,q9,q12,q13,q14,q15,q16,q17,q18,q19,q20,q21,q22,q23,q24,q25,q26,q27,q28,q29,q30,q31,q32,q33,q34,q35,q36,q37,q38,q39,q40,q41,q42,q43,q44,q45,q47,q48,q49,q50,q51,q52,q53,q54,q55,q56,q57,q58,q59,q60,q61,q62,q63,q64,q65,q66,q67,q68,q69,q70,q71,q72,q73,q74,q77,q78,q79,q80,q81,q82,q83,q84,q85,q86,q87,q88,q89,q90,q91,q92,q93,q94,q95,q96,q97,q98,q99,q100,q112,q113,q114,q116,q117,q118,q119,q120,q126,q127,q128,q129,q132,q133,trivial⟩
theorem kok:KOK Tryz.prog opts K:=⟨fun k tf h=>aH2 bW6 k tf h,fun f p h=>bBp (bE0 opts K) h,by kernel_rfl⟩
end Go.Proofs.YtehlgnfhkidgoaaGreatDoor
