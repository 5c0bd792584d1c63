/- The functions of this seat, compiled for the evaluator TM, a part. By program. Condition: none. -/
import Derived.Test.YtmlhjdekfihdnaaGreatDoorTmProg1
set_option maxRecDepth 100000
set_option linter.unusedVariables false
namespace Go.Proofs.YtmlhjdekfihdnaaGreatDoor
open Go Go.TM
def a129:Ann:=⟨[0,2,3,4,5,6,7,9,11,13,15,17,19],[],[],[],[]⟩
def t129:aR:=⟨1,13,[.loc 1,.loc 2,.loc 3,.loc 4],
(h_ [w_ 1 F_,w_ 2 F_,w_ 3 F_,w_ 4 (i_ 0)]
(.seq (.seq (g_ [w_ 5 l_0])
(.block 0
(h_ [o_ (.bin .eql l_5 (i_ 1)),w_ 6 r_0]
(.cond l_6
(h_ [w_ 1 T_,w_ 2 T_,w_ 3 T_,w_ 4 (i_ 0)]
.ret)
(h_ [o_ (.bin .eql l_5 (i_ 2)),w_ 7 r_0]
(.cond l_7
(h_ [w_ 1 T_,w_ 2 T_,w_ 3 F_,w_ 4 (i_ 16)]
.ret)
(h_ [o_ (.bin .eql l_5 (i_ 3)),w_ 8 r_0]
(.cond l_8
(h_ [w_ 1 T_,w_ 2 F_,w_ 3 F_,w_ 4 (i_ 16)]
.ret)
(h_ [o_ (.bin .eql l_5 (i_ 4)),w_ 9 r_0]
(.cond l_9
(h_ [w_ 1 F_,w_ 2 T_,w_ 3 T_,w_ 4 (i_ 16)]
.ret)
(h_ [o_ (.bin .eql l_5 (i_ 5)),w_ 10 r_0]
(.cond gA
(h_ [w_ 1 T_,w_ 2 F_,w_ 3 F_,w_ 4 (i_ 21)]
.ret)
(h_ [o_ (.bin .eql l_5 (i_ 6)),w_ 11 r_0]
(.cond iG
(h_ [w_ 1 T_,w_ 2 F_,w_ 3 F_,w_ 4 (i_ 0)]
.ret)
(h_ [o_ (.bin .eql l_5 (i_ 7)),w_ 12 r_0]
(.cond lG
(h_ [w_ 1 F_,w_ 2 T_,w_ 3 F_,w_ 4 (i_ 0)]
.ret)
.skip))))))))))))))))
(h_ [w_ 1 F_,w_ 2 F_,w_ 3 F_,w_ 4 (i_ 0)]
.ret)))⟩
def a130:Ann:=⟨[0,2,3,10,13,22,29,32,35],[],[],[],[]⟩
def t130:aR:=⟨1,9,[.loc 1],
(h_ [w_ 1 (i_ 0)]
(.seq (.block 0
(h_ [v_ l_0,o_ (.bin .geq r_0 (i_ 1)),v_ r_1,y_ 2 (.mov l_0),y_ 2 (.bin .leq r_3 (i_ 14)),o_ (.pick r_2 r_4 F_),w_ 2 r_5]
(.cond l_2
(h_ [w_ 1 (i_ 1)]
.ret)
(h_ [v_ l_0,o_ (.bin .eql r_0 (i_ 23)),w_ 3 r_1]
(.cond l_3
(h_ [w_ 1 (i_ 3)]
.ret)
(.seq (.seq (g_ [v_ l_0,o_ (.bin .geq r_0 (i_ 15)),v_ r_1,y_ 2 (.mov l_0),y_ 2 (.bin .leq r_3 (i_ 24)),o_ (.pick r_2 r_4 F_),w_ 4 r_5])
(.cond l_4
.skip
(g_ [v_ l_0,o_ (.bin .eql r_0 (i_ 33)),w_ 4 r_1])))
(.cond l_4
(h_ [w_ 1 (i_ 2)]
.ret)
(h_ [v_ l_0,o_ (.bin .geq r_0 (i_ 25)),v_ r_1,y_ 2 (.mov l_0),y_ 2 (.bin .leq r_3 (i_ 31)),o_ (.pick r_2 r_4 F_),w_ 5 r_5]
(.cond l_5
(h_ [w_ 1 (i_ 4)]
.ret)
(h_ [v_ l_0,o_ (.bin .eql r_0 (i_ 32)),w_ 6 r_1]
(.cond l_6
(h_ [w_ 1 (i_ 5)]
.ret)
(h_ [v_ l_0,o_ (.bin .eql r_0 (i_ 34)),w_ 7 r_1]
(.cond l_7
(h_ [w_ 1 (i_ 6)]
.ret)
(.seq (.seq (g_ [v_ l_0,o_ (.bin .eql r_0 (i_ 35)),w_ 8 r_1])
(.cond l_8
.skip
(g_ [v_ l_0,o_ (.bin .eql r_0 (i_ 36)),w_ 8 r_1])))
(.cond l_8
(h_ [w_ 1 (i_ 7)]
.ret)
.skip)))))))))))))))
(h_ [w_ 1 (i_ 0)]
.ret)))⟩
def a133:Ann:=⟨[0,2,8,10,20,26,28,30,36],[],[],[],[]⟩
def t133:aR:=⟨1,9,[.loc 1],
(h_ [w_ 1 (i_ 0)]
(.seq (.seq (g_ [v_ l_0,o_ (.bin .geq r_0 (i_ 1)),v_ r_1,y_ 2 (.mov l_0),y_ 2 (.bin .leq r_3 (i_ 14)),s_ 2 (.pick r_2 r_4 F_)])
(.cond l_2
(h_ [w_ 1 (i_ 1)]
.ret)
.skip))
(.seq (.seq (g_ [v_ l_0,s_ 3 (.bin .eql r_0 (i_ 23))])
(.cond l_3
(h_ [w_ 1 (i_ 3)]
.ret)
.skip))
(.seq (.seq (g_ [v_ l_0,o_ (.bin .geq r_0 (i_ 15)),v_ r_1,y_ 2 (.mov l_0),y_ 2 (.bin .leq r_3 (i_ 24)),o_ (.pick r_2 r_4 F_),v_ r_5,x_ 6 (.mov l_0),x_ 6 (.bin .eql r_7 (i_ 33)),s_ 4 (.pick r_6 T_ r_8)])
(.cond l_4
(h_ [w_ 1 (i_ 2)]
.ret)
.skip))
(.seq (.seq (g_ [v_ l_0,o_ (.bin .geq r_0 (i_ 25)),v_ r_1,y_ 2 (.mov l_0),y_ 2 (.bin .leq r_3 (i_ 31)),s_ 5 (.pick r_2 r_4 F_)])
(.cond l_5
(h_ [w_ 1 (i_ 4)]
.ret)
.skip))
(.seq (.seq (g_ [v_ l_0,s_ 6 (.bin .eql r_0 (i_ 32))])
(.cond l_6
(h_ [w_ 1 (i_ 5)]
.ret)
.skip))
(.seq (.seq (g_ [v_ l_0,s_ 7 (.bin .eql r_0 (i_ 34))])
(.cond l_7
(h_ [w_ 1 (i_ 6)]
.ret)
.skip))
(.seq (.seq (g_ [v_ l_0,o_ (.bin .eql r_0 (i_ 35)),v_ r_1,x_ 2 (.mov l_0),x_ 2 (.bin .eql r_3 (i_ 36)),s_ 8 (.pick r_2 T_ r_4)])
(.cond l_8
(h_ [w_ 1 (i_ 7)]
.ret)
.skip))
(h_ [w_ 1 (i_ 0)]
.ret)))))))))⟩
def a134:Ann:=⟨[0,1,4],[],[],[],[]⟩
def t134:aR:=⟨2,3,[.loc 2],
(h_ [w_ 2 F_]
(h_ [v_ l_1,o_ (.bin .eql r_0 (i_ 0)),v_ r_1,x_ 2 (.mov l_0),x_ 2 (.mov r_3),y_ 4 (.mov l_1),y_ 4 (.bin .geq r_5 (i_ 0)),x_ 2 (.pick r_4 r_6 F_),x_ 2 (.mov r_7),y_ 8 (.mov l_1),y_ 8 (.bin .leq r_9 (i_ 31)),x_ 2 (.pick r_8 dH F_),o_ (.pick r_2 T_ dQ),w_ 2 eT]
.ret))⟩
def a135:Ann:=⟨[0,2,4,30,38],[],[],[],[]⟩
def t135:aR:=⟨1,5,[.loc 1],
(h_ [w_ 1 (i_ 0)]
(.seq (.seq (g_ [v_ l_0,s_ 2 (.bin .eql r_0 (i_ 32))])
(.cond l_2
(h_ [s_ 1 (.mov (i_ (-1048576)))]
.ret)
.skip))
(.seq (.seq (g_ [v_ l_0,o_ (.bin .eql r_0 (i_ 16)),v_ r_1,x_ 2 (.mov l_0),x_ 2 (.bin .eql r_3 (i_ 17)),o_ (.pick r_2 T_ r_4),v_ r_5,x_ 6 (.mov l_0),x_ 6 (.bin .eql r_7 (i_ 18)),o_ (.pick r_6 T_ r_8),v_ r_9,x_ 10 (.mov l_0),x_ 10 (.bin .eql dQ (i_ 19)),o_ (.pick dH T_ eT),v_ gK,x_ 14 (.mov l_0),x_ 14 (.bin .eql gY (i_ 20)),o_ (.pick gL T_ iF),v_ lF,x_ 18 (.mov l_0),x_ 18 (.bin .eql pB (i_ 21)),o_ (.pick mN T_ pC),v_ pE,x_ 22 (.mov l_0),x_ 22 (.bin .eql wO (i_ 23)),s_ 3 (.pick rM T_ wP)])
(.cond l_3
(h_ [w_ 1 (i_ 0)]
.ret)
.skip))
(.seq (.seq (g_ [v_ l_0,c_ 133 [r_0],o_ (.bin .eql r_1 (i_ 2)),v_ r_2,x_ 3 (.mov l_0),x_ 3 (.call true false 133 [r_4]),x_ 3 (.bin .eql r_5 (i_ 4)),s_ 4 (.pick r_3 T_ r_6)])
(.cond l_4
(h_ [s_ 1 (.mov (i_ (-32768)))]
.ret)
.skip))
(h_ [w_ 1 (i_ 0)]
.ret)))))⟩
def a136:Ann:=⟨[0,2,4,18,24,32],[],[],[],[]⟩
def t136:aR:=⟨1,6,[.loc 1],
(h_ [w_ 1 (i_ 0)]
(.seq (.seq (g_ [v_ l_0,s_ 2 (.bin .eql r_0 (i_ 32))])
(.cond l_2
(h_ [w_ 1 (i_ 1048575)]
.ret)
.skip))
(.seq (.seq (g_ [v_ l_0,o_ (.bin .eql r_0 (i_ 16)),v_ r_1,x_ 2 (.mov l_0),x_ 2 (.bin .eql r_3 (i_ 17)),o_ (.pick r_2 T_ r_4),v_ r_5,x_ 6 (.mov l_0),x_ 6 (.bin .eql r_7 (i_ 18)),o_ (.pick r_6 T_ r_8),v_ r_9,x_ 10 (.mov l_0),x_ 10 (.bin .eql dQ (i_ 23)),s_ 3 (.pick dH T_ eT)])
(.cond l_3
(h_ [w_ 1 (i_ 65535)]
.ret)
.skip))
(.seq (.seq (g_ [v_ l_0,o_ (.bin .geq r_0 (i_ 19)),v_ r_1,y_ 2 (.mov l_0),y_ 2 (.bin .leq r_3 (i_ 21)),s_ 4 (.pick r_2 r_4 F_)])
(.cond l_4
(h_ [w_ 1 (i_ 31)]
.ret)
.skip))
(.seq (.seq (g_ [v_ l_0,c_ 133 [r_0],o_ (.bin .eql r_1 (i_ 2)),v_ r_2,x_ 3 (.mov l_0),x_ 3 (.call true false 133 [r_4]),x_ 3 (.bin .eql r_5 (i_ 4)),s_ 5 (.pick r_3 T_ r_6)])
(.cond l_5
(h_ [w_ 1 (i_ 32767)]
.ret)
.skip))
(h_ [w_ 1 (i_ 0)]
.ret))))))⟩
def a137:Ann:=⟨[0,2,3,4,5,10,14,17,18],[],[],[],[]⟩
def t137:aR:=⟨1,9,[.loc 1,.loc 2],
(h_ [w_ 1 (i_ 0),w_ 2 (i_ 0)]
(.seq (.seq (g_ [w_ 3 l_0])
(.block 0
(.seq (.seq (g_ [o_ (.bin .eql l_3 (i_ 16)),w_ 4 r_0])
(.cond l_4
.skip
(h_ [o_ (.bin .eql l_3 (i_ 17)),w_ 4 r_0]
(.cond l_4
.skip
(h_ [o_ (.bin .eql l_3 (i_ 18)),w_ 4 r_0]
(.cond l_4
.skip
(g_ [o_ (.bin .eql l_3 (i_ 23)),w_ 4 r_0])))))))
(.cond l_4
(h_ [w_ 1 (i_ 0),w_ 2 (i_ 65535)]
.ret)
(.seq (.seq (g_ [o_ (.bin .eql l_3 (i_ 19)),w_ 5 r_0])
(.cond l_5
.skip
(h_ [o_ (.bin .eql l_3 (i_ 20)),w_ 5 r_0]
(.cond l_5
.skip
(g_ [o_ (.bin .eql l_3 (i_ 21)),w_ 5 r_0])))))
(.cond l_5
(h_ [w_ 1 (i_ 0),w_ 2 (i_ 31)]
.ret)
(h_ [o_ (.bin .eql l_3 (i_ 32)),w_ 6 r_0]
(.cond l_6
(h_ [s_ 1 (.mov (i_ (-1048576))),w_ 2 (i_ 1048575)]
.ret)
.skip))))))))
(.seq (.seq (g_ [v_ l_0,s_ 7 (.call true false 130 [r_0])])
(.block 1
(.seq (.seq (g_ [o_ (.bin .eql l_7 (i_ 2)),w_ 8 r_0])
(.cond l_8
.skip
(g_ [o_ (.bin .eql l_7 (i_ 4)),w_ 8 r_0])))
(.cond l_8
(h_ [s_ 1 (.mov (i_ (-32768))),w_ 2 (i_ 32767)]
.ret)
.skip))))
(h_ [w_ 1 (i_ 0),w_ 2 (i_ 0)]
.ret))))⟩
def a138:Ann:=⟨[0,1,4,6],[],[],[],[]⟩
def t138:aR:=⟨2,4,[.loc 2],
(h_ [w_ 2 F_]
(.seq (.seq (g_ [v_ l_0,s_ 3 (.un .not r_0)])
(.cond l_3
(h_ [v_ l_1,o_ (.bin .eql r_0 (i_ 0)),w_ 2 r_1]
.ret)
.skip))
(h_ [v_ l_1,o_ (.bin .geq r_0 (i_ 0)),v_ r_1,y_ 2 (.mov l_1),y_ 2 (.bin .lss r_3 (i_ 32)),o_ (.pick r_2 r_4 F_),w_ 2 r_5]
.ret)))⟩
def g0:List IV:=[(.int .u8 0),(.int .u8 1),(.int .u8 56),(.int .u8 2),(.int .u8 57),(.int .u8 49),(.int .u8 28),(.int .u8 3),(.int .u8 61),(.int .u8 58),(.int .u8 42),(.int .u8 50),(.int .u8 38),(.int .u8 29),(.int .u8 17),(.int .u8 4),(.int .u8 62),(.int .u8 47),(.int .u8 59),(.int .u8 36),(.int .u8 45),(.int .u8 43),(.int .u8 51),(.int .u8 22),(.int .u8 53),(.int .u8 39),(.int .u8 33),(.int .u8 30),(.int .u8 24),(.int .u8 18),(.int .u8 12),(.int .u8 5),(.int .u8 63),(.int .u8 55),(.int .u8 48),(.int .u8 27),(.int .u8 60),(.int .u8 41),(.int .u8 37),(.int .u8 16),(.int .u8 46),(.int .u8 35),(.int .u8 44),(.int .u8 21),(.int .u8 52),(.int .u8 32),(.int .u8 23),(.int .u8 11),(.int .u8 54),(.int .u8 26),(.int .u8 40),(.int .u8 15),(.int .u8 34),(.int .u8 20),(.int .u8 31),(.int .u8 10),(.int .u8 25),(.int .u8 14),(.int .u8 19),(.int .u8 9),(.int .u8 13),(.int .u8 8),(.int .u8 7),(.int .u8 6)]
def tbl:List (Option aR):=[none,none,none,some t3,some t4,some t5,some t6,some t7,some t8,some t9,some t10,some t11,some t12,some t13,some t14,some t15,some t16,some t17,some t18,some t19,some t20,some t21,some t22,some t23,some t24,some t25,some t26,some t27,some t28,some t29,some t30,some t31,some t32,some t33,some t34,some t35,some t36,some t37,some t38,some t39,some t40,some t41,some t42,some t43,some t44,some t45,some t46,some t47,some t48,some t49,some t50,some t51,some t52,some t53,some t54,some t55,some t56,some t57,some t58,some t59,some t60,none,some t62,some t63,none,some t65,some t66,some t67,some t68,some t69,some t70,some t71,some t72,some t73,some t74,some t75,some t76,some t77,some t78,some t79,some t80,none,none,some t83,none,some t85,some t86,some t87,some t88,some t89,none,none,none,none,none,none,none,none,none,none,none,none,none,none,none,none,none,none,none,some t109,some t110,some t111,some t112,some t113,none,none,none,none,none,none,none,none,some t122,some t123,some t124,some t125,some t126,some t127,some t128,some t129,some t130,none,none,some t133,some t134,some t135,some t136,some t137,some t138]
def gtbl:List (Option (List IV)):=[some g0]
def K:TM.aW:=⟨fun k=>tbl.getD k none,fun g=>gtbl.getD g none,fun f=>aBq prims f⟩
def bL (k : Nat) (tf : aR) : Prop := ∃ (A : Ann) (fn : Func), Tryz.prog.funcs[k]? = some fn ∧ fn.name ≠ "runtime.NumGoroutine" ∧ pR Tryz.prog opts A fn = some tf
theorem m_ {k : Nat} {t : aR} (a : Ann) {f : Func} (h : Tryz.prog.funcs[k]? = some f) (n : (f.name == "runtime.NumGoroutine") = false := by kernel_rfl) (c : pR Tryz.prog opts a f = some t := by kernel_rfl) : bL k t := ⟨a,f,h,fun e => by rw [e] at n; simp at n,c⟩
theorem q3:bL 3 t3:=m_ a3 Tryz.func3
theorem q4:bL 4 t4:=m_ a4 Tryz.func4
theorem q5:bL 5 t5:=m_ a5 Tryz.func5
theorem q6:bL 6 t6:=m_ a6 Tryz.func6
theorem q7:bL 7 t7:=m_ a7 Tryz.func7
theorem q8:bL 8 t8:=m_ a8 Tryz.func8
theorem q9:bL 9 t9:=m_ a9 Tryz.func9
theorem q10:bL 10 t10:=m_ a10 Tryz.func10
theorem q11:bL 11 t11:=m_ a11 Tryz.func11
theorem q12:bL 12 t12:=m_ a12 Tryz.func12
theorem q13:bL 13 t13:=m_ a13 Tryz.func13
theorem q14:bL 14 t14:=m_ a14 Tryz.func14
theorem q15:bL 15 t15:=m_ a15 Tryz.func15
theorem q16:bL 16 t16:=m_ a16 Tryz.func16
theorem q17:bL 17 t17:=m_ a17 Tryz.func17
theorem q18:bL 18 t18:=m_ a18 Tryz.func18
theorem q19:bL 19 t19:=m_ a19 Tryz.func19
theorem q20:bL 20 t20:=m_ a20 Tryz.func20
theorem q21:bL 21 t21:=m_ a21 Tryz.func21
theorem q22:bL 22 t22:=m_ a22 Tryz.func22
theorem q23:bL 23 t23:=m_ a23 Tryz.func23
theorem q24:bL 24 t24:=m_ a24 Tryz.func24
theorem q25:bL 25 t25:=m_ a25 Tryz.func25
theorem q26:bL 26 t26:=m_ a26 Tryz.func26
theorem q27:bL 27 t27:=m_ a27 Tryz.func27
theorem q28:bL 28 t28:=m_ a28 Tryz.func28
theorem q29:bL 29 t29:=m_ a29 Tryz.func29
theorem q30:bL 30 t30:=m_ a30 Tryz.func30
theorem q31:bL 31 t31:=m_ a31 Tryz.func31
theorem q32:bL 32 t32:=m_ a32 Tryz.func32
theorem q33:bL 33 t33:=m_ a33 Tryz.func33
theorem q34:bL 34 t34:=m_ a34 Tryz.func34
theorem q35:bL 35 t35:=m_ a35 Tryz.func35
theorem q36:bL 36 t36:=m_ a36 Tryz.func36
theorem q37:bL 37 t37:=m_ a37 Tryz.func37
theorem q38:bL 38 t38:=m_ a38 Tryz.func38
theorem q39:bL 39 t39:=m_ a39 Tryz.func39
theorem q40:bL 40 t40:=m_ a40 Tryz.func40
theorem q41:bL 41 t41:=m_ a41 Tryz.func41
theorem q42:bL 42 t42:=m_ a42 Tryz.func42
theorem q43:bL 43 t43:=m_ a43 Tryz.func43
theorem q44:bL 44 t44:=m_ a44 Tryz.func44
theorem q45:bL 45 t45:=m_ a45 Tryz.func45
theorem q46:bL 46 t46:=m_ a46 Tryz.func46
theorem q47:bL 47 t47:=m_ a47 Tryz.func47
theorem q48:bL 48 t48:=m_ a48 Tryz.func48
theorem q49:bL 49 t49:=m_ a49 Tryz.func49
theorem q50:bL 50 t50:=m_ a50 Tryz.func50
theorem q51:bL 51 t51:=m_ a51 Tryz.func51
theorem q52:bL 52 t52:=m_ a52 Tryz.func52
theorem q53:bL 53 t53:=m_ a53 Tryz.func53
theorem q54:bL 54 t54:=m_ a54 Tryz.func54
theorem q55:bL 55 t55:=m_ a55 Tryz.func55
theorem q56:bL 56 t56:=m_ a56 Tryz.func56
theorem q57:bL 57 t57:=m_ a57 Tryz.func57
theorem q58:bL 58 t58:=m_ a58 Tryz.func58
theorem q59:bL 59 t59:=m_ a59 Tryz.func59
theorem q60:bL 60 t60:=m_ a60 Tryz.func60
theorem q62:bL 62 t62:=m_ a62 Tryz.func62
theorem q63:bL 63 t63:=m_ a63 Tryz.func63
theorem q65:bL 65 t65:=m_ a65 Tryz.func65
theorem q66:bL 66 t66:=m_ a66 Tryz.func66
theorem q67:bL 67 t67:=m_ a67 Tryz.func67
theorem q68:bL 68 t68:=m_ a68 Tryz.func68
theorem q69:bL 69 t69:=m_ a69 Tryz.func69
theorem q70:bL 70 t70:=m_ a70 Tryz.func70
theorem q71:bL 71 t71:=m_ a71 Tryz.func71
theorem q72:bL 72 t72:=m_ a72 Tryz.func72
theorem q73:bL 73 t73:=m_ a73 Tryz.func73
theorem q74:bL 74 t74:=m_ a74 Tryz.func74
theorem q75:bL 75 t75:=m_ a75 Tryz.func75
theorem q76:bL 76 t76:=m_ a76 Tryz.func76
theorem q77:bL 77 t77:=m_ a77 Tryz.func77
theorem q78:bL 78 t78:=m_ a78 Tryz.func78
theorem q79:bL 79 t79:=m_ a79 Tryz.func79
theorem q80:bL 80 t80:=m_ a80 Tryz.func80
theorem q83:bL 83 t83:=m_ a83 Tryz.func83
theorem q85:bL 85 t85:=m_ a85 Tryz.func85
theorem q86:bL 86 t86:=m_ a86 Tryz.func86
theorem q87:bL 87 t87:=m_ a87 Tryz.func87
theorem q88:bL 88 t88:=m_ a88 Tryz.func88
theorem q89:bL 89 t89:=m_ a89 Tryz.func89
theorem q109:bL 109 t109:=m_ a109 Tryz.func109
theorem q110:bL 110 t110:=m_ a110 Tryz.func110
theorem q111:bL 111 t111:=m_ a111 Tryz.func111
theorem q112:bL 112 t112:=m_ a112 Tryz.func112
theorem q113:bL 113 t113:=m_ a113 Tryz.func113
theorem q122:bL 122 t122:=m_ a122 Tryz.func122
theorem q123:bL 123 t123:=m_ a123 Tryz.func123
theorem q124:bL 124 t124:=m_ a124 Tryz.func124
theorem q125:bL 125 t125:=m_ a125 Tryz.func125
theorem q126:bL 126 t126:=m_ a126 Tryz.func126
theorem q127:bL 127 t127:=m_ a127 Tryz.func127
theorem q128:bL 128 t128:=m_ a128 Tryz.func128
theorem q129:bL 129 t129:=m_ a129 Tryz.func129
theorem q130:bL 130 t130:=m_ a130 Tryz.func130
theorem q133:bL 133 t133:=m_ a133 Tryz.func133
theorem q134:bL 134 t134:=m_ a134 Tryz.func134
theorem q135:bL 135 t135:=m_ a135 Tryz.func135
theorem q136:bL 136 t136:=m_ a136 Tryz.func136
theorem q137:bL 137 t137:=m_ a137 Tryz.func137
theorem q138:bL 138 t138:=m_ a138 Tryz.func138
theorem bL4:aDv bL 0 tbl:=⟨q3,q4,q5,q6,q7,q8,q9,q10,q11,q12,q13,q14,q15,q16,q17,q18,q19,q20,q21,q22,q23,q24,q25,q26,q27,q28,q29,q30,q31,q32,q33,q34,q35,q36,q37,q38,q39,q40,q41,q42,q43,q44,q45,q46,q47,q48,q49,q50,q51,q52,q53,q54,q55,q56,q57,q58,q59,q60,q62,q63,q65,q66,q67,q68,q69,q70,q71,q72,q73,q74,q75,q76,q77,q78,q79,q80,q83,q85,q86,q87,q88,q89,q109,q110,q111,q112,q113,q122,q123,q124,q125,q126,q127,q128,q129,q130,q133,q134,q135,q136,q137,q138,trivial⟩
theorem kok:KOK Tryz.prog opts K:=⟨fun k tf h=>aDw bL4 k tf h,fun f p h=>aUa (aWb opts K) h,by kernel_rfl⟩
end Go.Proofs.YtmlhjdekfihdnaaGreatDoor
