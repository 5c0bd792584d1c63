/- The functions of this seat, compiled for the evaluator TM; each held against the translation by the kernel. By program. Condition: none. -/
import Derived.Test.YtookmpaholmmfaaGreatDoorPrim
set_option maxRecDepth 100000
set_option linter.unusedVariables false
namespace Go.Proofs.YtookmpaholmmfaaGreatDoor
open Go Go.TM
abbrev r_0:aG:=.reg 0
abbrev r_1:aG:=.reg 1
abbrev r_2:aG:=.reg 2
abbrev r_3:aG:=.reg 3
abbrev r_4:aG:=.reg 4
abbrev r_5:aG:=.reg 5
abbrev r_6:aG:=.reg 6
abbrev r_7:aG:=.reg 7
abbrev r_8:aG:=.reg 8
abbrev r_9:aG:=.reg 9
abbrev dN:aG:=.reg 10
abbrev eU:aG:=.reg 11
abbrev iI:aG:=.reg 12
abbrev hP:aG:=.reg 13
abbrev nG:aG:=.reg 14
abbrev sC:aG:=.reg 15
abbrev sD:aG:=.reg 16
abbrev tS:aG:=.reg 17
abbrev wY:aG:=.reg 18
abbrev yV:aG:=.reg 19
abbrev aCd:aG:=.reg 20
abbrev aCe:aG:=.reg 21
abbrev aC4:aG:=.reg 22
abbrev aHb:aG:=.reg 23
abbrev aKn:aG:=.reg 24
abbrev aOc:aG:=.reg 25
abbrev bBs:aG:=.reg 26
abbrev bBt:aG:=.reg 27
abbrev bBu:aG:=.reg 28
abbrev bBv:aG:=.reg 29
abbrev bGe:aG:=.reg 30
abbrev bGf:aG:=.reg 31
abbrev bGg:aG:=.reg 32
abbrev bJp:aG:=.reg 33
abbrev bK2:aG:=.reg 34
abbrev bK3:aG:=.reg 35
abbrev bL3:aG:=.reg 36
abbrev bL4:aG:=.reg 37
abbrev bL5:aG:=.reg 38
abbrev bL6:aG:=.reg 39
abbrev bL7:aG:=.reg 40
abbrev bL8:aG:=.reg 41
abbrev bL9:aG:=.reg 42
abbrev bMa:aG:=.reg 43
abbrev bMb:aG:=.reg 44
abbrev bMc:aG:=.reg 45
abbrev bMd:aG:=.reg 46
abbrev bMe:aG:=.reg 47
abbrev bMf:aG:=.reg 48
abbrev bMg:aG:=.reg 49
abbrev bMh:aG:=.reg 50
abbrev bMi:aG:=.reg 51
abbrev bMj:aG:=.reg 52
abbrev bMk:aG:=.reg 53
abbrev bMl:aG:=.reg 54
abbrev bMm:aG:=.reg 55
abbrev l_0:aG:=.loc 0
abbrev l_1:aG:=.loc 1
abbrev l_2:aG:=.loc 2
abbrev l_3:aG:=.loc 3
abbrev l_4:aG:=.loc 4
abbrev l_5:aG:=.loc 5
abbrev l_6:aG:=.loc 6
abbrev l_7:aG:=.loc 7
abbrev l_8:aG:=.loc 8
abbrev l_9:aG:=.loc 9
abbrev dD:aG:=.loc 10
abbrev iM:aG:=.loc 11
abbrev kE:aG:=.loc 12
abbrev jC:aG:=.loc 13
abbrev lZ:aG:=.loc 14
abbrev wZ:aG:=.loc 15
abbrev vQ:aG:=.loc 16
abbrev yW:aG:=.loc 17
abbrev aCf:aG:=.loc 18
abbrev aCg:aG:=.loc 19
abbrev bBw:aG:=.loc 20
abbrev bBx:aG:=.loc 21
abbrev bK4:aG:=.loc 22
abbrev bK5:aG:=.loc 23
abbrev bK6:aG:=.loc 24
abbrev bK7:aG:=.loc 25
abbrev bJq:aG:=.loc 26
abbrev bMn:aG:=.loc 27
abbrev T_:aG:=.cst (.bool true)
abbrev F_:aG:=.cst (.bool false)
abbrev N_:aG:=.cst (.sl .nil [])
abbrev y_ (n:Nat) (x:TOp):aL:=⟨x, none, some (n, true)⟩
abbrev x_ (n:Nat) (x:TOp):aL:=⟨x, none, some (n, false)⟩
abbrev c_ (n:Nat) (l:List aG):aL:=⟨.call true false n l, none, none⟩
abbrev g_ (l:List aL):aK:=.region l
abbrev h_ (l:List aL) (b:aK):aK:=.seq (.region l) b
abbrev v_ (x:aG):aL:=⟨.mov x, none, none⟩
abbrev w_ (n:Nat) (x:aG):aL:=⟨.mov x, some n, none⟩
abbrev d_ (x:aG):aL:=⟨.load1 x, none, none⟩
abbrev f_ (n:Nat) (x:aG):aL:=⟨.fieldAddr n x, none, none⟩
abbrev D_:List UInt8:=[48,48,48,49,48,50,48,51,48,52,48,53,48,54,48,55,48,56,48,57,49,48,49,49,49,50,49,51,49,52,49,53,49,54,49,55,49,56,49,57,50,48,50,49,50,50,50,51,50,52,50,53,50,54,50,55,50,56,50,57,51,48,51,49,51,50,51,51,51,52,51,53,51,54,51,55,51,56,51,57,52,48,52,49,52,50,52,51,52,52,52,53,52,54,52,55,52,56,52,57,53,48,53,49,53,50,53,51,53,52,53,53,53,54,53,55,53,56,53,57,54,48,54,49,54,50,54,51,54,52,54,53,54,54,54,55,54,56,54,57,55,48,55,49,55,50,55,51,55,52,55,53,55,54,55,55,55,56,55,57,56,48,56,49,56,50,56,51,56,52,56,53,56,54,56,55,56,56,56,57,57,48,57,49,57,50,57,51,57,52,57,53,57,54,57,55,57,56,57,57]
abbrev o_ (x:TOp):aL:=⟨x,none,none⟩
abbrev s_ (n:Nat) (x:TOp):aL:=⟨x,some n,none⟩
abbrev i_ (n:Int):aG:=.cst (.int .i64 n)
def opts:dB:=⟨fun f=>([3,4,9,10,19,20,33,34,35,36,37,38,39,40,41,44,45,46,47,48,49,54,55,56,58,66,67,70,73,76,78,79,80,81,82,83,84,86,87,88,89,93,97,98,99,101,103,112,113,114,115,120,122,123,124,131,132,134,135,139,142,143,144,145,146,147,149,153,154,155,163,167,169,171,174,175,176,177,178,179,181,182,189,191,193,195,196,197,201,210,211,212,213,214,215,216,217]:List Nat).contains f,fun f=>([47,80,113,165]:List Nat).contains f⟩
def a5:Ann:=⟨[0,1,2,3,4,5,6,7,9],[6,4,1],[],[],[]⟩
def t5:aO:=⟨1,9,[.loc 2],
(h_ [o_ (.boxL 1 l_0),w_ 2 F_]
(.seq (.seq (g_ [o_ (.loadN 8 l_1),s_ 8 (.call true false 21 [r_0])])
(.cond l_8
(h_ [c_ 22 [],w_ 2 r_0]
.ret)
.skip))
(h_ [o_ (.loadN 8 l_1),c_ 23 [r_0],w_ 3 r_1]
(h_ [o_ (.loadN 8 l_1),c_ 24 [r_0],v_ r_1,o_ (.extract 0 r_2),o_ (.extract 1 r_2),o_ (.allocL 4 [(.int .i64 0),(.int .i64 0),(.sl .nil []),(.bool false),(.sl .nil []),(.int .i64 0),(.int .i64 0),(.sl .nil [])]),o_ (.store 8 r_5 r_3),w_ 5 r_4]
(h_ [o_ (.loadN 8 l_1),c_ 25 [r_0],v_ r_1,o_ (.extract 0 r_2),o_ (.extract 1 r_2),o_ (.allocL 6 [(.int .i64 0),(.int .i64 0),(.sl .nil []),(.bool false),(.sl .nil []),(.int .i64 0),(.int .i64 0),(.sl .nil [])]),o_ (.store 8 r_5 r_3),w_ 7 r_4]
(h_ [v_ l_5,v_ l_7,o_ (.bin .eql r_0 r_1),v_ r_2,y_ 3 (.loadN 8 l_4),y_ 3 (.loadN 8 l_6),y_ 3 (.call false false 20 [r_4,r_5]),o_ (.pick r_3 r_6 F_),v_ r_7,y_ 8 (.loadN 8 l_1),y_ 8 (.call true false 23 [r_9]),y_ 8 (.mov l_3),y_ 8 (.bin .eql dN eU),o_ (.pick r_8 iI F_),v_ hP,y_ 14 (.call true false 22 []),o_ (.pick nG sC F_),w_ 2 sD]
.ret))))))⟩
def a9:Ann:=⟨[0,1,2,3,12,21],[1],[],[],[]⟩
def t9L0:aK:=(.seq (.seq (g_ [v_ l_3,f_ 7 l_1,d_ r_1,o_ (.len .sl r_2),o_ (.bin .lss r_0 r_3),v_ r_4,y_ 5 (.mov l_3),y_ 5 (.bin .lss r_6 (i_ 30)),s_ 4 (.pick r_5 r_7 F_)])
(.cond l_4
.skip
(.exit 0)))
(.seq (.block 1
(h_ [f_ 7 l_1,d_ r_0,v_ l_3,o_ (.indexAddrS 5 r_1 r_2),o_ (.loadN 5 r_3),o_ (.call false false 40 [r_4,(i_ 60)]),s_ 5 (.bin .gtr r_5 (i_ 200))]
(.cond l_5
(h_ [w_ 2 T_]
.ret)
.skip)))
(g_ [v_ l_3,o_ (.bin .add r_0 (i_ 1)),w_ 3 r_1])))
def t9:aO:=⟨1,6,[.loc 2],
(h_ [o_ (.boxL 1 l_0),w_ 2 F_]
(.seq (.seq (g_ [w_ 3 (i_ 0)])
(.block 0
(.loop t9L0)))
(h_ [f_ 0 l_1,o_ (.loadN 5 r_0),o_ (.call false false 10 [r_1,(i_ 4100)]),o_ (.bin .gtr r_2 (i_ 4500)),v_ r_3,x_ 4 (.fieldAddr 7 l_1),x_ 4 (.load1 r_5),x_ 4 (.len .sl r_6),x_ 4 (.bin .gtr r_7 (i_ 20)),o_ (.pick r_4 T_ r_8),w_ 2 r_9]
.ret)))⟩
def a10:Ann:=⟨[0,1,2,4,5,6,8,21],[2],[],[],[]⟩
def t10L0:aK:=(.seq (.seq (g_ [v_ l_5,f_ 4 l_2,d_ r_1,o_ (.len .sl r_2),o_ (.bin .lss r_0 r_3),v_ r_4,y_ 5 (.mov l_4),y_ 5 (.bin .lss r_6 (i_ 9000)),s_ 7 (.pick r_5 r_7 F_)])
(.cond l_7
.skip
(.exit 0)))
(.seq (.block 1
(g_ [v_ l_4,f_ 4 l_2,d_ r_1,v_ l_5,o_ (.indexAddrS 5 r_2 r_3),o_ (.loadN 5 r_4),v_ l_1,o_ (.bin .sub r_6 (i_ 1)),o_ (.call false false 10 [r_5,r_7]),o_ (.bin .add r_0 r_8),w_ 4 r_9]))
(g_ [v_ l_5,o_ (.bin .add r_0 (i_ 1)),w_ 5 r_1])))
def t10:aO:=⟨2,8,[.loc 3],
(h_ [o_ (.boxL 2 l_0),w_ 3 (i_ 0)]
(.seq (.seq (g_ [v_ l_1,s_ 6 (.bin .eql r_0 (i_ 0))])
(.cond l_6
(h_ [w_ 3 (i_ 9000)]
.ret)
.skip))
(h_ [f_ 2 l_2,d_ r_0,o_ (.len .sl r_1),o_ (.bin .add (i_ 1) r_2),w_ 4 r_3]
(.seq (.seq (g_ [w_ 5 (i_ 0)])
(.block 0
(.loop t10L0)))
(h_ [v_ l_4,w_ 3 r_0]
.ret)))))⟩
def a12:Ann:=⟨[0,1,2,3,4,5,6,7,16,27,43,51,57,62,71],[1],[],[],[(2,⟨[0,1,0,4,12,28,63,127,255],[0,2,3,4,5],[(1,[3,5],[]),(6,[],[7,8])]⟩),(7,⟨[0,1,0,0,12,28,63,0,0,0,768,1792,4095,8191],[0,1,2,3,4,5,7,8,9,10,11],[(6,[11],[]),(12,[],[13])]⟩),(9,⟨[0,1,0,0,12,28,63,127],[0,1,2,3,4,5],[(6,[],[7])]⟩)]⟩
def t12L0:aK:=(.seq (.seq (g_ [v_ l_7,f_ 4 l_1,d_ r_1,o_ (.len .sl r_2),s_ 13 (.bin .lss r_0 r_3)])
(.cond jC
.skip
(.exit 2)))
(.seq (.block 3
(h_ [f_ 4 l_1,d_ r_0,v_ l_7,o_ (.indexAddrS 5 r_1 r_2),o_ (.loadN 5 r_3),c_ 12 [r_4],s_ 14 (.un .not r_5)]
(.cond lZ
(h_ [w_ 2 F_]
.ret)
.skip)))
(g_ [v_ l_7,o_ (.bin .add r_0 (i_ 1)),w_ 7 r_1])))
def t12L1:aK:=(.seq (.seq (g_ [v_ l_6,v_ l_4,o_ (.len .sl r_1),s_ 9 (.bin .lss r_0 r_2)])
(.cond l_9
.skip
(.exit 0)))
(.seq (.block 1
(.seq (.seq (.draw [0,1,2,3,4,5,7,8,9,10,11] [(6,[11],[]),(12,[],[13])] [f_ 2 l_1,d_ r_0,v_ l_4,v_ l_6,o_ (.indexAddrS 1 r_2 r_3),d_ r_4,c_ 16 [r_1,r_5],v_ l_3,v_ l_4,v_ l_6,o_ (.indexAddrS 1 r_8 r_9),d_ dN,c_ 16 [r_7,eU],s_ 10 (.eqB false .bool r_6 iI)])
(.cond dD
(h_ [w_ 2 F_]
.ret)
.skip))
(.seq (.draw [0,1,2,3,4,5] [(6,[],[7])] [f_ 2 l_1,d_ r_0,v_ l_4,v_ l_6,o_ (.indexAddrS 1 r_2 r_3),d_ r_4,c_ 16 [r_1,r_5],s_ 11 (.un .not r_6)])
(.cond iM
(g_ [v_ l_5,o_ (.bin .add r_0 (i_ 1)),w_ 5 r_1])
.skip))))
(g_ [v_ l_6,o_ (.bin .add r_0 (i_ 1)),w_ 6 r_1])))
def t12:aO:=⟨1,15,[.loc 2],
(h_ [o_ (.boxL 1 l_0),w_ 2 F_]
(.seq (.seq (g_ [f_ 0 l_1,d_ r_0,o_ (.bin .eql r_1 (i_ 7)),v_ r_2,y_ 3 (.fieldAddr 4 l_1),y_ 3 (.load1 r_4),y_ 3 (.len .sl r_5),y_ 3 (.bin .eql r_6 (i_ 1)),s_ 8 (.pick r_3 r_7 F_)])
(.cond l_8
(.seq (.draw [0,2,3,4,5] [(1,[3,5],[]),(6,[],[7,8])] [o_ (.loadN 5 l_1),c_ 17 [r_0],f_ 4 l_1,d_ r_2,o_ (.indexAddrS 5 r_3 (i_ 0)),o_ (.loadN 5 r_4),c_ 17 [r_5],w_ 3 r_1,w_ 4 r_6])
(h_ [w_ 5 (i_ 0)]
(.seq (.seq (g_ [w_ 6 (i_ 0)])
(.block 0
(.loop t12L1)))
(h_ [v_ l_5,v_ l_3,o_ (.len .sl r_1),s_ 12 (.bin .neq r_0 r_2)]
(.cond kE
(h_ [w_ 2 F_]
.ret)
.skip)))))
.skip))
(.seq (.seq (g_ [w_ 7 (i_ 0)])
(.block 2
(.loop t12L0)))
(h_ [w_ 2 T_]
.ret))))⟩
def a13:Ann:=⟨[0,1,2,4,5,18,20,21,22,23,33],[4,1],[],[],[]⟩
def t13L0:aK:=(.seq (g_ [s_ 9 (.bin .lss l_8 l_7)])
(.seq (.cond l_9
.skip
(.exit 0))
(.seq (.block 1
(h_ [o_ (.indexAddrS 5 l_6 l_8),o_ (.loadN 5 r_0),o_ (.allocL 3 [(.int .i64 0),(.int .i64 0),(.str []),(.sl .nil []),(.int .i64 0)]),o_ (.store 5 r_2 r_1)]
(h_ [o_ (.loadN 5 l_3),c_ 42 [r_0],o_ (.un .not r_1),v_ r_2,x_ 3 (.loadN 5 l_3),x_ 3 (.call true false 43 [r_4]),x_ 3 (.un .not r_5),s_ 10 (.pick r_3 T_ r_6)]
(.cond dD
(h_ [w_ 2 (i_ 2)]
.ret)
.skip))))
(g_ [o_ (.bin .add l_8 (i_ 1)),w_ 8 r_0]))))
def t13:aO:=⟨1,11,[.loc 2],
(h_ [o_ (.boxL 1 l_0),w_ 2 (i_ 0)]
(.seq (.seq (g_ [f_ 5 l_1,d_ r_0,o_ (.bin .lss r_1 (i_ 0)),v_ r_2,x_ 3 (.fieldAddr 5 l_1),x_ 3 (.load1 r_4),x_ 3 (.bin .gtr r_5 (i_ 20000)),o_ (.pick r_3 T_ r_6),v_ r_7,x_ 8 (.fieldAddr 6 l_1),x_ 8 (.load1 r_9),x_ 8 (.bin .lss dN (i_ 0)),s_ 5 (.pick r_8 T_ eU)])
(.cond l_5
(h_ [w_ 2 (i_ 2)]
.ret)
.skip))
(.seq (.seq (g_ [f_ 7 l_1,s_ 6 (.load1 r_0),s_ 7 (.len .sl r_1),w_ 8 (i_ 0)])
(.block 0
(.loop t13L0)))
(h_ [o_ (.loadN 8 l_1),o_ (.mkMap),o_ (.mkMap),o_ (.mkMap),o_ (.build [(.int .i64 0),(.int .i64 0),(.sl .nil []),(.bool false),(.sl .nil []),(.int .i64 0),(.int .i64 0),(.sl .nil []),.nilm,.nilm,.nilm] [(0,8,r_0),(8,1,r_1),(9,1,r_2),(10,1,r_3)]),o_ (.boxH 58 r_4),w_ 4 r_5]
(h_ [v_ l_4,f_ 0 l_1,o_ (.loadN 5 r_1),o_ (.call false false 44 [r_0,r_2,(i_ 0)]),w_ 2 r_3]
.ret)))))⟩
def a14:Ann:=⟨[0,1,2,3],[1],[],[],[]⟩
def t14:aO:=⟨1,4,[.loc 2],
(h_ [o_ (.boxL 1 l_0),w_ 2 N_]
(h_ [o_ (.mkMap),s_ 3 (.allocH 56 [.nilm]),o_ (.store 1 r_1 r_0)]
(h_ [o_ (.loadN 5 l_1),o_ (.mkFn 46 [] [l_3]),o_ (.call false false 45 [r_0,r_1])]
(h_ [d_ l_3,o_ (.prim 47 [r_0]),w_ 2 r_1]
.ret))))⟩
def a15:Ann:=⟨[0,1,2,3],[1],[],[],[]⟩
def t15:aO:=⟨1,4,[.loc 2],
(h_ [o_ (.boxL 1 l_0),w_ 2 N_]
(h_ [o_ (.mkMap),s_ 3 (.allocH 56 [.nilm]),o_ (.store 1 r_1 r_0)]
(h_ [o_ (.loadN 5 l_1),o_ (.mkFn 48 [] [l_3]),o_ (.call false false 45 [r_0,r_1])]
(h_ [d_ l_3,o_ (.prim 47 [r_0]),w_ 2 r_1]
.ret))))⟩
def a16:Ann:=⟨[0,1,4,5,9,17],[],[],[],[]⟩
def t16L0:aK:=(.seq (.seq (g_ [v_ l_3,v_ l_0,o_ (.len .sl r_1),s_ 4 (.bin .lss r_0 r_2)])
(.cond l_4
.skip
(.exit 0)))
(.seq (.block 1
(h_ [v_ l_0,v_ l_3,o_ (.indexAddrS 1 r_0 r_1),d_ r_2,v_ l_1,s_ 5 (.bin .eql r_3 r_4)]
(.cond l_5
(h_ [w_ 2 T_]
.ret)
.skip)))
(g_ [v_ l_3,o_ (.bin .add r_0 (i_ 1)),w_ 3 r_1])))
def t16:aO:=⟨2,6,[.loc 2],
(h_ [w_ 2 F_]
(.seq (.seq (g_ [w_ 3 (i_ 0)])
(.block 0
(.loop t16L0)))
(h_ [w_ 2 F_]
.ret)))⟩
def a17:Ann:=⟨[0,1,2,3],[1],[],[],[]⟩
def t17:aO:=⟨1,4,[.loc 2],
(h_ [o_ (.boxL 1 l_0),w_ 2 N_]
(h_ [o_ (.mkMap),w_ 3 r_0]
(h_ [o_ (.loadN 5 l_1),o_ (.mkMap),v_ l_3,o_ (.call false false 49 [r_0,r_1,r_2])]
(h_ [v_ l_3,o_ (.prim 47 [r_0]),w_ 2 r_1]
.ret))))⟩
def a18:Ann:=⟨[0,1,2,3,4,5,6,8,17,25,34,39,48,56,57,63,73,78,83,87],[4,1],[],[],[]⟩
def t18L0:aK:=(.seq (.seq (g_ [v_ l_6,f_ 3 l_4,d_ r_1,o_ (.len .sl r_2),s_ 11 (.bin .lss r_0 r_3)])
(.cond iM
.skip
(.exit 2)))
(.seq (.block 3
(h_ [f_ 3 l_4,d_ r_0,v_ l_6,o_ (.indexAddrS 5 r_1 r_2),o_ (.loadN 5 r_3),c_ 18 [r_4],s_ 12 (.un .not r_5)]
(.cond kE
(h_ [w_ 2 F_]
.ret)
.skip)))
(g_ [v_ l_6,o_ (.bin .add r_0 (i_ 1)),w_ 6 r_1])))
def t18L1:aK:=(.seq (.seq (g_ [v_ l_5,v_ l_3,o_ (.len .sl r_1),s_ 8 (.bin .lss r_0 r_2)])
(.cond l_8
.skip
(.exit 0)))
(.seq (.block 1
(h_ [v_ l_3,v_ l_5,o_ (.indexAddrS 5 r_0 r_1),o_ (.loadN 5 r_2),c_ 18 [r_3],s_ 9 (.un .not r_4)]
(.cond l_9
(h_ [w_ 2 F_]
.ret)
.skip)))
(g_ [v_ l_5,o_ (.bin .add r_0 (i_ 1)),w_ 5 r_1])))
def t18:aO:=⟨1,20,[.loc 2],
(h_ [o_ (.boxL 1 l_0),w_ 2 F_]
(h_ [o_ (.loadN 5 l_1),c_ 50 [r_0],v_ r_1,o_ (.extract 0 r_2),o_ (.extract 1 r_2),o_ (.allocL 4 [(.int .i64 0),(.int .i64 0),(.str []),(.sl .nil []),(.int .i64 0)]),w_ 3 r_3,o_ (.store 5 r_5 r_4)]
(.seq (.seq (g_ [w_ 5 (i_ 0)])
(.block 0
(.loop t18L1)))
(.seq (.seq (g_ [f_ 0 l_4,d_ r_0,o_ (.bin .neq r_1 (i_ 7)),v_ r_2,y_ 3 (.fieldAddr 3 l_4),y_ 3 (.load1 r_4),y_ 3 (.len .sl r_5),y_ 3 (.bin .gtr r_6 (i_ 0)),s_ 10 (.pick r_3 r_7 F_)])
(.cond dD
(h_ [w_ 2 F_]
.ret)
.skip))
(.seq (.seq (g_ [w_ 6 (i_ 0)])
(.block 2
(.loop t18L0)))
(h_ [f_ 2 l_4,d_ r_0,c_ 51 [r_1],v_ r_2,o_ (.extract 0 r_3),o_ (.extract 1 r_3),v_ r_4,w_ 7 r_5]
(.seq (.seq (g_ [f_ 0 l_4,s_ 13 (.load1 r_0)])
(.block 4
(.seq (.seq (g_ [o_ (.bin .eql jC (i_ 0)),w_ 14 r_0])
(.cond lZ
.skip
(h_ [o_ (.bin .eql jC (i_ 7)),w_ 14 r_0]
(.cond lZ
.skip
(h_ [o_ (.bin .eql jC (i_ 8)),w_ 14 r_0]
(.cond lZ
.skip
(h_ [o_ (.bin .eql jC (i_ 9)),w_ 14 r_0]
(.cond lZ
.skip
(g_ [o_ (.bin .eql jC (i_ 10)),w_ 14 r_0])))))))))
(.cond lZ
(h_ [w_ 2 T_]
.ret)
(h_ [o_ (.bin .eql jC (i_ 1)),w_ 15 r_0]
(.cond wZ
(h_ [f_ 1 l_4,d_ r_0,o_ (.bin .eql r_1 (i_ 0)),v_ r_2,x_ 3 (.fieldAddr 1 l_4),x_ 3 (.load1 r_4),x_ 3 (.bin .eql r_5 (i_ 1)),o_ (.pick r_3 T_ r_6),w_ 2 r_7]
.ret)
(h_ [o_ (.bin .eql jC (i_ 2)),w_ 16 r_0]
(.cond vQ
(h_ [f_ 2 l_4,d_ r_0,c_ 52 [r_1],w_ 2 r_2]
.ret)
(h_ [o_ (.bin .eql jC (i_ 3)),w_ 17 r_0]
(.cond yW
(h_ [f_ 1 l_4,d_ r_0,c_ 53 [r_1],w_ 2 r_2]
.ret)
(h_ [o_ (.bin .eql jC (i_ 4)),w_ 18 r_0]
(.cond aCf
(h_ [v_ l_7,o_ (.bin .eql r_0 (i_ 0)),w_ 2 r_1]
.ret)
(h_ [o_ (.bin .eql jC (i_ 5)),w_ 19 r_0]
(.cond aCg
(h_ [v_ l_7,o_ (.bin .eql r_0 (i_ 0)),v_ r_1,y_ 2 (.fieldAddr 2 l_4),y_ 2 (.load1 r_3),y_ 2 (.len .str r_4),y_ 2 (.bin .gtr r_5 (i_ 0)),o_ (.pick r_2 r_6 F_),w_ 2 r_7]
.ret)
.skip))))))))))))))
(h_ [w_ 2 F_]
.ret))))))))⟩
def a19:Ann:=⟨[0,1,2,3,4],[3,2],[],[],[]⟩
def t19:aO:=⟨2,5,[.loc 4],
(h_ [o_ (.boxL 2 l_0),o_ (.boxL 3 l_1),w_ 4 F_]
(h_ [f_ 5 l_2,d_ r_0,f_ 5 l_3,d_ r_2,o_ (.bin .eql r_1 r_3),v_ r_4,y_ 5 (.fieldAddr 6 l_2),y_ 5 (.load1 r_6),y_ 5 (.fieldAddr 6 l_3),y_ 5 (.load1 r_8),y_ 5 (.bin .eql r_7 r_9),o_ (.pick r_5 dN F_),v_ eU,y_ 12 (.fieldAddr 7 l_2),y_ 12 (.load1 hP),y_ 12 (.fieldAddr 7 l_3),y_ 12 (.load1 sC),y_ 12 (.call false false 54 [nG,sD,(.fn 55)]),o_ (.pick iI tS F_),v_ wY,y_ 19 (.fieldAddr 0 l_2),y_ 19 (.loadN 5 aCd),y_ 19 (.fieldAddr 0 l_3),y_ 19 (.loadN 5 aC4),y_ 19 (.call false false 56 [aCe,aHb]),o_ (.pick yV aKn F_),w_ 4 aOc]
.ret))⟩
def a20:Ann:=⟨[0,1,2,3,4,5,26,31,45],[3,2],[],[],[(6,⟨[0,1,0,7,15,0,32,0,224,480,1023,2047],[0,1,2,3,4,5,6,7,8,9],[(10,[],[11])]⟩)]⟩
def t20L0:aK:=(.seq (.seq (g_ [v_ l_5,f_ 7 l_2,d_ r_1,o_ (.len .sl r_2),s_ 7 (.bin .lss r_0 r_3)])
(.cond l_7
.skip
(.exit 0)))
(.seq (.block 1
(.seq (.draw [0,1,2,3,4,5,6,7,8,9] [(10,[],[11])] [f_ 7 l_2,d_ r_0,v_ l_5,o_ (.indexAddrS 5 r_1 r_2),o_ (.loadN 5 r_3),f_ 7 l_3,d_ r_5,v_ l_5,o_ (.indexAddrS 5 r_6 r_7),o_ (.loadN 5 r_8),c_ 57 [r_4,r_9],s_ 8 (.un .not dN)])
(.cond l_8
(h_ [w_ 4 F_]
.ret)
.skip)))
(g_ [v_ l_5,o_ (.bin .add r_0 (i_ 1)),w_ 5 r_1])))
def t20:aO:=⟨2,9,[.loc 4],
(h_ [o_ (.boxL 2 l_0),o_ (.boxL 3 l_1),w_ 4 F_]
(.seq (.seq (g_ [f_ 5 l_2,d_ r_0,f_ 5 l_3,d_ r_2,o_ (.bin .neq r_1 r_3),v_ r_4,x_ 5 (.fieldAddr 6 l_2),x_ 5 (.load1 r_6),x_ 5 (.fieldAddr 6 l_3),x_ 5 (.load1 r_8),x_ 5 (.bin .neq r_7 r_9),o_ (.pick r_5 T_ dN),v_ eU,x_ 12 (.fieldAddr 7 l_2),x_ 12 (.load1 hP),x_ 12 (.len .sl nG),x_ 12 (.fieldAddr 7 l_3),x_ 12 (.load1 sD),x_ 12 (.len .sl tS),x_ 12 (.bin .neq sC wY),s_ 6 (.pick iI T_ yV)])
(.cond l_6
(h_ [w_ 4 F_]
.ret)
.skip))
(.seq (.seq (g_ [w_ 5 (i_ 0)])
(.block 0
(.loop t20L0)))
(h_ [f_ 0 l_2,o_ (.loadN 5 r_0),f_ 0 l_3,o_ (.loadN 5 r_2),o_ (.call false false 58 [r_1,r_3]),w_ 4 r_4]
.ret))))⟩
def a21:Ann:=⟨[0,1,2,3,12,21],[1],[],[],[]⟩
def t21L0:aK:=(.seq (.seq (g_ [v_ l_3,f_ 7 l_1,d_ r_1,o_ (.len .sl r_2),o_ (.bin .lss r_0 r_3),v_ r_4,y_ 5 (.mov l_3),y_ 5 (.bin .lss r_6 (i_ 30)),s_ 4 (.pick r_5 r_7 F_)])
(.cond l_4
.skip
(.exit 0)))
(.seq (.block 1
(h_ [f_ 7 l_1,d_ r_0,v_ l_3,o_ (.indexAddrS 5 r_1 r_2),o_ (.loadN 5 r_3),c_ 59 [r_4,(i_ 60)],s_ 5 (.bin .gtr r_5 (i_ 200))]
(.cond l_5
(h_ [w_ 2 T_]
.ret)
.skip)))
(g_ [v_ l_3,o_ (.bin .add r_0 (i_ 1)),w_ 3 r_1])))
def t21:aO:=⟨1,6,[.loc 2],
(h_ [o_ (.boxL 1 l_0),w_ 2 F_]
(.seq (.seq (g_ [w_ 3 (i_ 0)])
(.block 0
(.loop t21L0)))
(h_ [f_ 0 l_1,o_ (.loadN 5 r_0),c_ 60 [r_1,(i_ 400)],o_ (.bin .gtr r_2 (i_ 2000)),v_ r_3,x_ 4 (.fieldAddr 7 l_1),x_ 4 (.load1 r_5),x_ 4 (.len .sl r_6),x_ 4 (.bin .gtr r_7 (i_ 20)),o_ (.pick r_4 T_ r_8),v_ r_9,x_ 10 (.fieldAddr 6 l_1),x_ 10 (.load1 eU),x_ 10 (.bin .gtr iI (i_ 1099511627776)),o_ (.pick dN T_ hP),w_ 2 nG]
.ret)))⟩
def a22:Ann:=⟨[0],[],[],[],[]⟩
def t22:aO:=⟨0,1,[.loc 0],
(h_ [w_ 0 F_]
(h_ [c_ 61 [],c_ 27 [(i_ 1),r_0],o_ (.call true false 29 [r_1,(.cst (.str [40,108,97,109,98,100,97,32,40,118,49,41,32,40,99,97,108,108,32,40,108,97,109,98,100,97,32,40,118,48,41,32,40,98,101,103,105,110,32,40,115,101,116,45,98,111,120,33,32,118,48,32,99,48,41,32,40,117,110,98,111,120,32,118,48,41,41,41,32,40,98,111,120,32,118,49,41,41,41]))]),w_ 0 r_2]
.ret))⟩
def a23:Ann:=⟨[0,1,2,3,4,18],[1],[],[],[(1,⟨[0,1,3,7,15,0,32,103,255,511],[0,1,5,6],[(2,[6],[3,4]),(7,[],[8,9])]⟩),(5,⟨[0,1,0,4,15,31,0,64,0,448,960,1996,4095,8191],[0,1,2,6,7,8,9,10],[(3,[7,10],[4,5]),(11,[],[12,13])]⟩)]⟩
def t23L0:aK:=(.seq (.seq (g_ [v_ l_4,f_ 7 l_1,d_ r_1,o_ (.len .sl r_2),s_ 5 (.bin .lss r_0 r_3)])
(.cond l_5
.skip
(.exit 0)))
(.seq (.block 1
(.draw [0,1,2,6,7,8,9,10] [(3,[7,10],[4,5]),(11,[],[12,13])] [v_ l_3,o_ (.bin .add r_0 (.cst (.str [10,99]))),v_ l_4,c_ 62 [r_2],o_ (.bin .add r_1 r_3),o_ (.bin .add r_4 (.cst (.str [32]))),f_ 7 l_1,d_ r_6,v_ l_4,o_ (.indexAddrS 5 r_7 r_8),o_ (.loadN 5 r_9),c_ 63 [dN,F_],o_ (.bin .add r_5 eU),w_ 3 iI]))
(g_ [v_ l_4,o_ (.bin .add r_0 (i_ 1)),w_ 4 r_1])))
def t23:aO:=⟨1,6,[.loc 2],
(h_ [o_ (.boxL 1 l_0),s_ 2 (.mov (.cst (.str [])))]
(.seq (.draw [0,1,5,6] [(2,[6],[3,4]),(7,[],[8,9])] [f_ 5 l_1,d_ r_0,c_ 62 [r_1],o_ (.bin .add (.cst (.str [103,108,111,98,97,108,115,32])) r_2),o_ (.bin .add r_3 (.cst (.str [32,118,97,114,115,32]))),f_ 6 l_1,d_ r_5,c_ 62 [r_6],o_ (.bin .add r_4 r_7),w_ 3 r_8])
(.seq (.seq (g_ [w_ 4 (i_ 0)])
(.block 0
(.loop t23L0)))
(h_ [v_ l_3,o_ (.bin .add r_0 (.cst (.str [10]))),f_ 0 l_1,o_ (.loadN 5 r_2),c_ 64 [r_3],o_ (.bin .add r_1 r_4),w_ 2 r_5]
.ret))))⟩
def a24:Ann:=⟨[0,1,2,3,4,5,7,8,12,17,26,27,28,29],[8,2,1],[],[],[(13,⟨[0,0,2,0,8,24,56,0,128,384,1023,2047,4095],[0,1,2,3,4,5,6,7,8],[(9,[0,2,6],[10]),(11,[],[12])]⟩)]⟩
def t24L0:aK:=(.seq (g_ [s_ 13 (.bin .lss kE iM)])
(.seq (.cond jC
.skip
(.exit 0))
(.seq (.block 1
(h_ [o_ (.indexAddrS 1 dD kE),d_ r_0,w_ 6 r_1]
(g_ [v_ l_5,o_ (.nilCheck r_0),f_ 0 r_1,d_ r_2,v_ l_6,o_ (.build [(.int .i64 0)] []),o_ (.update (.leaf .int) r_3 r_4 r_5)])))
(g_ [o_ (.bin .add kE (i_ 1)),w_ 12 r_0]))))
def t24:aO:=⟨1,14,[.cell 2 8 true,.loc 3],
(h_ [o_ (.boxL 1 l_0),o_ (.allocL 2 [(.int .i64 0),(.int .i64 0),(.sl .nil []),(.bool false),(.sl .nil []),(.int .i64 0),(.int .i64 0),(.sl .nil [])]),w_ 3 (i_ 0)]
(.seq (.seq (g_ [o_ (.loadN 8 l_1),c_ 13 [r_0],w_ 4 r_1])
(h_ [v_ l_4,s_ 8 (.bin .neq r_0 (i_ 0))]
(.cond l_8
(h_ [o_ (.build [(.int .i64 0),(.int .i64 0),(.sl .nil []),(.bool false),(.sl .nil []),(.int .i64 0),(.int .i64 0),(.sl .nil [])] []),v_ l_4,o_ (.store 8 l_2 r_0),w_ 3 r_1]
.ret)
.skip)))
(.seq (.seq (g_ [f_ 0 l_1,o_ (.loadN 5 r_0),s_ 9 (.call true false 65 [r_1])])
(.cond l_9
(h_ [o_ (.build [(.int .i64 0),(.int .i64 0),(.sl .nil []),(.bool false),(.sl .nil []),(.int .i64 0),(.int .i64 0),(.sl .nil [])] []),o_ (.store 8 l_2 r_0),w_ 3 (i_ 2)]
.ret)
.skip))
(h_ [o_ (.mkMap),f_ 6 l_1,d_ r_1,o_ (.build [.nilm,(.int .i64 0)] [(0,1,r_0),(1,1,r_2)]),o_ (.boxH 80 r_3),w_ 5 r_4]
(.seq (.seq (g_ [f_ 0 l_1,o_ (.loadN 5 r_0),s_ 10 (.call true false 14 [r_1]),s_ 11 (.len .sl r_2),w_ 12 (i_ 0)])
(.block 0
(.loop t24L0)))
(h_ [v_ l_5,f_ 0 l_1,o_ (.loadN 5 r_1),o_ (.call false false 66 [r_0,r_2]),o_ (.allocL 7 [(.int .i64 0),(.int .i64 0),(.sl .nil []),(.bool false),(.sl .nil [])]),o_ (.store 5 r_4 r_3)]
(.seq (.draw [0,1,2,3,4,5,6,7,8] [(9,[0,2,6],[10]),(11,[],[12])] [o_ (.loadN 5 l_7),f_ 5 l_1,d_ r_1,v_ l_5,o_ (.nilCheck r_3),f_ 1 r_4,d_ r_5,f_ 7 l_1,d_ r_7,o_ (.call false false 67 [r_8]),o_ (.build [(.int .i64 0),(.int .i64 0),(.sl .nil []),(.bool false),(.sl .nil []),(.int .i64 0),(.int .i64 0),(.sl .nil [])] [(0,5,r_0),(5,1,r_2),(6,1,r_6),(7,1,r_9)]),o_ (.store 8 l_2 dN),w_ 3 (i_ 0)])
.ret)))))))⟩
def a25:Ann:=⟨[0,1,2,3,4,5,6,10,15],[6,2,1],[],[],[(6,⟨[0,1,3,0,8,31,63],[0,1,3,4],[(2,[4],[]),(5,[],[6])]⟩),(7,⟨[0,1,0,0,8,31,0,64,0,256,0,1024,3840,8191,0,32767],[0,1,2,3,4,6,7,8,9,10,11,12,14],[(5,[7,9,11],[13]),(15,[],[])]⟩)]⟩
def t25:aO:=⟨1,9,[.cell 2 8 true,.loc 3],
(h_ [o_ (.boxL 1 l_0),o_ (.allocL 2 [(.int .i64 0),(.int .i64 0),(.sl .nil []),(.bool false),(.sl .nil []),(.int .i64 0),(.int .i64 0),(.sl .nil [])]),w_ 3 (i_ 0)]
(h_ [o_ (.loadN 8 l_1),c_ 68 [r_0],w_ 4 r_1]
(.seq (.seq (g_ [v_ l_4,s_ 7 (.bin .neq r_0 (i_ 0))])
(.cond l_7
(h_ [o_ (.build [(.int .i64 0),(.int .i64 0),(.sl .nil []),(.bool false),(.sl .nil []),(.int .i64 0),(.int .i64 0),(.sl .nil [])] []),v_ l_4,o_ (.store 8 l_2 r_0),w_ 3 r_1]
.ret)
.skip))
(.seq (.seq (g_ [f_ 0 l_1,o_ (.loadN 5 r_0),s_ 8 (.call true false 69 [r_1])])
(.cond l_8
(h_ [o_ (.build [(.int .i64 0),(.int .i64 0),(.sl .nil []),(.bool false),(.sl .nil []),(.int .i64 0),(.int .i64 0),(.sl .nil [])] []),o_ (.store 8 l_2 r_0),w_ 3 (i_ 2)]
.ret)
.skip))
(.seq (.draw [0,1,3,4] [(2,[4],[]),(5,[],[6])] [f_ 0 l_1,o_ (.loadN 5 r_0),c_ 71 [r_1],f_ 0 l_1,o_ (.loadN 5 r_3),o_ (.call false false 70 [N_,r_2,r_4]),w_ 5 r_5])
(.seq (.draw [0,1,2,3,4,6,7,8,9,10,11,12,14] [(5,[7,9,11],[13]),(15,[],[])] [f_ 0 l_1,o_ (.loadN 5 r_0),v_ l_5,f_ 6 l_1,d_ r_3,c_ 72 [r_1,r_2,r_4],f_ 5 l_1,d_ r_6,f_ 6 l_1,d_ r_8,v_ l_5,o_ (.len .sl dN),o_ (.bin .add r_9 eU),o_ (.build [(.int .i64 0),(.int .i64 0),(.sl .nil []),(.bool false),(.sl .nil []),(.int .i64 0),(.int .i64 0),(.sl .nil [])] [(0,5,r_5),(5,1,r_7),(6,1,iI)]),s_ 6 (.allocH 29 [(.int .i64 0),(.int .i64 0),(.sl .nil []),(.bool false),(.sl .nil []),(.int .i64 0),(.int .i64 0),(.sl .nil [])]),o_ (.store 8 nG hP)])
(h_ [f_ 7 l_6,d_ r_0,f_ 7 l_1,d_ r_2,o_ (.append false 5 64 39 r_1 r_3),f_ 7 l_6,o_ (.store 1 r_5 r_4)]
(h_ [o_ (.loadN 8 l_6),o_ (.store 8 l_2 r_0),w_ 3 (i_ 0)]
.ret))))))))⟩
def a26:Ann:=⟨[0,2],[2],[],[],[]⟩
def t26:aO:=⟨1,2,[.cell 1 5 true],
(h_ [o_ (.allocL 1 [(.int .i64 0),(.int .i64 0),(.sl .nil []),(.bool false),(.sl .nil [])])]
(h_ [v_ l_0,o_ (.build [(.int .i64 0),(.int .i64 0),(.sl .nil []),(.bool false),(.sl .nil [])] [(0,1,(i_ 2)),(1,1,r_0)]),o_ (.store 5 l_1 r_1)]
.ret))⟩
def a27:Ann:=⟨[0,1,3,4],[4,3],[],[],[]⟩
def t27:aO:=⟨2,4,[.cell 3 8 true],
(h_ [o_ (.boxL 2 l_1),o_ (.allocL 3 [(.int .i64 0),(.int .i64 0),(.sl .nil []),(.bool false),(.sl .nil []),(.int .i64 0),(.int .i64 0),(.sl .nil [])])]
(h_ [o_ (.loadN 5 l_2),v_ l_0,o_ (.build [(.int .i64 0),(.int .i64 0),(.str []),(.sl .nil []),(.int .i64 0)] [(0,1,(i_ 0))]),o_ (.lit false [(.int .i64 0),(.int .i64 0),(.str []),(.sl .nil []),(.int .i64 0)] 1 [(0,r_2)]),o_ (.build [(.int .i64 0),(.int .i64 0),(.sl .nil []),(.bool false),(.sl .nil []),(.int .i64 0),(.int .i64 0),(.sl .nil [])] [(0,5,r_0),(6,1,r_1),(7,1,r_3)]),o_ (.store 8 l_3 r_4)]
.ret))⟩
def a28:Ann:=⟨[0,2],[2],[],[],[]⟩
def t28:aO:=⟨1,2,[.cell 1 5 true],
(h_ [o_ (.allocL 1 [(.int .i64 0),(.int .i64 0),(.sl .nil []),(.bool false),(.sl .nil [])])]
(h_ [v_ l_0,o_ (.build [(.int .i64 0),(.int .i64 0),(.sl .nil []),(.bool false),(.sl .nil [])] [(0,1,(i_ 1)),(1,1,r_0)]),o_ (.store 5 l_1 r_1)]
.ret))⟩
def a29:Ann:=⟨[0,1,2,4,5,6],[5,2],[],[],[]⟩
def t29:aO:=⟨2,6,[.loc 3],
(h_ [o_ (.boxL 2 l_0),w_ 3 F_]
(h_ [o_ (.loadN 8 l_2),c_ 24 [r_0],v_ r_1,o_ (.extract 0 r_2),o_ (.extract 1 r_2),o_ (.allocL 4 [(.int .i64 0),(.int .i64 0),(.sl .nil []),(.bool false),(.sl .nil []),(.int .i64 0),(.int .i64 0),(.sl .nil [])]),o_ (.store 8 r_5 r_3),w_ 5 r_4]
(h_ [v_ l_5,o_ (.bin .eql r_0 (i_ 0)),v_ r_1,y_ 2 (.fieldAddr 0 l_4),y_ 2 (.loadN 5 r_3),y_ 2 (.call false false 38 [r_4]),y_ 2 (.mov l_1),y_ 2 (.bin .eql r_5 r_6),o_ (.pick r_2 r_7 F_),w_ 3 r_8]
.ret)))⟩
def a31:Ann:=⟨[0,1,2,3,4,7,12],[1],[],[],[]⟩
def t31L0:aK:=(.seq (.seq (g_ [v_ l_4,f_ 4 l_1,d_ r_1,o_ (.len .sl r_2),s_ 6 (.bin .lss r_0 r_3)])
(.cond l_6
.skip
(.exit 0)))
(.seq (.block 1
(g_ [v_ l_3,f_ 4 l_1,d_ r_1,v_ l_4,o_ (.indexAddrS 5 r_2 r_3),o_ (.loadN 5 r_4),c_ 31 [r_5],o_ (.bin .add r_0 r_6),w_ 3 r_7]))
(g_ [v_ l_4,o_ (.bin .add r_0 (i_ 1)),w_ 4 r_1])))
def t31:aO:=⟨1,7,[.loc 2],
(h_ [o_ (.boxL 1 l_0),w_ 2 (i_ 0)]
(h_ [w_ 3 (i_ 0)]
(.seq (.seq (g_ [f_ 0 l_1,d_ r_0,s_ 5 (.bin .eql r_1 (i_ 4))])
(.cond l_5
(g_ [w_ 3 (i_ 1)])
.skip))
(.seq (.seq (g_ [w_ 4 (i_ 0)])
(.block 0
(.loop t31L0)))
(h_ [v_ l_3,w_ 2 r_0]
.ret)))))⟩
def a32:Ann:=⟨[0,1,2,3,4,9],[1],[],[],[]⟩
def t32L0:aK:=(.seq (.seq (g_ [v_ l_4,f_ 4 l_1,d_ r_1,o_ (.len .sl r_2),s_ 5 (.bin .lss r_0 r_3)])
(.cond l_5
.skip
(.exit 0)))
(.seq (.block 1
(g_ [v_ l_3,f_ 4 l_1,d_ r_1,v_ l_4,o_ (.indexAddrS 5 r_2 r_3),o_ (.loadN 5 r_4),c_ 32 [r_5],o_ (.bin .add (i_ 1) r_6),o_ (.minmax true [r_0,r_7]),w_ 3 r_8]))
(g_ [v_ l_4,o_ (.bin .add r_0 (i_ 1)),w_ 4 r_1])))
def t32:aO:=⟨1,6,[.loc 2],
(h_ [o_ (.boxL 1 l_0),w_ 2 (i_ 0)]
(h_ [w_ 3 (i_ 0)]
(.seq (.seq (g_ [w_ 4 (i_ 0)])
(.block 0
(.loop t32L0)))
(h_ [v_ l_3,w_ 2 r_0]
.ret))))⟩
def a38:Ann:=⟨[0,1,2,3,4,5,6,8,38,43,44,54,65,83,86,87,88,89],[8,3,1],[(4,2)],[],[(9,⟨[0,1,0,4,12,31,63],[0,1,2,3],[(4,[1],[5,6])]⟩),(12,⟨[0,1,3,0,8,24,63,127,255],[0,1,2,3,4],[(5,[2],[6,7]),(8,[],[])]⟩)]⟩
def t38L0:aK:=(.seq (g_ [s_ 17 (.bin .lss vQ wZ)])
(.seq (.cond yW
.skip
(.exit 1))
(.seq (.block 2
(h_ [o_ (.indexAddrS 5 lZ vQ),o_ (.loadN 5 r_0),o_ (.allocL 7 [(.int .i64 0),(.int .i64 0),(.sl .nil []),(.bool false),(.sl .nil [])]),o_ (.store 5 r_2 r_1)]
(g_ [v_ l_5,o_ (.loadN 5 l_7),o_ (.call false false 38 [r_1]),o_ (.lit false [(.str [])] 1 [(0,r_2)]),o_ (.append false 1 16 9 r_0 r_3),w_ 5 r_4])))
(g_ [o_ (.bin .add vQ (i_ 1)),w_ 16 r_0]))))
def t38:aO:=⟨1,18,[.loc 2],
(h_ [o_ (.boxL 1 l_0),s_ 2 (.mov (.cst (.str [])))]
(h_ [o_ (.loadN 5 l_1),c_ 74 [r_0],v_ r_1,o_ (.extract 0 r_2),o_ (.extract 1 r_2),o_ (.allocL 3 [(.bool false),(.int .i64 0),(.bool false),(.str [])]),o_ (.store 4 r_5 r_3),w_ 4 r_4]
(.seq (.seq (g_ [v_ l_4,o_ (.un .not r_0),v_ r_1,x_ 2 (.fieldAddr 4 l_1),x_ 2 (.load1 r_3),x_ 2 (.len .sl r_4),x_ 2 (.fieldAddr 1 l_3),x_ 2 (.load1 r_6),x_ 2 (.bin .lss r_5 r_7),o_ (.pick r_2 T_ r_8),v_ r_9,x_ 10 (.fieldAddr 3 l_1),x_ 10 (.load1 eU),x_ 10 (.mov iI),y_ 13 (.fieldAddr 0 l_1),y_ 13 (.load1 nG),y_ 13 (.bin .eql sC (i_ 7)),x_ 10 (.pick hP sD F_),x_ 10 (.mov tS),y_ 18 (.fieldAddr 2 l_1),y_ 18 (.load1 yV),y_ 18 (.len .sl aCd),y_ 18 (.bin .eql aCe (i_ 0)),x_ 10 (.pick wY aC4 F_),s_ 8 (.pick dN T_ aHb)])
(.cond l_8
(h_ [s_ 2 (.mov (.cst (.str [63])))]
.ret)
.skip))
(h_ [f_ 3 l_3,d_ r_0,o_ (.lit true [(.str [])] 1 [(0,r_1)]),w_ 5 r_2]
(.seq (.seq (g_ [f_ 0 l_1,s_ 9 (.load1 r_0)])
(.block 0
(.seq (.seq (g_ [o_ (.bin .eql l_9 (i_ 1)),w_ 10 r_0])
(.cond dD
.skip
(h_ [o_ (.bin .eql l_9 (i_ 2)),w_ 10 r_0]
(.cond dD
.skip
(g_ [o_ (.bin .eql l_9 (i_ 3)),w_ 10 r_0])))))
(.cond dD
(.seq (.draw [0,1,2,3] [(4,[1],[5,6])] [f_ 3 l_3,d_ r_0,f_ 1 l_1,d_ r_2,c_ 75 [r_3],o_ (.bin .add r_1 r_4),w_ 2 r_5])
.ret)
(.seq (.seq (g_ [o_ (.bin .eql l_9 (i_ 4)),w_ 11 r_0])
(.cond iM
.skip
(g_ [o_ (.bin .eql l_9 (i_ 5)),w_ 11 r_0])))
(.cond iM
(.draw [0,1,2,3,4] [(5,[2],[6,7]),(8,[],[])] [v_ l_5,o_ (.indexAddrS 1 r_0 (i_ 0)),d_ r_1,f_ 1 l_1,d_ r_3,c_ 75 [r_4],o_ (.bin .add r_2 r_5),o_ (.indexAddrS 1 r_0 (i_ 0)),o_ (.store 1 r_7 r_6)])
(h_ [o_ (.bin .eql l_9 (i_ 7)),w_ 12 r_0]
(.cond kE
(g_ [v_ l_5,o_ (.loadN 5 l_1),o_ (.call false false 76 [r_1]),o_ (.lit false [(.str [])] 1 [(0,r_2)]),o_ (.append false 1 16 9 r_0 r_3),w_ 5 r_4])
.skip))))))))
(h_ [f_ 4 l_1,d_ r_0,f_ 1 l_3,d_ r_2,o_ (.slice (.sl 5) r_1 none (some r_3) none),w_ 6 r_4]
(.seq (.seq (g_ [f_ 2 l_3,d_ r_0,v_ r_1,x_ 2 (.fieldAddr 0 l_1),x_ 2 (.load1 r_3),x_ 2 (.bin .eql r_4 (i_ 9)),s_ 13 (.pick r_2 T_ r_5)])
(.cond jC
(g_ [f_ 4 l_1,d_ r_0,w_ 6 r_1])
.skip))
(.seq (.seq (g_ [w_ 14 l_6,s_ 15 (.len .sl r_0),w_ 16 (i_ 0)])
(.block 1
(.loop t38L0)))
(h_ [v_ l_5,o_ (.call true false 77 [r_0,(.cst (.str [32]))]),o_ (.bin .add (.cst (.str [40])) r_1),o_ (.bin .add r_2 (.cst (.str [41]))),w_ 2 r_3]
.ret)))))))))⟩
def a40:Ann:=⟨[0,1,2,4,5,6,8,17],[2],[],[],[]⟩
def t40L0:aK:=(.seq (.seq (g_ [v_ l_5,f_ 3 l_2,d_ r_1,o_ (.len .sl r_2),o_ (.bin .lss r_0 r_3),v_ r_4,y_ 5 (.mov l_4),y_ 5 (.bin .lss r_6 (i_ 5000)),s_ 7 (.pick r_5 r_7 F_)])
(.cond l_7
.skip
(.exit 0)))
(.seq (.block 1
(g_ [v_ l_4,f_ 3 l_2,d_ r_1,v_ l_5,o_ (.indexAddrS 5 r_2 r_3),o_ (.loadN 5 r_4),v_ l_1,o_ (.bin .sub r_6 (i_ 1)),o_ (.call false false 40 [r_5,r_7]),o_ (.bin .add r_0 r_8),w_ 4 r_9]))
(g_ [v_ l_5,o_ (.bin .add r_0 (i_ 1)),w_ 5 r_1])))
def t40:aO:=⟨2,8,[.loc 3],
(h_ [o_ (.boxL 2 l_0),w_ 3 (i_ 0)]
(.seq (.seq (g_ [v_ l_1,s_ 6 (.bin .eql r_0 (i_ 0))])
(.cond l_6
(h_ [w_ 3 (i_ 5000)]
.ret)
.skip))
(h_ [w_ 4 (i_ 1)]
(.seq (.seq (g_ [w_ 5 (i_ 0)])
(.block 0
(.loop t40L0)))
(h_ [v_ l_4,w_ 3 r_0]
.ret)))))⟩
def a42:Ann:=⟨[0,1,2,4,10,17],[1],[],[],[]⟩
def t42L0:aK:=(.seq (.seq (g_ [o_ (.loadN 5 l_1),s_ 3 (.call false false 82 [r_0])])
(.cond l_3
.skip
(.exit 0)))
(.block 1
(.seq (.seq (g_ [f_ 3 l_1,d_ r_0,o_ (.indexAddrS 5 r_1 (i_ 0)),o_ (.loadN 5 r_2),c_ 42 [r_3],s_ 4 (.un .not r_4)])
(.cond l_4
(h_ [w_ 2 F_]
.ret)
.skip))
(g_ [f_ 3 l_1,d_ r_0,o_ (.indexAddrS 5 r_1 (i_ 1)),o_ (.loadN 5 r_2),o_ (.store 5 l_1 r_3)]))))
def t42:aO:=⟨1,6,[.loc 2],
(h_ [o_ (.boxL 1 l_0),w_ 2 F_]
(.seq (.block 0
(.loop t42L0))
(.seq (.seq (g_ [f_ 0 l_1,d_ r_0,s_ 5 (.bin .eql r_1 (i_ 7))])
(.cond l_5
(h_ [f_ 3 l_1,d_ r_0,o_ (.call false false 83 [r_1,(.fn 84)]),o_ (.un .not r_2),w_ 2 r_3]
.ret)
.skip))
(h_ [f_ 3 l_1,d_ r_0,o_ (.len .sl r_1),o_ (.bin .eql r_2 (i_ 0)),v_ r_3,y_ 4 (.loadN 5 l_1),y_ 4 (.call true false 85 [r_5]),o_ (.pick r_4 r_6 F_),w_ 2 r_7]
.ret))))⟩
def a43:Ann:=⟨[0,1,2,11,17,29],[1],[],[],[]⟩
def t43L0:aK:=(.seq (.seq (g_ [f_ 0 l_1,d_ r_0,o_ (.bin .eql r_1 (i_ 6)),v_ r_2,y_ 3 (.fieldAddr 3 l_1),y_ 3 (.load1 r_4),y_ 3 (.len .sl r_5),y_ 3 (.bin .eql r_6 (i_ 2)),s_ 3 (.pick r_3 r_7 F_)])
(.cond l_3
.skip
(.exit 0)))
(.block 1
(.seq (.seq (g_ [f_ 3 l_1,d_ r_0,o_ (.indexAddrS 5 r_1 (i_ 0)),o_ (.loadN 5 r_2),c_ 43 [r_3],s_ 4 (.un .not r_4)])
(.cond l_4
(h_ [w_ 2 F_]
.ret)
.skip))
(g_ [f_ 3 l_1,d_ r_0,o_ (.indexAddrS 5 r_1 (i_ 1)),o_ (.loadN 5 r_2),o_ (.store 5 l_1 r_3)]))))
def t43:aO:=⟨1,6,[.loc 2],
(h_ [o_ (.boxL 1 l_0),w_ 2 F_]
(.seq (.block 0
(.loop t43L0))
(.seq (.seq (g_ [f_ 0 l_1,d_ r_0,o_ (.bin .eql r_1 (i_ 5)),v_ r_2,y_ 3 (.fieldAddr 1 l_1),y_ 3 (.load1 r_4),y_ 3 (.bin .neq r_5 (i_ 0)),s_ 5 (.pick r_3 r_6 F_)])
(.cond l_5
(h_ [w_ 2 F_]
.ret)
.skip))
(h_ [f_ 3 l_1,d_ r_0,o_ (.call false false 83 [r_1,(.fn 86)]),o_ (.un .not r_2),w_ 2 r_3]
.ret))))⟩
def a44:Ann:=⟨[0,1,2,4,6,8,10,11,13,14,17,23,24,25,26,36,52,61,87,89,90,91,92,101,105,106,107,108],[10,4],[],[],[(14,⟨[0,1,3,7,0,16,63,127,255],[0,1,2,3,4,5,6,7,8],[]⟩),(16,⟨[0,1,3,7,0,16,0,127],[0,1,2,3,4,5,6],[(7,[],[])]⟩),(17,⟨[0,1,3,7,15,31,63,127,255,511,1023,2047,4095,511,8703,32767,65535,131071,262143],[0,1,2,3,4,5,6,7,8,9,10,11,12,13,14,15,16,17,18],[]⟩)]⟩
def t44L0:aK:=(.seq (g_ [s_ 27 (.bin .lss bJq bK7)])
(.seq (.cond bMn
.skip
(.exit 5))
(.seq (.block 6
(h_ [o_ (.indexAddrS 1 bK6 bJq),d_ r_0,w_ 8 r_1]
(g_ [v_ l_0,o_ (.nilCheck r_0),f_ 10 r_1,d_ r_2,v_ l_8,o_ (.build [(.int .i64 0)] []),o_ (.update (.leaf .int) r_3 r_4 r_5)])))
(g_ [o_ (.bin .add bJq (i_ 1)),w_ 26 r_0]))))
def t44L1:aK:=(.seq (g_ [s_ 22 (.bin .lss bBx bBw)])
(.seq (.cond bK4
.skip
(.exit 3))
(.seq (.block 4
(h_ [o_ (.indexAddrS 5 aCg bBx),o_ (.loadN 5 r_0),o_ (.allocL 6 [(.int .i64 0),(.int .i64 0),(.sl .nil []),(.bool false),(.sl .nil [])]),o_ (.store 5 r_2 r_1)]
(h_ [v_ l_0,o_ (.loadN 5 l_6),v_ l_2,o_ (.bin .add r_2 (i_ 1)),o_ (.call false false 44 [r_0,r_1,r_3]),w_ 7 r_4]
(h_ [v_ l_7,s_ 23 (.bin .neq r_0 (i_ 0))]
(.cond bK5
(h_ [v_ l_7,w_ 4 r_0]
.ret)
.skip)))))
(g_ [o_ (.bin .add bBx (i_ 1)),w_ 21 r_0]))))
def t44L2:aK:=(.seq (g_ [s_ 14 (.bin .lss jC kE)])
(.seq (.cond lZ
.skip
(.exit 1))
(.seq (.block 2
(h_ [o_ (.indexAddrS 1 iM jC),d_ r_0,w_ 5 r_1]
(.seq (.seq (g_ [v_ l_0,o_ (.nilCheck r_0),f_ 8 r_1,d_ r_2,v_ l_5,o_ (.lookup (.leaf .int) (.agg [(.int .i64 0)]) false r_3 r_4),o_ (.field 0 1 false r_5),s_ 15 (.bin .gtr r_6 (i_ 0))])
(.cond wZ
(h_ [w_ 4 (i_ 14)]
.ret)
.skip))
(h_ [v_ l_0,o_ (.nilCheck r_0),f_ 8 r_1,d_ r_2,v_ l_5,o_ (.build [(.int .i64 0)] [(0,1,(i_ 1))]),o_ (.update (.leaf .int) r_3 r_4 r_5)]
(g_ [v_ l_0,o_ (.nilCheck r_0),f_ 10 r_1,d_ r_2,v_ l_5,o_ (.build [(.int .i64 0)] [(0,1,(i_ 1))]),o_ (.update (.leaf .int) r_3 r_4 r_5)])))))
(g_ [o_ (.bin .add jC (i_ 1)),w_ 13 r_0]))))
def t44:aO:=⟨3,28,[.loc 4],
(h_ [o_ (.boxL 3 l_1),w_ 4 (i_ 0)]
(.seq (.block 0
(h_ [v_ l_2,o_ (.bin .geq r_0 (i_ 4000)),w_ 9 r_1]
(.cond l_9
(h_ [w_ 4 (i_ 5)]
.ret)
(h_ [v_ l_0,o_ (.loadN 5 l_3),o_ (.call false false 87 [r_0,r_1]),o_ (.un .not r_2),w_ 10 r_3]
(.cond dD
(h_ [w_ 4 (i_ 4)]
.ret)
.skip)))))
(.seq (.seq (g_ [f_ 2 l_3,s_ 11 (.load1 r_0),s_ 12 (.len .sl r_1),w_ 13 (i_ 0)])
(.block 1
(.loop t44L2)))
(.seq (.seq (g_ [f_ 0 l_3,d_ r_0,s_ 16 (.bin .eql r_1 (i_ 1))])
(.cond vQ
(.seq (.seq (.draw [0,1,2,3,4,5,6,7,8] [] [v_ l_0,o_ (.nilCheck r_0),f_ 9 r_1,d_ r_2,f_ 1 l_3,d_ r_4,o_ (.lookup (.leaf .int) (.agg [(.int .i64 0)]) false r_3 r_5),o_ (.field 0 1 false r_6),s_ 17 (.bin .gtr r_7 (i_ 0))])
(.cond yW
(h_ [w_ 4 (i_ 14)]
.ret)
.skip))
(.draw [0,1,2,3,4,5,6] [(7,[],[])] [v_ l_0,o_ (.nilCheck r_0),f_ 9 r_1,d_ r_2,f_ 1 l_3,d_ r_4,o_ (.build [(.int .i64 0)] [(0,1,(i_ 1))]),o_ (.update (.leaf .int) r_3 r_5 r_6)]))
.skip))
(.seq (.seq (.draw [0,1,2,3,4,5,6,7,8,9,10,11,12,13,14,15,16,17,18] [] [f_ 0 l_3,d_ r_0,o_ (.bin .eql r_1 (i_ 2)),v_ r_2,x_ 3 (.fieldAddr 0 l_3),x_ 3 (.load1 r_4),x_ 3 (.bin .eql r_5 (i_ 4)),o_ (.pick r_3 T_ r_6),v_ r_7,y_ 8 (.mov l_0),y_ 8 (.nilCheck r_9),y_ 8 (.fieldAddr 10 dN),y_ 8 (.load1 eU),y_ 8 (.fieldAddr 1 l_3),y_ 8 (.load1 hP),y_ 8 (.lookup (.leaf .int) (.agg [(.int .i64 0)]) false iI nG),y_ 8 (.field 0 1 false sC),y_ 8 (.bin .eql sD (i_ 0)),s_ 18 (.pick r_8 tS F_)])
(.cond aCf
(h_ [w_ 4 (i_ 6)]
.ret)
.skip))
(.seq (.seq (g_ [f_ 4 l_3,s_ 19 (.load1 r_0),s_ 20 (.len .sl r_1),w_ 21 (i_ 0)])
(.block 3
(.loop t44L1)))
(.seq (.seq (g_ [f_ 2 l_3,s_ 24 (.load1 r_0),s_ 25 (.len .sl r_1),w_ 26 (i_ 0)])
(.block 5
(.loop t44L0)))
(h_ [w_ 4 (i_ 0)]
.ret))))))))⟩
def a45:Ann:=⟨[0,1,2,5,10,11,12,13],[5,2],[],[],[]⟩
def t45L0:aK:=(.seq (g_ [s_ 7 (.bin .lss l_6 l_5)])
(.seq (.cond l_7
.skip
(.exit 0))
(.seq (.block 1
(h_ [o_ (.indexAddrS 5 l_4 l_6),o_ (.loadN 5 r_0),o_ (.allocL 3 [(.int .i64 0),(.int .i64 0),(.sl .nil []),(.bool false),(.sl .nil [])]),o_ (.store 5 r_2 r_1)]
(g_ [o_ (.loadN 5 l_3),v_ l_1,o_ (.call false false 45 [r_0,r_1])])))
(g_ [o_ (.bin .add l_6 (i_ 1)),w_ 6 r_0]))))
def t45:aO:=⟨2,8,[],
(h_ [o_ (.boxL 2 l_0)]
(h_ [v_ l_1,o_ (.loadN 5 l_2),o_ (.callv r_0 [r_1])]
(h_ [f_ 4 l_2,s_ 4 (.load1 r_0),s_ 5 (.len .sl r_1),w_ 6 (i_ 0)]
(.block 0
(.loop t45L0)))))⟩
def a46:Ann:=⟨[0,1,2,5],[2],[],[],[]⟩
def t46:aO:=⟨2,4,[],
(h_ [o_ (.boxL 2 l_0)]
(h_ [f_ 0 l_2,d_ r_0,s_ 3 (.bin .eql r_1 (i_ 4))]
(.cond l_3
(g_ [d_ l_1,f_ 1 l_2,d_ r_1,o_ (.build [(.int .i64 0)] []),o_ (.update (.leaf .int) r_0 r_2 r_3)])
.skip)))⟩
def a48:Ann:=⟨[0,1,2,4,6,7,8,9,14],[2],[],[],[]⟩
def t48L0:aK:=(.seq (g_ [s_ 7 (.bin .lss l_6 l_5)])
(.seq (.cond l_7
.skip
(.exit 0))
(.seq (.block 1
(h_ [o_ (.indexAddrS 1 l_4 l_6),d_ r_0,w_ 3 r_1]
(h_ [f_ 0 l_2,d_ r_0,s_ 8 (.bin .eql r_1 (i_ 7))]
(.cond l_8
(g_ [d_ l_1,v_ l_3,o_ (.build [(.int .i64 0)] []),o_ (.update (.leaf .int) r_0 r_1 r_2)])
.skip))))
(g_ [o_ (.bin .add l_6 (i_ 1)),w_ 6 r_0]))))
def t48:aO:=⟨2,9,[],
(h_ [o_ (.boxL 2 l_0)]
(h_ [f_ 2 l_2,s_ 4 (.load1 r_0),s_ 5 (.len .sl r_1),w_ 6 (i_ 0)]
(.block 0
(.loop t48L0))))⟩
def a49:Ann:=⟨[0,1,2,3,4,6,8,24,33,34,35,36],[8],[],[],[]⟩
def t49L0:aK:=(.seq (g_ [s_ 11 (.bin .lss dD l_9)])
(.seq (.cond iM
.skip
(.exit 0))
(.seq (.block 1
(h_ [o_ (.indexAddrS 5 l_8 dD),o_ (.loadN 5 r_0),o_ (.allocL 6 [(.int .i64 0),(.int .i64 0),(.sl .nil []),(.bool false),(.sl .nil [])]),o_ (.store 5 r_2 r_1)]
(g_ [o_ (.loadN 5 l_6),d_ l_4,v_ l_2,o_ (.call false false 49 [r_0,r_1,r_2])])))
(g_ [o_ (.bin .add dD (i_ 1)),w_ 10 r_0]))))
def t49:aO:=⟨3,12,[],
(h_ [s_ 3 (.boxH 26 l_0),s_ 4 (.boxH 56 l_1)]
(.seq (.seq (g_ [f_ 0 l_3,d_ r_0,o_ (.bin .eql r_1 (i_ 2)),v_ r_2,x_ 3 (.fieldAddr 0 l_3),x_ 3 (.load1 r_4),x_ 3 (.bin .eql r_5 (i_ 4)),o_ (.pick r_3 T_ r_6),v_ r_7,y_ 8 (.load1 l_4),y_ 8 (.fieldAddr 1 l_3),y_ 8 (.load1 dN),y_ 8 (.lookup (.leaf .int) (.agg [(.int .i64 0)]) false r_9 eU),y_ 8 (.field 0 1 false iI),y_ 8 (.bin .eql hP (i_ 0)),s_ 7 (.pick r_8 nG F_)])
(.cond l_7
(g_ [v_ l_2,f_ 1 l_3,d_ r_1,o_ (.build [(.int .i64 0)] []),o_ (.update (.leaf .int) r_0 r_2 r_3)])
.skip))
(h_ [o_ (.mkFn 90 [] [l_3,l_4]),w_ 5 r_0]
(h_ [v_ l_5,o_ (.callv r_0 [(i_ 1)])]
(.seq (.seq (g_ [f_ 4 l_3,s_ 8 (.load1 r_0),s_ 9 (.len .sl r_1),w_ 10 (i_ 0)])
(.block 0
(.loop t49L0)))
(g_ [v_ l_5,o_ (.callv r_0 [(i_ (-1))])]))))))⟩
def a50:Ann:=⟨[0,1,2,3,4,13],[3,1],[],[],[(5,⟨[0,0,1,7],[0,1,2],[(3,[],[])]⟩)]⟩
def t50L0:aK:=(.seq (.seq (g_ [f_ 0 l_1,d_ r_0,o_ (.bin .eql r_1 (i_ 6)),v_ r_2,y_ 3 (.fieldAddr 3 l_1),y_ 3 (.load1 r_4),y_ 3 (.len .sl r_5),y_ 3 (.bin .eql r_6 (i_ 2)),s_ 5 (.pick r_3 r_7 F_)])
(.cond l_5
.skip
(.exit 0)))
(.block 1
(h_ [v_ l_4,f_ 3 l_1,d_ r_1,o_ (.indexAddrS 5 r_2 (i_ 0)),o_ (.loadN 5 r_3),o_ (.lit false [(.int .i64 0),(.int .i64 0),(.str []),(.sl .nil []),(.int .i64 0)] 1 [(0,r_4)]),o_ (.append false 5 64 39 r_0 r_5),w_ 4 r_6]
(g_ [f_ 3 l_1,d_ r_0,o_ (.indexAddrS 5 r_1 (i_ 1)),o_ (.loadN 5 r_2),o_ (.store 5 l_1 r_3)]))))
def t50:aO:=⟨1,6,[.loc 2,.cell 3 5 true],
(h_ [o_ (.boxL 1 l_0),w_ 2 N_,o_ (.allocL 3 [(.int .i64 0),(.int .i64 0),(.str []),(.sl .nil []),(.int .i64 0)])]
(h_ [w_ 4 N_]
(.seq (.block 0
(.loop t50L0))
(.seq (.draw [0,1,2] [(3,[],[])] [v_ l_4,o_ (.loadN 5 l_1),w_ 2 r_0,o_ (.store 5 l_3 r_1)])
.ret))))⟩
def a51:Ann:=⟨[0,2,3,4,5,7,8,17,22],[],[],[],[]⟩
def t51L0:aK:=(.seq (.seq (g_ [v_ l_6,v_ l_3,o_ (.len .sl r_1),s_ 8 (.bin .lss r_0 r_2)])
(.cond l_8
.skip
(.exit 0)))
(.seq (.block 1
(g_ [v_ l_5,v_ l_3,v_ l_6,o_ (.indexAddrS 2 r_1 r_2),f_ 0 r_3,d_ r_4,o_ (.lit false [(.int .i64 0)] 1 [(0,r_5)]),o_ (.append false 1 8 3 r_0 r_6),w_ 5 r_7]))
(g_ [v_ l_6,o_ (.bin .add r_0 (i_ 1)),w_ 6 r_1])))
def t51:aO:=⟨1,9,[.loc 1,.loc 2],
(h_ [w_ 1 N_,w_ 2 (i_ 0)]
(h_ [v_ l_0,o_ (.conv .strBytes r_0),c_ 91 [r_1],v_ r_2,o_ (.extract 0 r_3),o_ (.extract 1 r_3),o_ (.extract 2 r_3),w_ 3 r_4,w_ 4 r_5,v_ r_6]
(.seq (.seq (g_ [v_ l_4,s_ 7 (.bin .neq r_0 (i_ 0))])
(.cond l_7
(h_ [v_ l_4,w_ 1 N_,w_ 2 r_0]
.ret)
.skip))
(h_ [w_ 5 N_]
(.seq (.seq (g_ [w_ 6 (i_ 0)])
(.block 0
(.loop t51L0)))
(h_ [v_ l_5,w_ 1 r_0,w_ 2 (i_ 0)]
.ret))))))⟩
def a52:Ann:=⟨[0,2,3,5,13,23,27,39],[],[],[],[]⟩
def t52L0:aK:=(.seq (.seq (g_ [v_ l_2,v_ l_0,o_ (.len .str r_1),s_ 6 (.bin .lss r_0 r_2)])
(.cond l_6
.skip
(.exit 0)))
(.seq (.block 1
(h_ [v_ l_0,v_ l_2,o_ (.indexS r_0 r_1),o_ (.bin .lss r_2 (.cst (.int .u8 48))),v_ r_3,x_ 4 (.mov l_0),x_ 4 (.mov l_2),x_ 4 (.indexS r_5 r_6),x_ 4 (.bin .gtr r_7 (.cst (.int .u8 57))),s_ 7 (.pick r_4 T_ r_8)]
(.cond l_7
(h_ [w_ 1 F_]
.ret)
.skip)))
(g_ [v_ l_2,o_ (.bin .add r_0 (i_ 1)),w_ 2 r_1])))
def t52:aO:=⟨1,8,[.loc 1],
(h_ [w_ 1 F_]
(.seq (.seq (g_ [v_ l_0,s_ 3 (.bin .eql r_0 (.cst (.str [48])))])
(.cond l_3
(h_ [w_ 1 T_]
.ret)
.skip))
(.seq (.seq (g_ [v_ l_0,o_ (.len .str r_0),o_ (.bin .gtr r_1 (i_ 0)),v_ r_2,y_ 3 (.mov l_0),y_ 3 (.indexS r_4 (i_ 0)),y_ 3 (.bin .eql r_5 (.cst (.int .u8 45))),s_ 4 (.pick r_3 r_6 F_)])
(.cond l_4
(g_ [v_ l_0,o_ (.slice .str r_0 (some (i_ 1)) none none),w_ 0 r_1])
.skip))
(.seq (.seq (g_ [v_ l_0,o_ (.len .str r_0),o_ (.bin .eql r_1 (i_ 0)),v_ r_2,x_ 3 (.mov l_0),x_ 3 (.indexS r_4 (i_ 0)),x_ 3 (.bin .eql r_5 (.cst (.int .u8 48))),s_ 5 (.pick r_3 T_ r_6)])
(.cond l_5
(h_ [w_ 1 F_]
.ret)
.skip))
(.seq (.seq (g_ [w_ 2 (i_ 0)])
(.block 0
(.loop t52L0)))
(h_ [w_ 1 T_]
.ret))))))⟩
def a53:Ann:=⟨[0,2],[],[],[],[]⟩
def t53:aO:=⟨1,2,[.loc 1],
(h_ [w_ 1 F_]
(h_ [v_ l_0,o_ (.bin .geq r_0 (i_ 0)),v_ r_1,y_ 2 (.mov l_0),y_ 2 (.bin .leq r_3 (i_ 1114111)),o_ (.pick r_2 r_4 F_),v_ r_5,y_ 6 (.mov l_0),y_ 6 (.bin .lss r_7 (i_ 55296)),y_ 6 (.mov r_8),x_ 9 (.mov l_0),x_ 9 (.bin .gtr dN (i_ 57343)),y_ 6 (.pick r_9 T_ eU),o_ (.pick r_6 iI F_),w_ 1 hP]
.ret))⟩
def a54:Ann:=⟨[0,1,2,6,7,8,9,14,15,16,17,18,30],[9,8],[],[],[]⟩
def t54L0:aK:=(.seq (g_ [s_ 11 (.bin .lss dD l_9)])
(.seq (.cond iM
.skip
(.exit 0))
(.seq (.block 1
(h_ [v_ dD,o_ (.indexAddrS 5 l_8 dD),o_ (.loadN 5 r_1),o_ (.allocL 5 [(.int .i64 0),(.int .i64 0),(.str []),(.sl .nil []),(.int .i64 0)]),w_ 4 r_0,o_ (.store 5 r_3 r_2)]
(h_ [v_ l_1,v_ l_4,o_ (.indexAddrS 5 r_0 r_1),o_ (.loadN 5 r_2),o_ (.allocL 6 [(.int .i64 0),(.int .i64 0),(.str []),(.sl .nil []),(.int .i64 0)]),o_ (.store 5 r_4 r_3)]
(h_ [v_ l_2,o_ (.loadN 5 l_5),o_ (.loadN 5 l_6),o_ (.callv r_0 [r_1,r_2]),s_ 12 (.un .not r_3)]
(.cond kE
(h_ [w_ 3 F_]
.ret)
.skip)))))
(g_ [o_ (.bin .add dD (i_ 1)),w_ 10 r_0]))))
def t54:aO:=⟨3,13,[.loc 3],
(h_ [w_ 3 F_]
(.seq (.seq (g_ [v_ l_0,o_ (.len .sl r_0),v_ l_1,o_ (.len .sl r_2),s_ 7 (.bin .neq r_1 r_3)])
(.cond l_7
(h_ [w_ 3 F_]
.ret)
.skip))
(.seq (.seq (g_ [w_ 8 l_0,s_ 9 (.len .sl r_0),w_ 10 (i_ 0)])
(.block 0
(.loop t54L0)))
(h_ [w_ 3 T_]
.ret))))⟩
def a55:Ann:=⟨[0,1,2,3,4,10,20],[3,2],[],[],[(2,⟨[0,1,3,7,0,16,48,112,255,511],[0,1,2,3,4,5,6,7],[(8,[],[9])]⟩),(4,⟨[0,1,3,7,0,16,48,112,15,511],[0,1,2,3,4,5,6,7],[(8,[5,7],[]),(9,[],[])]⟩)]⟩
def t55L0:aK:=(.seq (.seq (g_ [o_ (.loadN 5 l_2),o_ (.call false false 82 [r_0]),v_ r_1,y_ 2 (.loadN 5 l_3),y_ 2 (.call false false 82 [r_3]),s_ 5 (.pick r_2 r_4 F_)])
(.cond l_5
.skip
(.exit 0)))
(.block 1
(.seq (.seq (.draw [0,1,2,3,4,5,6,7] [(8,[],[9])] [f_ 3 l_2,d_ r_0,o_ (.indexAddrS 5 r_1 (i_ 0)),o_ (.loadN 5 r_2),f_ 3 l_3,d_ r_4,o_ (.indexAddrS 5 r_5 (i_ 0)),o_ (.loadN 5 r_6),o_ (.call false false 55 [r_3,r_7]),s_ 6 (.un .not r_8)])
(.cond l_6
(h_ [w_ 4 F_]
.ret)
.skip))
(.draw [0,1,2,3,4,5,6,7] [(8,[5,7],[]),(9,[],[])] [f_ 3 l_2,d_ r_0,o_ (.indexAddrS 5 r_1 (i_ 1)),o_ (.loadN 5 r_2),f_ 3 l_3,d_ r_4,o_ (.indexAddrS 5 r_5 (i_ 1)),o_ (.loadN 5 r_6),o_ (.store 5 l_2 r_3),o_ (.store 5 l_3 r_7)]))))
def t55:aO:=⟨2,7,[.loc 4],
(h_ [o_ (.boxL 2 l_0),o_ (.boxL 3 l_1),w_ 4 F_]
(.seq (.block 0
(.loop t55L0))
(h_ [f_ 0 l_2,d_ r_0,f_ 0 l_3,d_ r_2,o_ (.bin .eql r_1 r_3),v_ r_4,y_ 5 (.fieldAddr 1 l_2),y_ 5 (.load1 r_6),y_ 5 (.fieldAddr 1 l_3),y_ 5 (.load1 r_8),y_ 5 (.bin .eql r_7 r_9),o_ (.pick r_5 dN F_),v_ eU,y_ 12 (.fieldAddr 2 l_2),y_ 12 (.load1 hP),y_ 12 (.fieldAddr 2 l_3),y_ 12 (.load1 sC),y_ 12 (.bin .eql nG sD),o_ (.pick iI tS F_),v_ wY,y_ 19 (.fieldAddr 3 l_2),y_ 19 (.load1 aCd),y_ 19 (.fieldAddr 3 l_3),y_ 19 (.load1 aC4),y_ 19 (.call false false 54 [aCe,aHb,(.fn 55)]),o_ (.pick yV aKn F_),w_ 4 aOc]
.ret)))⟩
def a56:Ann:=⟨[0,1,2,3,4],[3,2],[],[],[]⟩
def t56:aO:=⟨2,5,[.loc 4],
(h_ [o_ (.boxL 2 l_0),o_ (.boxL 3 l_1),w_ 4 F_]
(h_ [f_ 0 l_2,d_ r_0,f_ 0 l_3,d_ r_2,o_ (.bin .eql r_1 r_3),v_ r_4,y_ 5 (.fieldAddr 1 l_2),y_ 5 (.load1 r_6),y_ 5 (.fieldAddr 1 l_3),y_ 5 (.load1 r_8),y_ 5 (.bin .eql r_7 r_9),o_ (.pick r_5 dN F_),v_ eU,y_ 12 (.fieldAddr 3 l_2),y_ 12 (.load1 hP),y_ 12 (.fieldAddr 3 l_3),y_ 12 (.load1 sC),y_ 12 (.eqB false .bool nG sD),o_ (.pick iI tS F_),v_ wY,y_ 19 (.fieldAddr 2 l_2),y_ 19 (.load1 aCd),y_ 19 (.fieldAddr 2 l_3),y_ 19 (.load1 aC4),y_ 19 (.call true false 92 [aCe,aHb]),o_ (.pick yV aKn F_),v_ aOc,y_ 26 (.fieldAddr 4 l_2),y_ 26 (.load1 bBt),y_ 26 (.fieldAddr 4 l_3),y_ 26 (.load1 bBv),y_ 26 (.call false false 93 [bBu,bGe,(.fn 56)]),o_ (.pick bBs bGf F_),w_ 4 bGg]
.ret))⟩
def a57:Ann:=⟨[0,1,2,3,4,5,6,7,8,9,10,55,59,71,76,90],[8,6,3,2],[],[],[(8,⟨[0,0,3,7,0,0,48,112,255,511],[0,1,2,3,4,5,6,7],[(8,[],[9])]⟩),(13,⟨[0,1,0,7,15,0,32,0,224,480,1023,2047],[0,1,2,3,4,5,6,7,8,9],[(10,[],[11])]⟩)]⟩
def t57L0:aK:=(.seq (.seq (g_ [v_ dD,f_ 3 l_6,d_ r_1,o_ (.len .sl r_2),s_ 14 (.bin .lss r_0 r_3)])
(.cond lZ
.skip
(.exit 2)))
(.seq (.block 3
(.seq (.draw [0,1,2,3,4,5,6,7,8,9] [(10,[],[11])] [f_ 3 l_6,d_ r_0,v_ dD,o_ (.indexAddrS 5 r_1 r_2),o_ (.loadN 5 r_3),f_ 3 l_8,d_ r_5,v_ dD,o_ (.indexAddrS 5 r_6 r_7),o_ (.loadN 5 r_8),c_ 57 [r_4,r_9],s_ 15 (.un .not dN)])
(.cond wZ
(h_ [w_ 4 F_]
.ret)
.skip)))
(g_ [v_ dD,o_ (.bin .add r_0 (i_ 1)),w_ 10 r_1])))
def t57L1:aK:=(.seq (.seq (g_ [v_ l_9,v_ l_5,o_ (.len .sl r_1),s_ 12 (.bin .lss r_0 r_2)])
(.cond kE
.skip
(.exit 0)))
(.seq (.block 1
(.seq (.draw [0,1,2,3,4,5,6,7] [(8,[],[9])] [v_ l_5,v_ l_9,o_ (.indexAddrS 5 r_0 r_1),o_ (.loadN 5 r_2),v_ l_7,v_ l_9,o_ (.indexAddrS 5 r_4 r_5),o_ (.loadN 5 r_6),c_ 57 [r_3,r_7],s_ 13 (.un .not r_8)])
(.cond jC
(h_ [w_ 4 F_]
.ret)
.skip)))
(g_ [v_ l_9,o_ (.bin .add r_0 (i_ 1)),w_ 9 r_1])))
def t57:aO:=⟨2,16,[.loc 4],
(h_ [o_ (.boxL 2 l_0),o_ (.boxL 3 l_1),w_ 4 F_]
(h_ [o_ (.loadN 5 l_2),c_ 50 [r_0],v_ r_1,o_ (.extract 0 r_2),o_ (.extract 1 r_2),o_ (.allocL 6 [(.int .i64 0),(.int .i64 0),(.str []),(.sl .nil []),(.int .i64 0)]),w_ 5 r_3,o_ (.store 5 r_5 r_4)]
(h_ [o_ (.loadN 5 l_3),c_ 50 [r_0],v_ r_1,o_ (.extract 0 r_2),o_ (.extract 1 r_2),o_ (.allocL 8 [(.int .i64 0),(.int .i64 0),(.str []),(.sl .nil []),(.int .i64 0)]),w_ 7 r_3,o_ (.store 5 r_5 r_4)]
(.seq (.seq (g_ [v_ l_5,o_ (.len .sl r_0),v_ l_7,o_ (.len .sl r_2),o_ (.bin .neq r_1 r_3),v_ r_4,x_ 5 (.fieldAddr 0 l_6),x_ 5 (.load1 r_6),x_ 5 (.fieldAddr 0 l_8),x_ 5 (.load1 r_8),x_ 5 (.bin .neq r_7 r_9),o_ (.pick r_5 T_ dN),v_ eU,x_ 12 (.fieldAddr 1 l_6),x_ 12 (.load1 hP),x_ 12 (.fieldAddr 1 l_8),x_ 12 (.load1 sC),x_ 12 (.bin .neq nG sD),o_ (.pick iI T_ tS),v_ wY,x_ 19 (.fieldAddr 2 l_6),x_ 19 (.load1 aCd),x_ 19 (.fieldAddr 2 l_8),x_ 19 (.load1 aC4),x_ 19 (.bin .neq aCe aHb),o_ (.pick yV T_ aKn),v_ aOc,x_ 26 (.fieldAddr 3 l_6),x_ 26 (.load1 bBt),x_ 26 (.len .sl bBu),x_ 26 (.fieldAddr 3 l_8),x_ 26 (.load1 bGe),x_ 26 (.len .sl bGf),x_ 26 (.bin .neq bBv bGg),s_ 11 (.pick bBs T_ bJp)])
(.cond iM
(h_ [w_ 4 F_]
.ret)
.skip))
(.seq (.seq (g_ [w_ 9 (i_ 0)])
(.block 0
(.loop t57L1)))
(.seq (.seq (g_ [w_ 10 (i_ 0)])
(.block 2
(.loop t57L0)))
(h_ [w_ 4 T_]
.ret)))))))⟩
def a58:Ann:=⟨[0,1,2,3,4,5,6,43,48,61,66,80],[3,2],[],[],[(6,⟨[0,1,0,7,15,0,32,0,224,480,1023],[0,1,2,3,4,5,6,7,8,9,10],[]⟩),(11,⟨[0,1,0,7,15,0,32,0,224,480,1023,2047],[0,1,2,3,4,5,6,7,8,9],[(10,[],[11])]⟩)]⟩
def t58L0:aK:=(.seq (.seq (g_ [v_ l_6,f_ 4 l_2,d_ r_1,o_ (.len .sl r_2),s_ 10 (.bin .lss r_0 r_3)])
(.cond dD
.skip
(.exit 2)))
(.seq (.block 3
(.seq (.draw [0,1,2,3,4,5,6,7,8,9] [(10,[],[11])] [f_ 4 l_2,d_ r_0,v_ l_6,o_ (.indexAddrS 5 r_1 r_2),o_ (.loadN 5 r_3),f_ 4 l_3,d_ r_5,v_ l_6,o_ (.indexAddrS 5 r_6 r_7),o_ (.loadN 5 r_8),o_ (.call false false 58 [r_4,r_9]),s_ 11 (.un .not dN)])
(.cond iM
(h_ [w_ 4 F_]
.ret)
.skip)))
(g_ [v_ l_6,o_ (.bin .add r_0 (i_ 1)),w_ 6 r_1])))
def t58L1:aK:=(.seq (.seq (g_ [v_ l_5,f_ 2 l_2,d_ r_1,o_ (.len .sl r_2),s_ 8 (.bin .lss r_0 r_3)])
(.cond l_8
.skip
(.exit 0)))
(.seq (.block 1
(.seq (.draw [0,1,2,3,4,5,6,7,8,9,10] [] [f_ 2 l_2,d_ r_0,v_ l_5,o_ (.indexAddrS 1 r_1 r_2),d_ r_3,f_ 2 l_3,d_ r_5,v_ l_5,o_ (.indexAddrS 1 r_6 r_7),d_ r_8,s_ 9 (.bin .neq r_4 r_9)])
(.cond l_9
(h_ [w_ 4 F_]
.ret)
.skip)))
(g_ [v_ l_5,o_ (.bin .add r_0 (i_ 1)),w_ 5 r_1])))
def t58:aO:=⟨2,12,[.loc 4],
(h_ [o_ (.boxL 2 l_0),o_ (.boxL 3 l_1),w_ 4 F_]
(.seq (.seq (g_ [f_ 0 l_2,d_ r_0,f_ 0 l_3,d_ r_2,o_ (.bin .neq r_1 r_3),v_ r_4,x_ 5 (.fieldAddr 1 l_2),x_ 5 (.load1 r_6),x_ 5 (.fieldAddr 1 l_3),x_ 5 (.load1 r_8),x_ 5 (.bin .neq r_7 r_9),o_ (.pick r_5 T_ dN),v_ eU,x_ 12 (.fieldAddr 3 l_2),x_ 12 (.load1 hP),x_ 12 (.fieldAddr 3 l_3),x_ 12 (.load1 sC),x_ 12 (.eqB true .bool nG sD),o_ (.pick iI T_ tS),v_ wY,x_ 19 (.fieldAddr 2 l_2),x_ 19 (.load1 aCd),x_ 19 (.len .sl aCe),x_ 19 (.fieldAddr 2 l_3),x_ 19 (.load1 aHb),x_ 19 (.len .sl aKn),x_ 19 (.bin .neq aC4 aOc),o_ (.pick yV T_ bBs),v_ bBt,x_ 28 (.fieldAddr 4 l_2),x_ 28 (.load1 bBv),x_ 28 (.len .sl bGe),x_ 28 (.fieldAddr 4 l_3),x_ 28 (.load1 bGg),x_ 28 (.len .sl bJp),x_ 28 (.bin .neq bGf bK2),s_ 7 (.pick bBu T_ bK3)])
(.cond l_7
(h_ [w_ 4 F_]
.ret)
.skip))
(.seq (.seq (g_ [w_ 5 (i_ 0)])
(.block 0
(.loop t58L1)))
(.seq (.seq (g_ [w_ 6 (i_ 0)])
(.block 2
(.loop t58L0)))
(h_ [w_ 4 T_]
.ret)))))⟩
def a59:Ann:=⟨[0,1,2,4,5,6,8,17],[2],[],[],[]⟩
def t59L0:aK:=(.seq (.seq (g_ [v_ l_5,f_ 3 l_2,d_ r_1,o_ (.len .sl r_2),o_ (.bin .lss r_0 r_3),v_ r_4,y_ 5 (.mov l_4),y_ 5 (.bin .lss r_6 (i_ 5000)),s_ 7 (.pick r_5 r_7 F_)])
(.cond l_7
.skip
(.exit 0)))
(.seq (.block 1
(g_ [v_ l_4,f_ 3 l_2,d_ r_1,v_ l_5,o_ (.indexAddrS 5 r_2 r_3),o_ (.loadN 5 r_4),v_ l_1,o_ (.bin .sub r_6 (i_ 1)),c_ 59 [r_5,r_7],o_ (.bin .add r_0 r_8),w_ 4 r_9]))
(g_ [v_ l_5,o_ (.bin .add r_0 (i_ 1)),w_ 5 r_1])))
def t59:aO:=⟨2,8,[.loc 3],
(h_ [o_ (.boxL 2 l_0),w_ 3 (i_ 0)]
(.seq (.seq (g_ [v_ l_1,s_ 6 (.bin .eql r_0 (i_ 0))])
(.cond l_6
(h_ [w_ 3 (i_ 5000)]
.ret)
.skip))
(h_ [w_ 4 (i_ 1)]
(.seq (.seq (g_ [w_ 5 (i_ 0)])
(.block 0
(.loop t59L0)))
(h_ [v_ l_4,w_ 3 r_0]
.ret)))))⟩
def a60:Ann:=⟨[0,1,2,4,5,6,8,21],[2],[],[],[]⟩
def t60L0:aK:=(.seq (.seq (g_ [v_ l_5,f_ 4 l_2,d_ r_1,o_ (.len .sl r_2),o_ (.bin .lss r_0 r_3),v_ r_4,y_ 5 (.mov l_4),y_ 5 (.bin .lss r_6 (i_ 5000)),s_ 7 (.pick r_5 r_7 F_)])
(.cond l_7
.skip
(.exit 0)))
(.seq (.block 1
(g_ [v_ l_4,f_ 4 l_2,d_ r_1,v_ l_5,o_ (.indexAddrS 5 r_2 r_3),o_ (.loadN 5 r_4),v_ l_1,o_ (.bin .sub r_6 (i_ 1)),c_ 60 [r_5,r_7],o_ (.bin .add r_0 r_8),w_ 4 r_9]))
(g_ [v_ l_5,o_ (.bin .add r_0 (i_ 1)),w_ 5 r_1])))
def t60:aO:=⟨2,8,[.loc 3],
(h_ [o_ (.boxL 2 l_0),w_ 3 (i_ 0)]
(.seq (.seq (g_ [v_ l_1,s_ 6 (.bin .eql r_0 (i_ 0))])
(.cond l_6
(h_ [w_ 3 (i_ 5000)]
.ret)
.skip))
(h_ [f_ 2 l_2,d_ r_0,o_ (.len .sl r_1),o_ (.bin .add (i_ 1) r_2),w_ 4 r_3]
(.seq (.seq (g_ [w_ 5 (i_ 0)])
(.block 0
(.loop t60L0)))
(h_ [v_ l_4,w_ 3 r_0]
.ret)))))⟩
def a61:Ann:=⟨[0,1],[1,0],[],[],[(2,⟨[0,0,0,6,14,30,63,127],[0,1],[(2,[1],[3,4,5,6]),(7,[],[])]⟩)]⟩
def t61:aO:=⟨0,2,[.cell 0 5 true],
(h_ [o_ (.allocL 0 [(.int .i64 0),(.int .i64 0),(.sl .nil []),(.bool false),(.sl .nil [])])]
(h_ [c_ 28 [(i_ 0)],o_ (.lit false [(.int .i64 0),(.int .i64 0),(.sl .nil []),(.bool false),(.sl .nil [])] 1 [(0,r_0)]),o_ (.build [(.int .i64 0),(.int .i64 0),(.sl .nil []),(.bool false),(.sl .nil [])] [(0,1,(i_ 4)),(4,1,r_1)]),o_ (.allocL 1 [(.int .i64 0),(.int .i64 0),(.sl .nil []),(.bool false),(.sl .nil [])]),o_ (.store 5 r_3 r_2)]
(.seq (.draw [0,1] [(2,[1],[3,4,5,6]),(7,[],[])] [o_ (.lit false [(.int .i64 0)] 1 [(0,(i_ 0))]),o_ (.loadN 5 l_1),c_ 26 [(i_ 0)],o_ (.lit false [(.int .i64 0),(.int .i64 0),(.sl .nil []),(.bool false),(.sl .nil [])] 2 [(0,r_1),(1,r_2)]),o_ (.build [(.int .i64 0),(.int .i64 0),(.sl .nil []),(.bool false),(.sl .nil [])] [(0,1,(i_ 10)),(4,1,r_3)]),o_ (.lit false [(.int .i64 0),(.int .i64 0),(.sl .nil []),(.bool false),(.sl .nil [])] 1 [(0,r_4)]),o_ (.build [(.int .i64 0),(.int .i64 0),(.sl .nil []),(.bool false),(.sl .nil [])] [(0,1,(i_ 7)),(2,1,r_0),(4,1,r_5)]),o_ (.store 5 l_0 r_6)])
.ret)))⟩
def a62:Ann:=⟨[0,2,8,14,24],[],[],[],[]⟩
def t62:aO:=⟨1,5,[.loc 1],
(h_ [s_ 1 (.mov (.cst (.str [])))]
(.seq (.seq (g_ [v_ l_0,o_ (.bin .lss r_0 (i_ 0)),v_ r_1,y_ 2 (.mov l_0),y_ 2 (.bin .gtr r_3 (i_ (-10))),s_ 2 (.pick r_2 r_4 F_)])
(.cond l_2
(h_ [v_ l_0,o_ (.un .neg r_0),c_ 62 [r_1],o_ (.bin .add (.cst (.str [45])) r_2),w_ 1 r_3]
.ret)
.skip))
(.seq (.seq (g_ [v_ l_0,s_ 3 (.bin .lss r_0 (i_ 0))])
(.cond l_3
(h_ [v_ l_0,o_ (.bin .quo r_0 (i_ 10)),c_ 62 [r_1],v_ l_0,o_ (.bin .rem r_3 (i_ 10)),o_ (.un .neg r_4),c_ 62 [r_5],o_ (.bin .add r_2 r_6),w_ 1 r_7]
.ret)
.skip))
(.seq (.seq (g_ [v_ l_0,s_ 4 (.bin .lss r_0 (i_ 10))])
(.cond l_4
(h_ [v_ l_0,o_ (.bin .add (i_ 48) r_0),o_ (.conv (.toInt .u8) r_1),o_ (.lit false [(.int .u8 0)] 1 [(0,r_2)]),o_ (.conv .bytesStr r_3),w_ 1 r_4]
.ret)
.skip))
(h_ [v_ l_0,o_ (.bin .quo r_0 (i_ 10)),c_ 62 [r_1],v_ l_0,o_ (.bin .rem r_3 (i_ 10)),c_ 62 [r_4],o_ (.bin .add r_2 r_5),w_ 1 r_6]
.ret)))))⟩
def a63:Ann:=⟨[0,1,2,4,7],[2],[],[],[]⟩
def t63:aO:=⟨2,5,[.loc 3],
(h_ [o_ (.boxL 2 l_0),s_ 3 (.mov (.cst (.str [])))]
(.seq (.seq (g_ [o_ (.loadN 5 l_2),c_ 18 [r_0],s_ 4 (.un .not r_1)])
(.cond l_4
(h_ [s_ 3 (.mov (.cst (.str [])))]
.ret)
.skip))
(h_ [o_ (.loadN 5 l_2),v_ l_1,c_ 94 [r_0,r_1],w_ 3 r_2]
.ret)))⟩
def a64:Ann:=⟨[0,1,2,3,4,5,6,7,8,34,37,44,51,58,63,67,83,103,132,139],[1],[],[],[]⟩
def t64L0:aK:=(.seq (.seq (g_ [v_ l_8,v_ l_6,s_ 19 (.bin .lss r_0 r_1)])
(.cond aCg
.skip
(.exit 2)))
(.seq (.block 3
(g_ [v_ l_7,o_ (.bin .add r_0 (.cst (.str [32]))),f_ 4 l_1,d_ r_2,v_ l_8,o_ (.indexAddrS 5 r_3 r_4),o_ (.loadN 5 r_5),c_ 64 [r_6],o_ (.bin .add r_1 r_7),w_ 7 r_8]))
(g_ [v_ l_8,o_ (.bin .add r_0 (i_ 1)),w_ 8 r_1])))
def t64L1:aK:=(.seq (.seq (g_ [v_ l_5,f_ 2 l_1,d_ r_1,o_ (.len .sl r_2),s_ 14 (.bin .lss r_0 r_3)])
(.cond lZ
.skip
(.exit 0)))
(.seq (.block 1
(.seq (.seq (g_ [v_ l_5,s_ 15 (.bin .gtr r_0 (i_ 0))])
(.cond wZ
(g_ [v_ l_4,o_ (.bin .add r_0 (.cst (.str [32]))),w_ 4 r_1])
.skip))
(.seq (.seq (g_ [f_ 3 l_1,d_ r_0,v_ r_1,y_ 2 (.mov l_5),y_ 2 (.fieldAddr 2 l_1),y_ 2 (.load1 r_4),y_ 2 (.len .sl r_5),y_ 2 (.bin .sub r_6 (i_ 1)),y_ 2 (.bin .eql r_3 r_7),o_ (.pick r_2 r_8 F_),v_ r_9,y_ 10 (.mov l_5),y_ 10 (.bin .gtr eU (i_ 0)),s_ 16 (.pick dN iI F_)])
(.cond vQ
(g_ [v_ l_4,o_ (.bin .add r_0 (.cst (.str [46,32]))),w_ 4 r_1])
.skip))
(g_ [v_ l_4,o_ (.bin .add r_0 (.cst (.str [118]))),f_ 2 l_1,d_ r_2,v_ l_5,o_ (.indexAddrS 1 r_3 r_4),d_ r_5,c_ 62 [r_6],o_ (.bin .add r_1 r_7),w_ 4 r_8]))))
(g_ [v_ l_5,o_ (.bin .add r_0 (i_ 1)),w_ 5 r_1])))
def t64:aO:=⟨1,20,[.loc 2],
(h_ [o_ (.boxL 1 l_0),s_ 2 (.mov (.cst (.str [])))]
(h_ [o_ (.loadN 5 l_1),c_ 95 [r_0],w_ 3 r_1]
(.seq (.seq (g_ [v_ l_3,o_ (.bin .lss r_0 (i_ 0)),v_ r_1,x_ 2 (.fieldAddr 4 l_1),x_ 2 (.load1 r_3),x_ 2 (.len .sl r_4),x_ 2 (.mov l_3),x_ 2 (.bin .lss r_5 r_6),o_ (.pick r_2 T_ r_7),v_ r_8,x_ 9 (.fieldAddr 0 l_1),x_ 9 (.load1 dN),x_ 9 (.bin .eql eU (i_ 7)),x_ 9 (.mov iI),y_ 13 (.fieldAddr 3 l_1),y_ 13 (.load1 nG),x_ 9 (.pick hP sC F_),x_ 9 (.mov sD),y_ 17 (.fieldAddr 2 l_1),y_ 17 (.load1 wY),y_ 17 (.len .sl yV),y_ 17 (.bin .eql aCd (i_ 0)),x_ 9 (.pick tS aCe F_),s_ 9 (.pick r_9 T_ aC4)])
(.cond l_9
(h_ [s_ 2 (.mov (.cst (.str [63])))]
.ret)
.skip))
(.seq (.seq (g_ [f_ 0 l_1,d_ r_0,s_ 10 (.bin .eql r_1 (i_ 1))])
(.cond dD
(h_ [f_ 1 l_1,d_ r_0,c_ 62 [r_1],o_ (.bin .add (.cst (.str [99])) r_2),w_ 2 r_3]
.ret)
.skip))
(.seq (.seq (g_ [f_ 0 l_1,d_ r_0,s_ 11 (.bin .eql r_1 (i_ 2))])
(.cond iM
(h_ [f_ 1 l_1,d_ r_0,c_ 62 [r_1],o_ (.bin .add (.cst (.str [118])) r_2),w_ 2 r_3]
.ret)
.skip))
(.seq (.seq (g_ [f_ 0 l_1,d_ r_0,s_ 12 (.bin .eql r_1 (i_ 3))])
(.cond kE
(h_ [f_ 1 l_1,d_ r_0,c_ 62 [r_1],o_ (.bin .add (.cst (.str [103])) r_2),w_ 2 r_3]
.ret)
.skip))
(.seq (.seq (g_ [f_ 0 l_1,d_ r_0,s_ 13 (.bin .eql r_1 (i_ 7))])
(.cond jC
(h_ [s_ 4 (.mov (.cst (.str [])))]
(.seq (.seq (g_ [w_ 5 (i_ 0)])
(.block 0
(.loop t64L1)))
(.seq (.seq (g_ [f_ 3 l_1,d_ r_0,o_ (.un .not r_1),v_ r_2,x_ 3 (.fieldAddr 2 l_1),x_ 3 (.load1 r_4),x_ 3 (.len .sl r_5),x_ 3 (.bin .gtr r_6 (i_ 1)),s_ 17 (.pick r_3 T_ r_7)])
(.cond yW
(g_ [v_ l_4,o_ (.bin .add (.cst (.str [40])) r_0),o_ (.bin .add r_1 (.cst (.str [41]))),w_ 4 r_2])
.skip))
(h_ [v_ l_4,o_ (.bin .add (.cst (.str [40,108,97,109,98,100,97,32])) r_0),o_ (.bin .add r_1 (.cst (.str [32]))),f_ 4 l_1,d_ r_3,o_ (.indexAddrS 5 r_4 (i_ 0)),o_ (.loadN 5 r_5),c_ 64 [r_6],o_ (.bin .add r_2 r_7),o_ (.bin .add r_8 (.cst (.str [41]))),w_ 2 r_9]
.ret))))
.skip))
(h_ [f_ 4 l_1,d_ r_0,o_ (.len .sl r_1),w_ 6 r_2]
(.seq (.seq (g_ [f_ 0 l_1,d_ r_0,o_ (.bin .neq r_1 (i_ 8)),v_ r_2,y_ 3 (.fieldAddr 0 l_1),y_ 3 (.load1 r_4),y_ 3 (.bin .neq r_5 (i_ 10)),o_ (.pick r_3 r_6 F_),v_ r_7,y_ 8 (.fieldAddr 0 l_1),y_ 8 (.load1 r_9),y_ 8 (.bin .neq dN (i_ 9)),s_ 18 (.pick r_8 eU F_)])
(.cond aCf
(g_ [v_ l_3,w_ 6 r_0])
.skip))
(h_ [o_ (.loadN 5 l_1),c_ 96 [r_0],o_ (.bin .add (.cst (.str [40])) r_1),w_ 7 r_2]
(.seq (.seq (g_ [w_ 8 (i_ 0)])
(.block 2
(.loop t64L0)))
(h_ [v_ l_7,o_ (.bin .add r_0 (.cst (.str [41]))),w_ 2 r_1]
.ret))))))))))))⟩
def a65:Ann:=⟨[0,1,2],[1],[],[],[]⟩
def t65:aO:=⟨1,3,[.loc 2],
(h_ [o_ (.boxL 1 l_0),w_ 2 F_]
(h_ [f_ 0 l_1,d_ r_0,o_ (.bin .geq r_1 (i_ 12)),v_ r_2,y_ 3 (.fieldAddr 0 l_1),y_ 3 (.load1 r_4),y_ 3 (.bin .leq r_5 (i_ 14)),o_ (.pick r_3 r_6 F_),v_ r_7,x_ 8 (.fieldAddr 4 l_1),x_ 8 (.load1 r_9),x_ 8 (.call false false 97 [dN,(.fn 65)]),o_ (.pick r_8 T_ eU),w_ 2 iI]
.ret))⟩
def a66:Ann:=⟨[0,1,3,4,5,12,25],[4,3],[],[],[(6,⟨[0,1,3,0,0,16,48,112,255,511,1023,2047],[0,1,3,4,5,6,7],[(2,[5,7],[]),(8,[],[9,10]),(11,[],[])]⟩)]⟩
def t66:aO:=⟨2,7,[.cell 3 5 true],
(h_ [o_ (.boxL 2 l_1),o_ (.allocL 3 [(.int .i64 0),(.int .i64 0),(.sl .nil []),(.bool false),(.sl .nil [])])]
(.seq (.block 0
(h_ [f_ 0 l_2,d_ r_0,o_ (.bin .eql r_1 (i_ 7)),w_ 4 r_2]
(.cond l_4
(h_ [v_ l_0,o_ (.loadN 5 l_2),o_ (.call false false 98 [r_0,r_1]),o_ (.store 5 l_3 r_2)]
.ret)
(h_ [f_ 0 l_2,d_ r_0,o_ (.bin .eql r_1 (i_ 2)),v_ r_2,y_ 3 (.mov l_0),y_ 3 (.fieldAddr 1 l_2),y_ 3 (.load1 r_5),y_ 3 (.call false false 99 [r_4,r_6]),o_ (.pick r_3 r_7 F_),w_ 5 r_8]
(.cond l_5
(h_ [o_ (.loadN 5 l_2),o_ (.lit false [(.int .i64 0),(.int .i64 0),(.sl .nil []),(.bool false),(.sl .nil [])] 1 [(0,r_0)]),o_ (.build [(.int .i64 0),(.int .i64 0),(.sl .nil []),(.bool false),(.sl .nil [])] [(0,1,(i_ 13)),(4,1,r_1)]),o_ (.store 5 l_3 r_2)]
.ret)
(h_ [f_ 0 l_2,d_ r_0,o_ (.bin .eql r_1 (i_ 4)),w_ 6 r_2]
(.cond l_6
(.seq (.draw [0,1,3,4,5,6,7] [(2,[5,7],[]),(8,[],[9,10]),(11,[],[])] [f_ 1 l_2,d_ r_0,c_ 100 [r_1],v_ l_0,f_ 4 l_2,d_ r_4,o_ (.indexAddrS 5 r_5 (i_ 0)),o_ (.loadN 5 r_6),o_ (.call false false 66 [r_3,r_7]),o_ (.lit false [(.int .i64 0),(.int .i64 0),(.sl .nil []),(.bool false),(.sl .nil [])] 2 [(0,r_2),(1,r_8)]),o_ (.build [(.int .i64 0),(.int .i64 0),(.sl .nil []),(.bool false),(.sl .nil [])] [(0,1,(i_ 14)),(4,1,r_9)]),o_ (.store 5 l_3 dN)])
.ret)
.skip)))))))
(h_ [f_ 4 l_2,d_ r_0,v_ l_0,o_ (.mkFn 66 [r_2] []),o_ (.call false false 101 [r_1,r_3]),f_ 4 l_2,o_ (.store 1 r_5 r_4)]
(h_ [o_ (.loadN 5 l_2),o_ (.store 5 l_3 r_0)]
.ret))))⟩
def a67:Ann:=⟨[0,2,4],[],[(3,2)],[],[]⟩
def t67:aO:=⟨1,3,[.loc 1],
(h_ [w_ 1 N_]
(.seq (.seq (g_ [v_ l_0,s_ 2 (.eqB false .sl r_0 N_)])
(.cond l_2
(h_ [w_ 1 N_]
.ret)
.skip))
(h_ [o_ (.lit false [(.int .i64 0),(.int .i64 0),(.str []),(.sl .nil []),(.int .i64 0)] 0 []),v_ l_0,o_ (.append true 5 64 39 r_0 r_1),w_ 1 r_2]
.ret)))⟩
def a68:Ann:=⟨[0,1,2,3,4,17,22,40],[1],[],[],[]⟩
def t68L0:aK:=(.seq (.seq (g_ [v_ l_3,f_ 7 l_1,d_ r_1,o_ (.len .sl r_2),s_ 6 (.bin .lss r_0 r_3)])
(.cond l_6
.skip
(.exit 0)))
(.seq (.block 1
(h_ [f_ 7 l_1,d_ r_0,v_ l_3,o_ (.indexAddrS 5 r_1 r_2),o_ (.loadN 5 r_3),c_ 18 [r_4],o_ (.un .not r_5),v_ r_6,x_ 7 (.fieldAddr 7 l_1),x_ 7 (.load1 r_8),x_ 7 (.mov l_3),x_ 7 (.indexAddrS 5 r_9 dN),x_ 7 (.loadN 5 eU),x_ 7 (.call true false 102 [iI]),x_ 7 (.un .not hP),s_ 7 (.pick r_7 T_ nG)]
(.cond l_7
(h_ [w_ 2 (i_ 2)]
.ret)
.skip)))
(g_ [v_ l_3,o_ (.bin .add r_0 (i_ 1)),w_ 3 r_1])))
def t68:aO:=⟨1,8,[.loc 2],
(h_ [o_ (.boxL 1 l_0),w_ 2 (i_ 0)]
(.seq (.seq (g_ [f_ 5 l_1,d_ r_0,o_ (.bin .lss r_1 (i_ 0)),v_ r_2,x_ 3 (.fieldAddr 5 l_1),x_ 3 (.load1 r_4),x_ 3 (.bin .gtr r_5 (i_ 20000)),o_ (.pick r_3 T_ r_6),v_ r_7,x_ 8 (.fieldAddr 6 l_1),x_ 8 (.load1 r_9),x_ 8 (.bin .lss dN (i_ 0)),s_ 5 (.pick r_8 T_ eU)])
(.cond l_5
(h_ [w_ 2 (i_ 2)]
.ret)
.skip))
(.seq (.seq (g_ [w_ 3 (i_ 0)])
(.block 0
(.loop t68L0)))
(h_ [o_ (.loadN 8 l_1),o_ (.build [(.int .i64 0),(.int .i64 0),(.sl .nil []),(.bool false),(.sl .nil []),(.int .i64 0),(.int .i64 0),(.sl .nil []),(.sl .nil []),(.sl .nil [])] [(0,8,r_0)]),o_ (.boxH 121 r_1),w_ 4 r_2]
(h_ [v_ l_4,f_ 0 l_1,o_ (.loadN 5 r_1),o_ (.call false false 103 [r_0,r_2,N_,(i_ 0)]),w_ 2 r_3]
.ret)))))⟩
def a69:Ann:=⟨[0,1,2,3,16,21,29],[1],[],[],[]⟩
def t69L0:aK:=(.seq (.seq (g_ [v_ l_3,f_ 4 l_1,d_ r_1,o_ (.len .sl r_2),s_ 5 (.bin .lss r_0 r_3)])
(.cond l_5
.skip
(.exit 0)))
(.seq (.block 1
(h_ [f_ 4 l_1,d_ r_0,v_ l_3,o_ (.indexAddrS 5 r_1 r_2),o_ (.loadN 5 r_3),s_ 6 (.call true false 69 [r_4])]
(.cond l_6
(h_ [w_ 2 T_]
.ret)
.skip)))
(g_ [v_ l_3,o_ (.bin .add r_0 (i_ 1)),w_ 3 r_1])))
def t69:aO:=⟨1,7,[.loc 2],
(h_ [o_ (.boxL 1 l_0),w_ 2 F_]
(.seq (.seq (g_ [f_ 0 l_1,d_ r_0,o_ (.bin .eql r_1 (i_ 12)),v_ r_2,x_ 3 (.fieldAddr 0 l_1),x_ 3 (.load1 r_4),x_ 3 (.bin .eql r_5 (i_ 13)),o_ (.pick r_3 T_ r_6),v_ r_7,x_ 8 (.fieldAddr 0 l_1),x_ 8 (.load1 r_9),x_ 8 (.bin .eql dN (i_ 14)),s_ 4 (.pick r_8 T_ eU)])
(.cond l_4
(h_ [w_ 2 T_]
.ret)
.skip))
(.seq (.seq (g_ [w_ 3 (i_ 0)])
(.block 0
(.loop t69L0)))
(h_ [w_ 2 F_]
.ret))))⟩
def a70:Ann:=⟨[0,1,2,5,6,7,8,13,22,35],[5],[],[],[]⟩
def t70L0:aK:=(.seq (.seq (g_ [v_ l_6,f_ 4 l_3,d_ r_1,o_ (.len .sl r_2),s_ 9 (.bin .lss r_0 r_3)])
(.cond l_9
.skip
(.exit 2)))
(.seq (.block 3
(g_ [v_ l_0,v_ l_1,f_ 4 l_3,d_ r_2,v_ l_6,o_ (.indexAddrS 5 r_3 r_4),o_ (.loadN 5 r_5),o_ (.call false false 70 [r_0,r_1,r_6]),w_ 0 r_7]))
(g_ [v_ l_6,o_ (.bin .add r_0 (i_ 1)),w_ 6 r_1])))
def t70L1:aK:=(.seq (.seq (g_ [v_ l_5,f_ 2 l_3,d_ r_1,o_ (.len .sl r_2),s_ 7 (.bin .lss r_0 r_3)])
(.cond l_7
.skip
(.exit 0)))
(.seq (.block 1
(h_ [v_ l_1,f_ 2 l_3,d_ r_1,v_ l_5,o_ (.indexAddrS 1 r_2 r_3),d_ r_4,s_ 8 (.call true false 104 [r_0,r_5])]
(.cond l_8
(g_ [v_ l_0,f_ 2 l_3,d_ r_1,v_ l_5,o_ (.indexAddrS 1 r_2 r_3),d_ r_4,o_ (.lit false [(.int .i64 0)] 1 [(0,r_5)]),o_ (.append false 1 8 3 r_0 r_6),w_ 0 r_7])
.skip)))
(g_ [v_ l_5,o_ (.bin .add r_0 (i_ 1)),w_ 5 r_1])))
def t70:aO:=⟨3,10,[.loc 4],
(h_ [o_ (.boxL 3 l_2),w_ 4 N_]
(.seq (.seq (g_ [w_ 5 (i_ 0)])
(.block 0
(.loop t70L1)))
(.seq (.seq (g_ [w_ 6 (i_ 0)])
(.block 2
(.loop t70L0)))
(h_ [v_ l_0,w_ 4 r_0]
.ret))))⟩
def a71:Ann:=⟨[0,1,2],[1],[],[],[]⟩
def t71:aO:=⟨1,3,[.loc 2],
(h_ [o_ (.boxL 1 l_0),w_ 2 N_]
(h_ [o_ (.loadN 5 l_1),c_ 105 [N_,r_0],w_ 2 r_1]
.ret))⟩
def a72:Ann:=⟨[0,1,2,3,6,7,8,9,10,11,12,13,14,15,16,21,45,53,72,78,89,127],[15,10,9,6,3],[],[],[(10,⟨[0,1,3,0,8,24,63,127,255],[0,1,3,4,5],[(2,[5],[6,7]),(8,[],[])]⟩),(21,⟨[0,1,0,4,0,28,60,124,255,511,1023],[0,1,2,3,4,5,6,7],[(8,[],[9]),(10,[],[])]⟩)]⟩
def t72L0:aK:=(.seq (.seq (g_ [v_ iM,f_ 2 l_3,d_ r_1,o_ (.len .sl r_2),s_ 19 (.bin .lss r_0 r_3)])
(.cond aCg
.skip
(.exit 2)))
(.seq (.block 3
(h_ [v_ l_1,f_ 2 l_3,d_ r_1,v_ iM,o_ (.indexAddrS 1 r_2 r_3),d_ r_4,c_ 106 [r_0,r_5],w_ 12 r_6]
(.seq (.seq (g_ [v_ kE,s_ 20 (.bin .lss r_0 (i_ 0))])
(.cond bBw
(.seq (.draw [0,1,2,3,4,5,6,7] [(8,[],[9]),(10,[],[])] [f_ 2 l_8,d_ r_0,f_ 2 l_3,d_ r_2,v_ iM,o_ (.indexAddrS 1 r_3 r_4),d_ r_5,o_ (.lit false [(.int .i64 0)] 1 [(0,r_6)]),o_ (.append false 1 8 3 r_1 r_7),f_ 2 l_8,o_ (.store 1 r_9 r_8)])
(.exit 3))
.skip))
(h_ [f_ 2 l_8,d_ r_0,v_ l_2,v_ kE,o_ (.bin .add r_2 r_3),o_ (.lit false [(.int .i64 0)] 1 [(0,r_4)]),o_ (.append false 1 8 3 r_1 r_5),f_ 2 l_8,o_ (.store 1 r_7 r_6)]
(h_ [v_ l_9,f_ 2 l_3,d_ r_1,v_ iM,o_ (.indexAddrS 1 r_2 r_3),d_ r_4,o_ (.lit false [(.int .i64 0)] 1 [(0,r_5)]),o_ (.append false 1 8 3 r_0 r_6),w_ 9 r_7]
(g_ [v_ dD,v_ l_2,v_ kE,o_ (.bin .add r_1 r_2),c_ 107 [r_3],o_ (.lit false [(.int .i64 0),(.int .i64 0),(.sl .nil []),(.bool false),(.sl .nil [])] 1 [(0,r_4)]),o_ (.build [(.int .i64 0),(.int .i64 0),(.sl .nil []),(.bool false),(.sl .nil [])] [(0,1,(i_ 12)),(4,1,r_5)]),o_ (.lit false [(.int .i64 0),(.int .i64 0),(.sl .nil []),(.bool false),(.sl .nil [])] 1 [(0,r_6)]),o_ (.append false 5 72 25 r_0 r_7),w_ 10 r_8]))))))
(g_ [v_ iM,o_ (.bin .add r_0 (i_ 1)),w_ 11 r_1])))
def t72L1:aK:=(.seq (.seq (g_ [v_ l_6,f_ 4 l_3,d_ r_1,o_ (.len .sl r_2),s_ 15 (.bin .lss r_0 r_3)])
(.cond wZ
.skip
(.exit 0)))
(.seq (.block 1
(h_ [f_ 4 l_3,d_ r_0,v_ l_6,o_ (.indexAddrS 5 r_1 r_2),o_ (.loadN 5 r_3),v_ l_1,v_ l_2,c_ 72 [r_4,r_5,r_6],o_ (.allocL 7 [(.int .i64 0),(.int .i64 0),(.sl .nil []),(.bool false),(.sl .nil [])]),o_ (.store 5 r_8 r_7)]
(g_ [v_ l_5,o_ (.loadN 5 l_7),o_ (.lit false [(.int .i64 0),(.int .i64 0),(.sl .nil []),(.bool false),(.sl .nil [])] 1 [(0,r_1)]),o_ (.append false 5 72 25 r_0 r_2),w_ 5 r_3])))
(g_ [v_ l_6,o_ (.bin .add r_0 (i_ 1)),w_ 6 r_1])))
def t72:aO:=⟨3,22,[.cell 4 5 true],
(h_ [o_ (.boxL 3 l_0),o_ (.allocL 4 [(.int .i64 0),(.int .i64 0),(.sl .nil []),(.bool false),(.sl .nil [])])]
(h_ [w_ 5 N_]
(.seq (.seq (g_ [w_ 6 (i_ 0)])
(.block 0
(.loop t72L1)))
(.seq (.seq (g_ [f_ 0 l_3,d_ r_0,o_ (.bin .eql r_1 (i_ 2)),v_ r_2,y_ 3 (.mov l_1),y_ 3 (.fieldAddr 1 l_3),y_ 3 (.load1 r_5),y_ 3 (.call true false 106 [r_4,r_6]),y_ 3 (.bin .geq r_7 (i_ 0)),s_ 16 (.pick r_3 r_8 F_)])
(.cond vQ
(h_ [f_ 1 l_3,d_ r_0,c_ 107 [r_1],o_ (.lit false [(.int .i64 0),(.int .i64 0),(.sl .nil []),(.bool false),(.sl .nil [])] 1 [(0,r_2)]),o_ (.build [(.int .i64 0),(.int .i64 0),(.sl .nil []),(.bool false),(.sl .nil [])] [(0,1,(i_ 13)),(4,1,r_3)]),o_ (.store 5 l_4 r_4)]
.ret)
.skip))
(.seq (.seq (g_ [f_ 0 l_3,d_ r_0,s_ 17 (.bin .eql r_1 (i_ 4))])
(.cond yW
(.seq (.draw [0,1,3,4,5] [(2,[5],[6,7]),(8,[],[])] [f_ 1 l_3,d_ r_0,c_ 107 [r_1],v_ l_5,o_ (.indexAddrS 5 r_3 (i_ 0)),o_ (.loadN 5 r_4),o_ (.lit false [(.int .i64 0),(.int .i64 0),(.sl .nil []),(.bool false),(.sl .nil [])] 2 [(0,r_2),(1,r_5)]),o_ (.build [(.int .i64 0),(.int .i64 0),(.sl .nil []),(.bool false),(.sl .nil [])] [(0,1,(i_ 14)),(4,1,r_6)]),o_ (.store 5 l_4 r_7)])
.ret)
.skip))
(h_ [f_ 0 l_3,d_ r_0,f_ 1 l_3,d_ r_2,f_ 3 l_3,d_ r_4,v_ l_5,o_ (.build [(.int .i64 0),(.int .i64 0),(.sl .nil []),(.bool false),(.sl .nil [])] [(0,1,r_1),(1,1,r_3),(3,1,r_5),(4,1,r_6)]),o_ (.allocL 8 [(.int .i64 0),(.int .i64 0),(.sl .nil []),(.bool false),(.sl .nil [])]),o_ (.store 5 r_8 r_7)]
(.seq (.seq (g_ [f_ 0 l_3,d_ r_0,s_ 18 (.bin .neq r_1 (i_ 7))])
(.cond aCf
(h_ [o_ (.loadN 5 l_8),o_ (.store 5 l_4 r_0)]
.ret)
.skip))
(h_ [w_ 9 N_]
(h_ [w_ 10 N_]
(.seq (.seq (g_ [w_ 11 (i_ 0)])
(.block 2
(.loop t72L0)))
(.seq (.seq (g_ [v_ l_9,o_ (.len .sl r_0),s_ 21 (.bin .gtr r_1 (i_ 0))])
(.cond bBx
(h_ [v_ l_9,v_ l_5,o_ (.build [(.int .i64 0),(.int .i64 0),(.sl .nil []),(.bool false),(.sl .nil [])] [(0,1,(i_ 7)),(2,1,r_0),(4,1,r_1)]),o_ (.allocL 13 [(.int .i64 0),(.int .i64 0),(.sl .nil []),(.bool false),(.sl .nil [])]),o_ (.store 5 r_3 r_2)]
(h_ [o_ (.loadN 5 jC),o_ (.lit false [(.int .i64 0),(.int .i64 0),(.sl .nil []),(.bool false),(.sl .nil [])] 1 [(0,r_0)]),w_ 14 r_1]
(h_ [v_ lZ,v_ dD,o_ (.append false 5 72 25 r_0 r_1),w_ 14 r_2]
(g_ [v_ lZ,o_ (.build [(.int .i64 0),(.int .i64 0),(.sl .nil []),(.bool false),(.sl .nil [])] [(0,1,(i_ 8)),(4,1,r_0)]),o_ (.lit false [(.int .i64 0),(.int .i64 0),(.sl .nil []),(.bool false),(.sl .nil [])] 1 [(0,r_1)]),f_ 4 l_8,o_ (.store 1 r_3 r_2)]))))
.skip))
(h_ [o_ (.loadN 5 l_8),o_ (.store 5 l_4 r_0)]
.ret))))))))))))⟩
def a74:Ann:=⟨[0,1,2,3,5,6,9,12,15,18,21,24,27,30,44,47,56,67,70,73],[2,1],[],[],[(19,⟨[0,1,3,7,0,16,55,127,0,256,887,1911,2047,8191],[0,1,4,5,8,9],[(2,[5,9],[3]),(6,[9],[7]),(10,[],[11]),(12,[],[13])]⟩),(25,⟨[0,1,3,7,0,0,32,112,255,511,1023],[0,1,2,3,4,5,6,7,8],[(9,[],[10])]⟩)]⟩
def t74:aO:=⟨1,20,[.cell 2 4 true,.loc 3],
(h_ [o_ (.boxL 1 l_0),o_ (.allocL 2 [(.bool false),(.int .i64 0),(.bool false),(.str [])]),w_ 3 F_]
(.seq (.seq (g_ [f_ 0 l_1,s_ 4 (.load1 r_0)])
(.block 0
(h_ [o_ (.bin .eql l_4 (i_ 1)),w_ 5 r_0]
(.cond l_5
(h_ [o_ (.build [(.bool false),(.int .i64 0),(.bool false),(.str [])] [(0,1,T_),(1,1,(i_ 0)),(2,1,F_),(3,1,(.cst (.str [99])))]),o_ (.store 4 l_2 r_0),w_ 3 T_]
.ret)
(h_ [o_ (.bin .eql l_4 (i_ 2)),w_ 6 r_0]
(.cond l_6
(h_ [o_ (.build [(.bool false),(.int .i64 0),(.bool false),(.str [])] [(0,1,T_),(1,1,(i_ 0)),(2,1,F_),(3,1,(.cst (.str [118])))]),o_ (.store 4 l_2 r_0),w_ 3 T_]
.ret)
(h_ [o_ (.bin .eql l_4 (i_ 3)),w_ 7 r_0]
(.cond l_7
(h_ [o_ (.build [(.bool false),(.int .i64 0),(.bool false),(.str [])] [(0,1,T_),(1,1,(i_ 0)),(2,1,F_),(3,1,(.cst (.str [103])))]),o_ (.store 4 l_2 r_0),w_ 3 T_]
.ret)
(h_ [o_ (.bin .eql l_4 (i_ 4)),w_ 8 r_0]
(.cond l_8
(h_ [o_ (.build [(.bool false),(.int .i64 0),(.bool false),(.str [])] [(0,1,T_),(1,1,(i_ 1)),(2,1,F_),(3,1,(.cst (.str [115,101,116,33,32,118])))]),o_ (.store 4 l_2 r_0),w_ 3 T_]
.ret)
(h_ [o_ (.bin .eql l_4 (i_ 5)),w_ 9 r_0]
(.cond l_9
(h_ [o_ (.build [(.bool false),(.int .i64 0),(.bool false),(.str [])] [(0,1,T_),(1,1,(i_ 1)),(2,1,F_),(3,1,(.cst (.str [115,101,116,33,32,103])))]),o_ (.store 4 l_2 r_0),w_ 3 T_]
.ret)
(h_ [o_ (.bin .eql l_4 (i_ 6)),w_ 10 r_0]
(.cond dD
(h_ [o_ (.build [(.bool false),(.int .i64 0),(.bool false),(.str [])] [(0,1,F_),(1,1,(i_ 3)),(2,1,F_),(3,1,(.cst (.str [105,102])))]),o_ (.store 4 l_2 r_0),w_ 3 T_]
.ret)
(h_ [o_ (.bin .eql l_4 (i_ 7)),w_ 11 r_0]
(.cond iM
(h_ [o_ (.build [(.bool false),(.int .i64 0),(.bool false),(.str [])] [(0,1,F_),(1,1,(i_ 1)),(2,1,F_),(3,1,(.cst (.str [108,97,109,98,100,97])))]),o_ (.store 4 l_2 r_0),w_ 3 T_]
.ret)
(h_ [o_ (.bin .eql l_4 (i_ 8)),w_ 12 r_0]
(.cond kE
(h_ [o_ (.build [(.bool false),(.int .i64 0),(.bool false),(.str [])] [(0,1,F_),(1,1,(i_ 1)),(2,1,T_),(3,1,(.cst (.str [99,97,108,108])))]),o_ (.store 4 l_2 r_0),w_ 3 T_]
.ret)
(h_ [o_ (.bin .eql l_4 (i_ 9)),w_ 13 r_0]
(.cond jC
(.seq (.draw [0,1,4,5,8,9] [(2,[5,9],[3]),(6,[9],[7]),(10,[],[11]),(12,[],[13])] [f_ 1 l_1,d_ r_0,c_ 108 [r_1],o_ (.minmax true [(i_ 0),r_2]),f_ 1 l_1,d_ r_4,c_ 109 [r_5],o_ (.build [(.bool false),(.int .i64 0),(.bool false),(.str [])] [(0,1,T_),(1,1,r_3),(2,1,F_),(3,1,r_6)]),f_ 1 l_1,d_ r_8,c_ 108 [r_9],o_ (.bin .geq dN (i_ 0)),o_ (.store 4 l_2 r_7),w_ 3 eU])
.ret)
(h_ [o_ (.bin .eql l_4 (i_ 10)),w_ 14 r_0]
(.cond lZ
(h_ [o_ (.build [(.bool false),(.int .i64 0),(.bool false),(.str [])] [(0,1,F_),(1,1,(i_ 1)),(2,1,T_),(3,1,(.cst (.str [98,101,103,105,110])))]),o_ (.store 4 l_2 r_0),w_ 3 T_]
.ret)
(h_ [o_ (.bin .eql l_4 (i_ 11)),w_ 15 r_0]
(.cond wZ
(.seq (.seq (g_ [f_ 1 l_1,d_ r_0,o_ (.bin .lss r_1 (i_ 0)),v_ r_2,x_ 3 (.fieldAddr 1 l_1),x_ 3 (.load1 r_4),x_ 3 (.bin .gtr r_5 (i_ 2)),s_ 16 (.pick r_3 T_ r_6)])
(.cond vQ
(h_ [o_ (.build [(.bool false),(.int .i64 0),(.bool false),(.str [])] []),o_ (.store 4 l_2 r_0),w_ 3 F_]
.ret)
.skip))
(.seq (.draw [0,1,2,3,4,5,6,7,8] [(9,[],[10])] [f_ 1 l_1,d_ r_0,o_ (.bin .add r_1 (i_ 1)),o_ (.minmax false [r_2,(i_ 2)]),o_ (.build [(.str []),(.str []),(.str [])] [(0,1,(.cst (.str [99,97,108,108,47,99,99]))),(1,1,(.cst (.str [97,112,112,108,121]))),(2,1,(.cst (.str [99,97,108,108,45,119,105,116,104,45,118,97,108,117,101,115])))]),f_ 1 l_1,d_ r_5,o_ (.indexA 3 1 false r_4 r_6),o_ (.build [(.bool false),(.int .i64 0),(.bool false),(.str [])] [(0,1,T_),(1,1,r_3),(2,1,F_),(3,1,r_7)]),o_ (.store 4 l_2 r_8),w_ 3 T_])
.ret))
(h_ [o_ (.bin .eql l_4 (i_ 12)),w_ 17 r_0]
(.cond yW
(h_ [o_ (.build [(.bool false),(.int .i64 0),(.bool false),(.str [])] [(0,1,F_),(1,1,(i_ 1)),(2,1,F_),(3,1,(.cst (.str [98,111,120])))]),o_ (.store 4 l_2 r_0),w_ 3 T_]
.ret)
(h_ [o_ (.bin .eql l_4 (i_ 13)),w_ 18 r_0]
(.cond aCf
(h_ [o_ (.build [(.bool false),(.int .i64 0),(.bool false),(.str [])] [(0,1,F_),(1,1,(i_ 1)),(2,1,F_),(3,1,(.cst (.str [117,110,98,111,120])))]),o_ (.store 4 l_2 r_0),w_ 3 T_]
.ret)
(h_ [o_ (.bin .eql l_4 (i_ 14)),w_ 19 r_0]
(.cond aCg
(h_ [o_ (.build [(.bool false),(.int .i64 0),(.bool false),(.str [])] [(0,1,F_),(1,1,(i_ 2)),(2,1,F_),(3,1,(.cst (.str [115,101,116,45,98,111,120,33])))]),o_ (.store 4 l_2 r_0),w_ 3 T_]
.ret)
.skip))))))))))))))))))))))))))))))
(h_ [o_ (.build [(.bool false),(.int .i64 0),(.bool false),(.str [])] []),o_ (.store 4 l_2 r_0),w_ 3 F_]
.ret)))⟩
def a75:Ann:=⟨[0,2],[],[],[],[]⟩
def t75:aO:=⟨1,2,[.loc 1],
(h_ [s_ 1 (.mov (.cst (.str [])))]
(h_ [v_ l_0,c_ 110 [r_0],w_ 1 r_1]
.ret))⟩
def a76:Ann:=⟨[0,1,2,3,5,6,8,9,10,11,22,32],[1],[(5,4)],[],[(11,⟨[0,0,2,7,0,0,32,112,240,496,1023,2047],[0,1,2,3,4,5,6,7,8,9],[(10,[],[11])]⟩)]⟩
def t76L0:aK:=(.seq (g_ [s_ 9 (.bin .lss l_8 l_7)])
(.seq (.cond l_9
.skip
(.exit 0))
(.seq (.block 1
(h_ [o_ (.indexAddrS 1 l_6 l_8),d_ r_0,w_ 4 r_1]
(g_ [v_ l_3,v_ l_4,c_ 111 [r_1],o_ (.lit false [(.str [])] 1 [(0,r_2)]),o_ (.append true 1 16 9 r_0 r_3),w_ 3 r_4])))
(g_ [o_ (.bin .add l_8 (i_ 1)),w_ 8 r_0]))))
def t76:aO:=⟨1,12,[.loc 2],
(h_ [o_ (.boxL 1 l_0),s_ 2 (.mov (.cst (.str [])))]
(h_ [w_ 3 N_]
(.seq (.seq (g_ [f_ 2 l_1,s_ 6 (.load1 r_0),s_ 7 (.len .sl r_1),w_ 8 (i_ 0)])
(.block 0
(.loop t76L0)))
(.seq (.seq (g_ [v_ l_3,o_ (.len .sl r_0),w_ 5 r_1])
(.block 2
(h_ [f_ 3 l_1,d_ r_0,v_ r_1,y_ 2 (.mov l_5),y_ 2 (.bin .eql r_3 (i_ 1)),o_ (.pick r_2 r_4 F_),w_ 10 r_5]
(.cond dD
(h_ [v_ l_3,o_ (.indexAddrS 1 r_0 (i_ 0)),d_ r_1,w_ 2 r_2]
.ret)
(h_ [f_ 3 l_1,d_ r_0,w_ 11 r_1]
(.cond iM
(.draw [0,1,2,3,4,5,6,7,8,9] [(10,[],[11])] [v_ l_3,v_ l_5,o_ (.bin .sub r_1 (i_ 1)),o_ (.slice (.sl 1) r_0 none (some r_2) none),v_ l_3,v_ l_5,o_ (.bin .sub r_5 (i_ 1)),o_ (.indexAddrS 1 r_4 r_6),d_ r_7,o_ (.lit false [(.str [])] 2 [(0,(.cst (.str [46]))),(1,r_8)]),o_ (.append false 1 16 9 r_3 r_9),w_ 3 dN])
.skip))))))
(h_ [v_ l_3,o_ (.call true false 77 [r_0,(.cst (.str [32]))]),o_ (.bin .add (.cst (.str [40])) r_1),o_ (.bin .add r_2 (.cst (.str [41]))),w_ 2 r_3]
.ret)))))⟩
def a77:Ann:=⟨[0,1,4,5,7,8,10,12,13,15,22,29,39,40,41,42,49,63,64,65,66],[],[],[],[]⟩
def t77L0:aK:=(.seq (g_ [s_ 20 (.bin .lss aCg aCf)])
(.seq (.cond bBw
.skip
(.exit 3))
(.seq (.block 4
(h_ [o_ (.indexAddrS 1 yW aCg),d_ r_0,w_ 6 r_1]
(h_ [v_ l_1,o_ (.call false false 78 [l_5,r_0])]
(g_ [v_ l_6,o_ (.call false false 78 [l_5,r_0])]))))
(g_ [o_ (.bin .add aCg (i_ 1)),w_ 19 r_0]))))
def t77L1:aK:=(.seq (g_ [s_ 15 (.bin .lss lZ jC)])
(.seq (.cond wZ
.skip
(.exit 1))
(.seq (.block 2
(h_ [o_ (.indexAddrS 1 kE lZ),d_ r_0,w_ 4 r_1]
(.seq (.seq (g_ [v_ l_4,o_ (.len .str r_0),v_ l_3,o_ (.bin .sub (i_ 9223372036854775807) r_2),s_ 16 (.bin .gtr r_1 r_3)])
(.cond vQ
(g_ [o_ (.bad),o_ (.bad)])
.skip))
(g_ [v_ l_3,v_ l_4,o_ (.len .str r_1),o_ (.bin .add r_0 r_2),w_ 3 r_3]))))
(g_ [o_ (.bin .add lZ (i_ 1)),w_ 14 r_0]))))
def t77:aO:=⟨2,21,[.loc 2],
(h_ [s_ 2 (.mov (.cst (.str [])))]
(.seq (.seq (g_ [v_ l_0,s_ 7 (.len .sl r_0)])
(.block 0
(h_ [o_ (.bin .eql l_7 (i_ 0)),w_ 8 r_0]
(.cond l_8
(h_ [s_ 2 (.mov (.cst (.str [])))]
.ret)
(h_ [o_ (.bin .eql l_7 (i_ 1)),w_ 9 r_0]
(.cond l_9
(h_ [v_ l_0,o_ (.indexAddrS 1 r_0 (i_ 0)),d_ r_1,w_ 2 r_2]
.ret)
.skip))))))
(h_ [w_ 3 (i_ 0)]
(.seq (.seq (g_ [v_ l_1,o_ (.len .str r_0),s_ 10 (.bin .gtr r_1 (i_ 0))])
(.cond dD
(.seq (.seq (g_ [v_ l_1,o_ (.len .str r_0),v_ l_0,o_ (.len .sl r_2),o_ (.bin .sub r_3 (i_ 1)),o_ (.bin .quo (i_ 9223372036854775807) r_4),s_ 11 (.bin .geq r_1 r_5)])
(.cond iM
(g_ [o_ (.bad),o_ (.bad)])
.skip))
(g_ [v_ l_3,v_ l_1,o_ (.len .str r_1),v_ l_0,o_ (.len .sl r_3),o_ (.bin .sub r_4 (i_ 1)),o_ (.bin .mul r_2 r_5),o_ (.bin .add r_0 r_6),w_ 3 r_7]))
.skip))
(.seq (.seq (g_ [w_ 12 l_0,s_ 13 (.len .sl r_0),w_ 14 (i_ 0)])
(.block 1
(.loop t77L1)))
(h_ [s_ 5 (.allocH 98 [.nilp,(.sl .nil [])])]
(h_ [v_ l_3,o_ (.call false false 112 [l_5,r_0])]
(h_ [v_ l_0,o_ (.indexAddrS 1 r_0 (i_ 0)),d_ r_1,o_ (.call false false 78 [l_5,r_2])]
(.seq (.seq (g_ [v_ l_0,s_ 17 (.slice (.sl 1) r_0 (some (i_ 1)) none none),s_ 18 (.len .sl r_1),w_ 19 (i_ 0)])
(.block 3
(.loop t77L0)))
(h_ [o_ (.prim 80 [l_5]),w_ 2 r_0]
.ret))))))))))⟩
def a78:Ann:=⟨[0,1,4,5],[],[],[],[]⟩
def t78:aO:=⟨2,4,[.loc 2,.loc 3],
(h_ [w_ 2 (i_ 0),s_ 3 (.mov (.cst .nili))]
(h_ [v_ l_0,o_ (.prim 113 [r_0])]
(h_ [v_ l_0,v_ l_0,o_ (.nilCheck r_1),f_ 1 r_2,d_ r_3,v_ l_1,o_ (.append false 1 1 5 r_4 r_5),o_ (.nilCheck r_0),f_ 1 r_7,o_ (.store 1 r_8 r_6)]
(h_ [v_ l_1,o_ (.len .str r_0),w_ 2 r_1,s_ 3 (.mov (.cst .nili))]
.ret))))⟩
def a82:Ann:=⟨[0,1,2],[1],[],[],[]⟩
def t82:aO:=⟨1,3,[.loc 2],
(h_ [o_ (.boxL 1 l_0),w_ 2 F_]
(h_ [f_ 0 l_1,d_ r_0,o_ (.bin .eql r_1 (i_ 6)),v_ r_2,y_ 3 (.fieldAddr 3 l_1),y_ 3 (.load1 r_4),y_ 3 (.len .sl r_5),y_ 3 (.bin .eql r_6 (i_ 2)),o_ (.pick r_3 r_7 F_),w_ 2 r_8]
.ret))⟩
def a83:Ann:=⟨[0,1,4],[],[],[],[]⟩
def t83:aO:=⟨2,3,[.loc 2],
(h_ [w_ 2 F_]
(h_ [v_ l_0,v_ l_1,o_ (.call false false 115 [r_0,r_1]),o_ (.bin .geq r_2 (i_ 0)),w_ 2 r_3]
.ret))⟩
def a84:Ann:=⟨[0,1,2],[1],[],[],[]⟩
def t84:aO:=⟨1,3,[.loc 2],
(h_ [o_ (.boxL 1 l_0),w_ 2 F_]
(h_ [o_ (.loadN 5 l_1),c_ 42 [r_0],o_ (.un .not r_1),w_ 2 r_2]
.ret))⟩
def a85:Ann:=⟨[0,1,2,4,6,7,12,22,27,32],[1],[],[],[]⟩
def t85:aO:=⟨1,10,[.loc 2],
(h_ [o_ (.boxL 1 l_0),w_ 2 F_]
(.seq (.seq (g_ [f_ 0 l_1,s_ 4 (.load1 r_0)])
(.block 0
(.seq (.seq (g_ [o_ (.bin .eql l_4 (i_ 0)),w_ 5 r_0])
(.cond l_5
.skip
(h_ [o_ (.bin .eql l_4 (i_ 8)),w_ 5 r_0]
(.cond l_5
.skip
(h_ [o_ (.bin .eql l_4 (i_ 9)),w_ 5 r_0]
(.cond l_5
.skip
(g_ [o_ (.bin .eql l_4 (i_ 10)),w_ 5 r_0])))))))
(.cond l_5
(h_ [w_ 2 T_]
.ret)
(h_ [o_ (.bin .eql l_4 (i_ 1)),w_ 6 r_0]
(.cond l_6
(h_ [f_ 1 l_1,d_ r_0,o_ (.bin .eql r_1 (i_ 0)),v_ r_2,x_ 3 (.fieldAddr 1 l_1),x_ 3 (.load1 r_4),x_ 3 (.bin .eql r_5 (i_ 1)),o_ (.pick r_3 T_ r_6),w_ 2 r_7]
.ret)
(h_ [o_ (.bin .eql l_4 (i_ 2)),w_ 7 r_0]
(.cond l_7
(h_ [f_ 2 l_1,d_ r_0,c_ 116 [r_1],w_ 2 r_2]
.ret)
(h_ [o_ (.bin .eql l_4 (i_ 3)),w_ 8 r_0]
(.cond l_8
(h_ [f_ 1 l_1,d_ r_0,c_ 117 [r_1],w_ 2 r_2]
.ret)
(.seq (.seq (g_ [o_ (.bin .eql l_4 (i_ 4)),w_ 9 r_0])
(.cond l_9
.skip
(g_ [o_ (.bin .eql l_4 (i_ 5)),w_ 9 r_0])))
(.cond l_9
(h_ [f_ 2 l_1,d_ r_0,c_ 118 [r_1],v_ r_2,o_ (.extract 0 r_3),o_ (.extract 1 r_3),v_ r_4,w_ 3 r_5]
(h_ [v_ l_3,o_ (.bin .eql r_0 (i_ 0)),v_ r_1,y_ 2 (.fieldAddr 0 l_1),y_ 2 (.load1 r_3),y_ 2 (.bin .eql r_4 (i_ 4)),y_ 2 (.mov r_5),x_ 6 (.fieldAddr 2 l_1),x_ 6 (.load1 r_7),x_ 6 (.bin .neq r_8 (.cst (.str []))),y_ 2 (.pick r_6 T_ r_9),o_ (.pick r_2 dN F_),w_ 2 eU]
.ret))
.skip))))))))))))
(h_ [w_ 2 F_]
.ret)))⟩
def a86:Ann:=⟨[0,1,2],[1],[],[],[]⟩
def t86:aO:=⟨1,3,[.loc 2],
(h_ [o_ (.boxL 1 l_0),w_ 2 F_]
(h_ [o_ (.loadN 5 l_1),c_ 43 [r_0],o_ (.un .not r_1),w_ 2 r_2]
.ret))⟩
def a87:Ann:=⟨[0,1,2,3,4,5,6,7,8,73,75,76,88,100],[5,3],[],[],[(8,⟨[0,0,2,0,8,24,56,120,248,511,1023],[0,1,2,3,4,5,6,7,8],[(9,[],[10])]⟩),(11,⟨[0,0,2,0,8,24,56,120,255,511],[0,1,2,3,4,5,6,7],[(8,[],[9])]⟩),(14,⟨[0,0,2,0,8,24,56,120,255,511],[0,1,2,3,4,5,6,7],[(8,[],[9])]⟩)]⟩
def t87:aO:=⟨2,14,[.loc 4],
(h_ [s_ 2 (.boxH 55 l_0),o_ (.boxL 3 l_1),w_ 4 F_]
(h_ [o_ (.loadN 5 l_3),c_ 74 [r_0],v_ r_1,o_ (.extract 0 r_2),o_ (.extract 1 r_2),o_ (.allocL 5 [(.bool false),(.int .i64 0),(.bool false),(.str [])]),o_ (.store 4 r_5 r_3),w_ 6 r_4]
(h_ [f_ 0 l_3,d_ r_0,o_ (.bin .eql r_1 (i_ 7)),w_ 7 r_2]
(.seq (.seq (g_ [v_ l_6,o_ (.un .not r_0),v_ r_1,x_ 2 (.fieldAddr 4 l_3),x_ 2 (.load1 r_3),x_ 2 (.len .sl r_4),x_ 2 (.fieldAddr 1 l_5),x_ 2 (.load1 r_6),x_ 2 (.bin .lss r_5 r_7),o_ (.pick r_2 T_ r_8),v_ r_9,x_ 10 (.fieldAddr 4 l_3),x_ 10 (.load1 eU),x_ 10 (.len .sl iI),x_ 10 (.fieldAddr 1 l_5),x_ 10 (.load1 nG),x_ 10 (.bin .gtr hP sC),x_ 10 (.mov sD),y_ 17 (.fieldAddr 2 l_5),y_ 17 (.load1 wY),y_ 17 (.un .not yV),x_ 10 (.pick tS aCd F_),o_ (.pick dN T_ aCe),v_ aC4,x_ 23 (.fieldAddr 0 l_5),x_ 23 (.load1 aKn),x_ 23 (.un .not aOc),x_ 23 (.mov bBs),y_ 27 (.fieldAddr 1 l_3),y_ 27 (.load1 bBu),y_ 27 (.bin .neq bBv (i_ 0)),x_ 23 (.pick bBt bGe F_),o_ (.pick aHb T_ bGf),v_ bGg,x_ 33 (.mov l_7),x_ 33 (.un .not bK2),x_ 33 (.mov bK3),y_ 36 (.fieldAddr 2 l_3),y_ 36 (.load1 bL4),y_ 36 (.len .sl bL5),y_ 36 (.bin .gtr bL6 (i_ 0)),y_ 36 (.mov bL7),x_ 41 (.fieldAddr 3 l_3),x_ 41 (.load1 bL9),y_ 36 (.pick bL8 T_ bMa),x_ 33 (.pick bL3 bMb F_),o_ (.pick bJp T_ bMc),v_ bMd,x_ 47 (.fieldAddr 3 l_3),x_ 47 (.load1 bMf),x_ 47 (.mov bMg),y_ 50 (.fieldAddr 2 l_3),y_ 50 (.load1 bMi),y_ 50 (.len .sl bMj),y_ 50 (.bin .eql bMk (i_ 0)),x_ 47 (.pick bMh bMl F_),s_ 9 (.pick bMe T_ bMm)])
(.cond l_9
(h_ [w_ 4 F_]
.ret)
.skip))
(h_ [s_ 8 (.allocH 135 [.nilf]),o_ (.store 1 r_0 (.fn 119))]
(.seq (.seq (g_ [f_ 0 l_3,s_ 10 (.load1 r_0)])
(.block 0
(h_ [o_ (.bin .eql dD (i_ 1)),w_ 11 r_0]
(.cond iM
(.seq (.draw [0,1,2,3,4,5,6,7,8] [(9,[],[10])] [d_ l_8,f_ 1 l_3,d_ r_1,d_ l_2,o_ (.nilCheck r_3),f_ 0 r_4,f_ 7 r_5,d_ r_6,o_ (.len .sl r_7),o_ (.callv r_0 [r_2,r_8]),w_ 4 r_9])
.ret)
(.seq (.seq (g_ [o_ (.bin .eql dD (i_ 2)),w_ 12 r_0])
(.cond kE
.skip
(g_ [o_ (.bin .eql dD (i_ 4)),w_ 12 r_0])))
(.cond kE
(.seq (.draw [0,1,2,3,4,5,6,7] [(8,[],[9])] [d_ l_8,f_ 1 l_3,d_ r_1,d_ l_2,o_ (.nilCheck r_3),f_ 0 r_4,f_ 6 r_5,d_ r_6,o_ (.callv r_0 [r_2,r_7]),w_ 4 r_8])
.ret)
(.seq (.seq (g_ [o_ (.bin .eql dD (i_ 3)),w_ 13 r_0])
(.cond jC
.skip
(g_ [o_ (.bin .eql dD (i_ 5)),w_ 13 r_0])))
(.cond jC
(.seq (.draw [0,1,2,3,4,5,6,7] [(8,[],[9])] [d_ l_8,f_ 1 l_3,d_ r_1,d_ l_2,o_ (.nilCheck r_3),f_ 0 r_4,f_ 5 r_5,d_ r_6,o_ (.callv r_0 [r_2,r_7]),w_ 4 r_8])
.ret)
.skip))))))))
(h_ [f_ 2 l_3,d_ r_0,o_ (.mkFn 121 [] [l_8,l_2]),o_ (.call false false 120 [r_1,r_2]),o_ (.un .not r_3),w_ 4 r_4]
.ret)))))))⟩
def a90:Ann:=⟨[0,1,2,5,7,8,9,10,15],[],[],[],[]⟩
def t90L0:aK:=(.seq (g_ [s_ 7 (.bin .lss l_6 l_5)])
(.seq (.cond l_7
.skip
(.exit 0))
(.seq (.block 1
(h_ [o_ (.indexAddrS 1 l_4 l_6),d_ r_0,w_ 3 r_1]
(h_ [f_ 0 l_1,d_ r_0,s_ 8 (.bin .eql r_1 (i_ 7))]
(.cond l_8
(g_ [d_ l_2,v_ l_3,d_ l_2,v_ l_3,o_ (.lookup (.leaf .int) (.agg [(.int .i64 0)]) false r_2 r_3),o_ (.field 0 1 false r_4),v_ l_0,o_ (.bin .add r_5 r_6),o_ (.build [(.int .i64 0)] [(0,1,r_7)]),o_ (.update (.leaf .int) r_0 r_1 r_8)])
.skip))))
(g_ [o_ (.bin .add l_6 (i_ 1)),w_ 6 r_0]))))
def t90:aO:=⟨3,9,[],
(h_ [f_ 2 l_1,s_ 4 (.load1 r_0),s_ 5 (.len .sl r_1),w_ 6 (i_ 0)]
(.block 0
(.loop t90L0)))⟩
def a91:Ann:=⟨[0,2,3,4,5,6,7,8,9,13,22],[],[],[],[]⟩
def t91L0:aK:=(.seq (.seq (g_ [v_ l_5,v_ l_0,o_ (.len .sl r_1),s_ 9 (.bin .lss r_0 r_2)])
(.cond l_9
.skip
(.exit 0)))
(.block 1
(h_ [v_ l_0,v_ l_5,c_ 125 [r_0,r_1],v_ r_2,o_ (.extract 0 r_3),o_ (.extract 1 r_3),o_ (.extract 2 r_3),w_ 6 r_4,w_ 7 r_5,w_ 8 r_6]
(.seq (.seq (g_ [v_ l_8,s_ 10 (.bin .neq r_0 (i_ 0))])
(.cond dD
(h_ [v_ l_5,w_ 1 N_,w_ 2 (i_ 4),w_ 3 r_0]
.ret)
.skip))
(h_ [v_ l_4,v_ l_6,v_ l_5,o_ (.build [(.int .i64 0),(.int .i64 0)] [(0,1,r_1),(1,1,r_2)]),o_ (.lit false [(.int .i64 0),(.int .i64 0)] 1 [(0,r_3)]),o_ (.append false 2 16 113 r_0 r_4),w_ 4 r_5]
(g_ [v_ l_5,v_ l_7,o_ (.bin .add r_0 r_1),w_ 5 r_2]))))))
def t91:aO:=⟨1,11,[.loc 1,.loc 2,.loc 3],
(h_ [w_ 1 N_,w_ 2 (i_ 0),w_ 3 (i_ 0)]
(h_ [w_ 4 N_]
(h_ [w_ 5 (i_ 0)]
(.seq (.block 0
(.loop t91L0))
(h_ [v_ l_4,w_ 1 r_0,w_ 2 (i_ 0),w_ 3 (i_ 0)]
.ret)))))⟩
def a92:Ann:=⟨[0,1,4,5,10,12,13,14,24],[],[],[],[(6,⟨[0,0,3,7,0,0,48,112,255],[0,1,2,3,4,5,6,7,8],[]⟩)]⟩
def t92L0:aK:=(.seq (g_ [s_ 7 (.bin .lss l_6 l_5)])
(.seq (.cond l_7
.skip
(.exit 0))
(.seq (.block 1
(h_ [v_ l_6,w_ 3 r_0]
(.seq (.draw [0,1,2,3,4,5,6,7,8] [] [v_ l_0,v_ l_3,o_ (.indexAddrS 1 r_0 r_1),d_ r_2,v_ l_1,v_ l_3,o_ (.indexAddrS 1 r_4 r_5),d_ r_6,s_ 8 (.bin .neq r_3 r_7)])
(.cond l_8
(h_ [w_ 2 F_]
.ret)
.skip))))
(g_ [o_ (.bin .add l_6 (i_ 1)),w_ 6 r_0]))))
def t92:aO:=⟨2,9,[.loc 2],
(h_ [w_ 2 F_]
(.seq (.seq (g_ [v_ l_0,o_ (.len .sl r_0),v_ l_1,o_ (.len .sl r_2),s_ 4 (.bin .neq r_1 r_3)])
(.cond l_4
(h_ [w_ 2 F_]
.ret)
.skip))
(.seq (.seq (g_ [v_ l_0,s_ 5 (.len .sl r_0),w_ 6 (i_ 0)])
(.block 0
(.loop t92L0)))
(h_ [w_ 2 T_]
.ret))))⟩
def a93:Ann:=⟨[0,1,2,6,7,8,9,14,15,16,17,18,30],[9,8],[],[],[]⟩
def t93L0:aK:=(.seq (g_ [s_ 11 (.bin .lss dD l_9)])
(.seq (.cond iM
.skip
(.exit 0))
(.seq (.block 1
(h_ [v_ dD,o_ (.indexAddrS 5 l_8 dD),o_ (.loadN 5 r_1),o_ (.allocL 5 [(.int .i64 0),(.int .i64 0),(.sl .nil []),(.bool false),(.sl .nil [])]),w_ 4 r_0,o_ (.store 5 r_3 r_2)]
(h_ [v_ l_1,v_ l_4,o_ (.indexAddrS 5 r_0 r_1),o_ (.loadN 5 r_2),o_ (.allocL 6 [(.int .i64 0),(.int .i64 0),(.sl .nil []),(.bool false),(.sl .nil [])]),o_ (.store 5 r_4 r_3)]
(h_ [v_ l_2,o_ (.loadN 5 l_5),o_ (.loadN 5 l_6),o_ (.callv r_0 [r_1,r_2]),s_ 12 (.un .not r_3)]
(.cond kE
(h_ [w_ 3 F_]
.ret)
.skip)))))
(g_ [o_ (.bin .add dD (i_ 1)),w_ 10 r_0]))))
def t93:aO:=⟨3,13,[.loc 3],
(h_ [w_ 3 F_]
(.seq (.seq (g_ [v_ l_0,o_ (.len .sl r_0),v_ l_1,o_ (.len .sl r_2),s_ 7 (.bin .neq r_1 r_3)])
(.cond l_7
(h_ [w_ 3 F_]
.ret)
.skip))
(.seq (.seq (g_ [w_ 8 l_0,s_ 9 (.len .sl r_0),w_ 10 (i_ 0)])
(.block 0
(.loop t93L0)))
(h_ [w_ 3 T_]
.ret))))⟩
def a94:Ann:=⟨[0,1,2,4,5,7,8,9,10,11,13,14,16,20,21,26,28,40,42,48,56,62,66,80,82,95],[10,2],[],[],[]⟩
def t94L0:aK:=(.seq (.seq (g_ [v_ l_6, f_ 2 l_2, d_ r_1, o_ (.len .str r_2), s_ 21 (.bin .lss r_0 r_3)])
(.cond bBx
.skip
(.exit 1)))
(.seq (.block 2
(.seq (.seq (g_ [v_ l_6,s_ 22 (.bin .gtr r_0 (i_ 0))])
(.cond bK4
(g_ [v_ l_5,o_ (.bin .add r_0 (.cst (.str [32]))),w_ 5 r_1])
.skip))
(g_ [v_ l_5,f_ 2 l_2,d_ r_1,v_ l_6,o_ (.indexS r_2 r_3),o_ (.conv (.toInt .i64) r_4),c_ 130 [r_5],o_ (.bin .add r_0 r_6),w_ 5 r_7])))
(g_ [v_ l_6,o_ (.bin .add r_0 (i_ 1)),w_ 6 r_1])))
def t94:aO:=⟨2,26,[.loc 3],
(h_ [o_ (.boxL 2 l_0),s_ 3 (.mov (.cst (.str [])))]
(.seq (.seq (g_ [f_ 0 l_2,s_ 10 (.load1 r_0)])
(.block 0
(h_ [o_ (.bin .eql dD (i_ 0)),w_ 11 r_0]
(.cond iM
(h_ [s_ 3 (.mov (.cst (.str [40,41])))]
.ret)
(h_ [o_ (.bin .eql dD (i_ 1)),w_ 12 r_0]
(.cond kE
(.seq (.seq (g_ [f_ 1 l_2,d_ r_0,s_ 13 (.bin .eql r_1 (i_ 1))])
(.cond jC
(h_ [s_ 3 (.mov (.cst (.str [35,116])))]
.ret)
.skip))
(h_ [s_ 3 (.mov (.cst (.str [35,102])))]
.ret))
(.seq (.seq (g_ [o_ (.bin .eql dD (i_ 2)),w_ 14 r_0])
(.cond lZ
.skip
(g_ [o_ (.bin .eql dD (i_ 5)),w_ 14 r_0])))
(.cond lZ
(h_ [f_ 2 l_2,d_ r_0,w_ 3 r_1]
.ret)
(h_ [o_ (.bin .eql dD (i_ 3)),w_ 15 r_0]
(.cond wZ
(.seq (.seq (g_ [w_ 16 l_1])
(.cond vQ
(h_ [f_ 1 l_2,d_ r_0,c_ 126 [r_1],v_ r_2,o_ (.extract 0 r_3),o_ (.extract 1 r_3),w_ 4 r_4,v_ r_5]
(h_ [v_ l_4,w_ 3 r_0]
.ret))
.skip))
(h_ [f_ 1 l_2,d_ r_0,c_ 127 [r_1],o_ (.bin .add (.cst (.str [35,92])) r_2),w_ 3 r_3]
.ret))
(h_ [o_ (.bin .eql dD (i_ 4)),w_ 17 r_0]
(.cond yW
(.seq (.seq (g_ [w_ 18 l_1])
(.cond aCf
(h_ [f_ 2 l_2,d_ r_0,w_ 3 r_1]
.ret)
.skip))
(h_ [f_ 2 l_2,d_ r_0,c_ 128 [r_1],w_ 3 r_2]
.ret))
(h_ [o_ (.bin .eql dD (i_ 7)),w_ 19 r_0]
(.cond aCg
(h_ [f_ 3 l_2,d_ r_0,v_ l_1,c_ 129 [r_1,r_2],o_ (.bin .add (.cst (.str [35,40])) r_3),o_ (.bin .add r_4 (.cst (.str [41]))),w_ 3 r_5]
.ret)
(h_ [o_ (.bin .eql dD (i_ 8)),w_ 20 r_0]
(.cond bBw
(h_ [s_ 5 (.mov (.cst (.str [])))]
(.seq (.seq (g_ [w_ 6 (i_ 0)])
(.block 1
(.loop t94L0)))
(h_ [v_ l_5,o_ (.bin .add (.cst (.str [35,117,56,40])) r_0),o_ (.bin .add r_1 (.cst (.str [41]))),w_ 3 r_2]
.ret)))
(h_ [o_ (.bin .eql dD (i_ 9)),w_ 23 r_0]
(.cond bK5
(h_ [s_ 3 (.mov (.cst (.str [35,33,101,111,102])))]
.ret)
(h_ [o_ (.bin .eql dD (i_ 10)),w_ 24 r_0]
(.cond bK6
(h_ [s_ 3 (.mov (.cst (.str [35,33,110,111,110,101])))]
.ret)
.skip))))))))))))))))))))
(h_ [o_ (.loadN 5 l_2),c_ 50 [r_0],v_ r_1,o_ (.extract 0 r_2),o_ (.extract 1 r_2),o_ (.allocL 8 [(.int .i64 0),(.int .i64 0),(.str []),(.sl .nil []),(.int .i64 0)]),w_ 7 r_3,o_ (.store 5 r_5 r_4)]
(h_ [v_ l_7,v_ l_1,c_ 129 [r_0,r_1],o_ (.bin .add (.cst (.str [40])) r_2),w_ 9 r_3]
(.seq (.seq (g_ [f_ 0 l_8,d_ r_0,s_ 25 (.bin .neq r_1 (i_ 0))])
(.cond bK7
(g_ [v_ l_9,o_ (.bin .add r_0 (.cst (.str [32,46,32]))),o_ (.loadN 5 l_8),v_ l_1,c_ 94 [r_2,r_3],o_ (.bin .add r_1 r_4),w_ 9 r_5])
.skip))
(h_ [v_ l_9,o_ (.bin .add r_0 (.cst (.str [41]))),w_ 3 r_1]
.ret))))))⟩
end Go.Proofs.YtookmpaholmmfaaGreatDoor
