/- Some texts of the proof, joined. Condition: none. -/
import Derived.Test.YtehlgnfhkidgoaaGreatDoorJa
set_option linter.unusedSectionVars false
set_option maxRecDepth 100000
set_option maxHeartbeats 64000000
set_option linter.unusedSimpArgs false
set_option linter.unusedVariables false
namespace Go.Proofs.YtehlgnfhkidgoaaGreatDoor
open Go Go.TM
theorem bQj(i:Nat)(S:aA):(lim K).call 79 [.ptr 3 65 0,j_ i] S=.ret (.fn 113 [] [.ptr S.length 58 0,.ptr (S.length+1) 4 0],S++[.cells 58 false [.ptr 3 65 0],.cells 4 false [j_ i]]):=by refine aI K _ (fn:=t79) rfl rfl ?_;simp(disch:=omega)only[t79,go_sem,n_,A9]
theorem bKb{S0:aA}{m:Nat}{W:Tc_}{b3 b4 Z:aG}(R:aA):(gS S0 m W b3 b4 Z R)[S0.length]?=some (.cells 58 false [.ptr 3 65 0]):=by unfold gS;rw[gN0]
theorem aT1{S0:aA}{m:Nat}{W:Tc_}{b3 b4 Z:aG}(R:aA):(gS S0 m W b3 b4 Z R)[S0.length+1]?=some (.cells 0 false (W.map uI)):=by unfold gS;rw[gN1]
theorem aT2{S0:aA}{m:Nat}{W:Tc_}{b3 b4 Z:aG}(R:aA):(gS S0 m W b3 b4 Z R)[S0.length+2]?=some (.cells 93 false [.msl (S0.length+1) 0 0 m m 1]):=by unfold gS;rw[gN2]
theorem bKc{S0:aA}{m:Nat}{W:Tc_}{b3 b4 Z:aG}(R:aA):(gS S0 m W b3 b4 Z R)[S0.length+5]?=some Z:=by unfold gS;rw[gN5]
theorem aIx{S0:aA}{m:Nat}{W:Tc_}{b3 b4 Z a b:aG}(R:aA):(gS S0 m W b3 b4 Z (a::b::R))[S0.length+7]?=some b:=by unfold gS;rw[gN7]
theorem bKd{S0:aA}{m:Nat}{W:Tc_}{b3 b4 Z a b:aG}(x:aG)(R:aA):(gS S0 m W b3 b4 Z (a::b::R)).set (S0.length+7) x=gS S0 m W b3 b4 Z (a::x::R):=by unfold gS;rw[sN7]
theorem bKe{S0:aA}{m:Nat}{W:Tc_}{b3 b4 Z:aG}(x:aG)(R:aA):(gS S0 m W b3 b4 Z R).set (S0.length+5) x=gS S0 m W b3 b4 x R:=by unfold gS;rw[sN5]
attribute [go_sem] bKb aT1 aT2 bKc aIx bKd bKe
theorem aT3{S0:aA}{m:Nat}(J:m<=100000){p n:Nat}{U D:Tc_}(g:WOK m U)(r:WOK m D)(x:S0[p]?=some (.cells 0 false (U.map uI)))(u:S0[n]?=some (.cells 0 false (D.map uI))){W:Tc_}(w:WOK m W)(b3 b4 Z B6:aG)(x0 h x4 x5 x7 x8 x11 x12 x13 x14 x15 x16:TV):∀(k i:Nat) (V:Tc_) (x10 c:TV),i+k=m->WOK m V ->∃(V':Tc_) (d b:TV),lp' (lim K) t56L0 [x0,h,.msl p 0 0 m m 1,.msl n 0 0 m m 1,x4,x5,.ptr (S0.length+2) 93 0,x7,x8,.msl (S0.length+7) 0 0 m m 1,x10,x11,x12,x13,x14,x15,x16,j_ m,j_ i,c] (gS S0 m W b3 b4 Z [B6,.cells 0 false (V.map uI)]) = .ret (.exit 4,[x0,h,.msl p 0 0 m m 1,.msl n 0 0 m m 1,x4,x5,.ptr (S0.length+2) 93 0,x7,x8,.msl (S0.length+7) 0 0 m m 1,d,x11,x12,x13,x14,x15,x16,j_ m,j_ m,b],gS S0 m W b3 b4 Z [B6,.cells 0 false (V'.map uI)]) /\WOK m V'/\∀q,V'.getD q 0=if i<=q/\q<m then U.getD q 0 ||| lS (W.getD q 0) (D.getD q 0)else V.getD q 0
 |0,i,V,x10,c,hk,hV=>by obtain rfl:i=m:=A_;refine⟨V,x10,z_,aE K _ _ t56L0.eq_1 ?_,hV,fun q=>by rw[I_ A_]⟩;simp(disch:=omega)only[go_sem]
 |k+1,i,V,x10,c,hk,hV=>by
  have a:i<m:=A_;have F:=fun j=>iO (j:=j) (v:=0) (cap:=m) a;have y:=sF (W:=W) (i:=i) (by rw[w.len];exact a);have E:=sF (W:=U) (i:=i) (by rw[g.len];exact a);have s:=sF (W:=D) (i:=i) (by rw[r.len];exact a);have L:=fun R=>sG (S0:=S0) (m:=m) (W:=W) (b3:=b3) (b4:=b4) (Z:=Z) R x;have H:=fun R=>sG (S0:=S0) (m:=m) (W:=W) (b3:=b3) (b4:=b4) (Z:=Z) R u;have e3:=aPw (W.getD i 0) (D.getD i 0);have I:=aPv (g.get i) (wC (W.getD i 0) (D.getD i 0));have l:=aIu (g.get i) (wC (W.getD i 0) (D.getD i 0));have t:=aPu (W:=V) (i:=i) (U.getD i 0 ||| lS (W.getD i 0) (D.getD i 0)) (by rw[hV.len];exact a);have f:i+1<=(V.map uI).length:=by rw[L_,hV.len];omega
  obtain⟨V',d,b,z,o,G⟩:=aT3 J g r x u w b3 b4 Z B6 x0 h x4 x5 x7 x8 x11 x12 x13 x14 x15 x16 k (i+1) (V.set i (U.getD i 0 ||| lS (W.getD i 0) (D.getD i 0))) (j_ i) e_ A_ (hV.set i _ l);rw[show((i+1:Nat):Int)=(i:Int)+1 by omega]at z;simp only[uI]at y E s t f;refine⟨V',d,b,aE K _ _ t56L0.eq_1 ?_,o,fun q=>?_⟩
  .generalize hA:lS (W.getD i 0) (D.getD i 0)=A at *
   generalize hA2:W.getD i 0=A2 at *
   generalize hA3:D.getD i 0=A3 at *
   generalize hB:U.getD i 0=B at *
   generalize hC:B ||| A=C at *
   simp(disch:=omega)only[go_sem,F,y,E,s,L,H,e3,I,t,f,aC];exact X_ er z
  .rw[G q,aC1 (by rw[hV.len];exact a)];by_cases e:q=i;.subst e;rw[I_ A_,K_ rfl,K_ A_]
   .rw[I_ e];by_cases e2:i+1<=q/\q<m;.rw[K_ e2,K_ A_]
    .rw[I_ e2,I_ A_]
theorem bCc{m:Nat}{U W D V V0:Tc_}(f:WOK m U)(b:WOK m W)(a:WOK m D)(d:WOK m V)(h:∀q,V.getD q 0=if 0<=q/\q<m then U.getD q 0 ||| lS (W.getD q 0) (D.getD q 0)else V0.getD q 0)(r:Nat):bit V r=(bit U r||(bit W r&&!bit D r)):=by
 have z:∀ {X:Tc_},WOK m X->¬r / 64<m->X.getD (r / 64) 0=0:=fun c g=>by rw[List.getD,B5 (by rw[c.len];omega)];rfl
 unfold bit;by_cases e:r / 64<m;.rw[h,K_ ⟨I3 _,e⟩,O5,aLx _ _ _ (X6 _ C_)]
 .rw[z d e,z f e,z b e,z a e];simp
theorem bKf{α:Type}(g:Nat->α)(a:Th_)(i x:Nat):upd (fun j=>g (a j)) i (g x)=fun j=>g (upd a i x j):=by funext j;unfold upd;split<;>rfl
theorem bQk{S0:aA}{f:VF}{lb:Td_}{n m:Nat}{p y:Th_}{I O:Te_}(c:FlS S0 f lb n m p y I O)(hm:(f.regs+63) / 64=m)(hr:f.regs<=1000000)(hn:n<=1000000)(P:f.ins.length=n)(Y:aL0 lb f.ins){i:Nat}(o:i<n) {w u:Nat} {U D:Tc_} (hU:WOK m U) (hD:WOK m D) (gU:S0[w]?=some (.cells 0 false (U.map uI))) (gD:S0[u]?=some (.cells 0 false (D.map uI))): ∃(S':aA) (A B:Tc_) (a b:Nat),(lim K).call 56 [.ptr 3 65 0,j_ i,.msl w 0 0 m m 1,.msl u 0 0 m m 1] S0=.ret (.iv (.bool (!decide (A=I i))),S')/\FlS S' f lb n m (upd p i a) (upd y i b) (upd I i A) (upd O i B)/\WOK m A/\WOK m B /\(∀r,bit B r=(bhd lb f.ins i).any fun k=>bit (I k) r)/\(∀r,bit A r=(bit U r||(bit B r&&!bit D r)))/\bL [1,2] S0 S':=by
 have s:m<=100000:=A_;obtain⟨c0,q⟩:=c.lab;have h6:=c.len;have l:=fun S=>aC2 hr .nil [] B_ B_ S;rw[qK,hm]at l;obtain⟨W0,e0,N,Q⟩:=l (S0++[.cells 58 false [.ptr 3 65 0]]);have e1:=bQj i (S0++[.cells 58 false [.ptr 3 65 0]]++[.cells 0 false (W0.map uI)]++[.cells 93 false [.msl (S0.length+1) 0 0 m m 1]]);simp only[n_,A7,A9,List.cons_append,List.nil_append,G3,Nat.reduceAdd]at e0 e1;obtain⟨W,B6,e2,z,T⟩:=bKa c s hn P Y o (.ptr 3 65 0) (j_ i) (.msl w 0 0 m m 1) (.msl u 0 0 m m 1) z_ u_ u_ u_ u_ u_ (.fn 113 [] [.ptr (S0.length+3) 58 0,.ptr (S0.length+4) 4 0]) u_ u_ u_ u_ u_ u_ u_ W0 N;have h0:(lim K).call 113 [.yld (S0.length+5),.ptr (S0.length+3) 58 0,.ptr (S0.length+4) 4 0] (S0++[.cells 58 false [.ptr 3 65 0],.cells 0 false (W0.map uI),.cells 93 false [.msl (S0.length+1) 0 0 m m 1],.cells 58 false [.ptr 3 65 0],.cells 4 false [j_ i],
   .lp .ready none [.ptr 3 65 0,j_ i,.msl w 0 0 m m 1,.msl u 0 0 m m 1,.ptr S0.length 58 0,z_,.ptr (S0.length+2) 93 0,u_,u_,u_,u_,u_,.fn 113 [] [.ptr (S0.length+3) 58 0,.ptr (S0.length+4) 4 0],u_,u_,u_,u_,u_,u_,u_] [13] (.region [⟨.mov (.loc 13),(some 7),none⟩]) (.block 1 (.seq (.region [⟨.load1 (.loc 6),none,none⟩,⟨.len .sl (.reg 0),(some 14),none⟩,⟨.mov (.cst (.int .i64 0)),(some 15),none⟩]) (.block 2 (.loop t56L1))))])=_:=e2
 clear e2;have t:∀r,bit W0 r=false:=fun r=>by
  cases h:bit W0 r with
  |false=>rfl
  |true=>have:=(Q r).1 h;simp at this
 generalize hE:rE S0.length (.ptr 3 65 0) (j_ i) (.msl w 0 0 m m 1) (.msl u 0 0 m m 1) z_ u_ u_ u_ u_ u_ (.fn 113 [] [.ptr (S0.length+3) 58 0,.ptr (S0.length+4) 4 0]) u_ u_ u_ u_ u_ u_ u_=E at *
 obtain⟨V0,e3,J,_⟩:=l (gS S0 m W (.cells 58 false [.ptr 3 65 0]) (.cells 4 false [j_ i]) (.lp .exhausted none E [13] rA rB) [B6]);rw[aP3,bCb]at e3;simp only[List.length_cons,List.length_nil,A7,Nat.reduceAdd,List.cons_append,List.nil_append]at e3;obtain⟨V,h5,h4,l1,C,h2⟩:=aT3 (S0:=S0) s hU hD gU gD z (.cells 58 false [.ptr 3 65 0]) (.cells 4 false [j_ i]) (.lp .exhausted none E [13] rA rB) B6 (.ptr 3 65 0) (j_ i) (.ptr S0.length 58 0) z_ u_ u_ u_ (.fn 113 [] [.ptr (S0.length+3) 58 0,.ptr (S0.length+4) 4 0]) u_ u_ u_ u_ m 0 V0 u_ u_ A_ J;rw[n0_]at l1;have gI:=fun R=>sG (S0:=S0) (m:=m) (W:=W) (b3:=.cells 58 false [.ptr 3 65 0]) (b4:=.cells 4 false [j_ i]) (Z:=.lp .exhausted none E [13] rA rB) R (c.inn.set i o);have g1:=fun R=>sG (S0:=S0) (m:=m) (W:=W) (b3:=.cells 58 false [.ptr 3 65 0]) (b4:=.cells 4 false [j_ i]) (Z:=.lp .exhausted none E [13] rA rB) R c.inn.row;have g2:=fun R=>sG (S0:=S0) (m:=m) (W:=W) (b3:=.cells 58 false [.ptr 3 65 0]) (b4:=.cells 4 false [j_ i]) (Z:=.lp .exhausted none E [13] rA rB) R c.out.row;have G:=fun R=>sG (S0:=S0) (m:=m) (W:=W) (b3:=.cells 58 false [.ptr 3 65 0]) (b4:=.cells 4 false [j_ i]) (Z:=.lp .exhausted none E [13] rA rB) R c.flw;have H:=fun L=>aR c.flw L;have h1:=bQe (a:=S0.length+7) (b:=p i) (m:=m) A_ (aIx (S0:=S0) (m:=m) (W:=W) (b3:=.cells 58 false [.ptr 3 65 0]) (b4:=.cells 4 false [j_ i]) (Z:=.lp .exhausted none E [13] rA rB) (a:=B6) (b:=.cells 0 false (V.map uI)) []) (gI _) C.len (c.inn.ok i o).len;have i1:=fun j=>iO (j:=j) (v:=0) (cap:=n) o;have s1:=dS (fun i=>TV.msl (p i) 0 0 m m 1) o;have p1:=lC (fun i=>TV.msl (p i) 0 0 m m 1) (.msl (S0.length+7) 0 0 m m 1) o;have p2:=lC (fun i=>TV.msl (y i) 0 0 m m 1) (.msl (S0.length+1) 0 0 m m 1) o;rw[bKf (fun x=>TV.msl x 0 0 m m 1)]at p1 p2;have q2:=fun X R=>(aB (i:=1) (j:=2) C_ X).trans (g2 R);have q3:=fun X R=>(aB (i:=1) (j:=S0.length+2) A_ X).trans (aT2 (S0:=S0) (m:=m) (W:=W) (b3:=.cells 58 false [.ptr 3 65 0]) (b4:=.cells 4 false [j_ i]) (Z:=.lp .exhausted none E [13] rA rB) R);have F:(gS S0 m W (.cells 58 false [.ptr 3 65 0]) (.cells 4 false [j_ i]) (.lp .exhausted none E [13] rA rB) [B6,.cells 0 false (V.map uI)])=S0++(.cells 58 false [.ptr 3 65 0]::.cells 0 false (W.map uI)::.cells 93 false [.msl (S0.length+1) 0 0 m m 1]::.cells 58 false [.ptr 3 65 0]::.cells 4 false [j_ i]::.lp .exhausted none E [13] rA rB::[B6,.cells 0 false (V.map uI)]):=rfl;have g:(gS S0 m W (.cells 58 false [.ptr 3 65 0]) (.cells 4 false [j_ i]) (.lp .exhausted none E [13] rA rB) [B6,.cells 0 false (V.map uI)]).length=S0.length+8:=by rw[aP3];rfl
 refine⟨((gS S0 m W (.cells 58 false [.ptr 3 65 0]) (.cells 4 false [j_ i]) (.lp .exhausted none E [13] rA rB) [B6,.cells 0 false (V.map uI)]).set 1 (.cells 0 false (cF n fun j=>.msl (upd p i (S0.length+7) j) 0 0 m m 1))).set 2 (.cells 0 false (cF n fun j=>.msl (upd y i (S0.length+1) j) 0 0 m m 1)),V,W,S0.length+7,S0.length+1,aI K _ (fn:=t56) rfl rfl ?_,?_,C,z,fun r=>by rw[T r,t r,G7],bCc hU z hD C h2,?_⟩;.simp(disch:=omega)only[t56,go_sem,n_,A9,G3,H,G,e0,e1,h0,e3];rw[l1];simp(disch:=omega)only[go_sem,G,i1,g1,g2,s1,h1,p1,p2,q2,q3]
 .refine⟨⟨c0,?_⟩,⟨?_,?_,?_,?_⟩,⟨?_,?_,?_,?_⟩,?_,?_⟩;.rw[aB C_,aB C_,F];exact aR q _
  .rw[aB C_,aM (by rw[g];omega)]
  .intro j d;unfold upd;split;.omega
   .exact c.inn.ge j d
  .intro j d;by_cases e:j=i;.subst e;rw[bU,bU,aB A_,aB A_,aIx]
   .rw[dB _ _ e,dB _ _ e];have h7:=c.inn.ge j d;rw[aB A_,aB A_,F];exact aR (c.inn.set j d) _
  .intro j d;unfold upd;split;.exact C
   .exact c.inn.ok j d
  .rw[aM (by rw[F6,g];omega)]
  .intro j d;unfold upd;split;.omega
   .exact c.out.ge j d
  .intro j d;by_cases e:j=i;.subst e;rw[bU,bU,aB A_,aB A_,aT1]
   .rw[dB _ _ e,dB _ _ e];have h7:=c.out.ge j d;rw[aB A_,aB A_,F];exact aR (c.out.set j d) _
  .intro j d;unfold upd;split;.exact z
   .exact c.out.ok j d
  .rw[aB C_,aB C_];exact G _
  .rw[F6,F6,g];omega
 .have k1:bL [1,2] S0 (gS S0 m W (.cells 58 false [.ptr 3 65 0]) (.cells 4 false [j_ i]) (.lp .exhausted none E [13] rA rB) [B6,.cells 0 false (V.map uI)]):=by rw[F];exact bL.app _ _ _
  exact(k1.trans (bL.set _ B_ _)).trans (bL.set _ B_ _)
theorem bCd{α:Type}(l:List α)(p q:α->Bool)(h:∀x,q x=true->p x=true):(l.filter q).length<=(l.filter p).length:=by
 induction l with
 |nil=>exact O_ _
 |cons a l ih =>
  cases hq:q a with
  |true=>rw[D0 hq,D0 (h a hq)];simpa using ih
  |false =>
   rw[E5 (by rw[hq];simp)];cases hp:p a with
   |true=>rw[D0 hp,List.length_cons];omega
   |false=>rw[E5 (by rw[hp];simp)];exact ih
theorem bQl{α:Type}(l:List α)(p q:α->Bool)(h:∀x,q x=true->p x=true){y:α}(b:y∈l)(e:p y=true)(d:q y=false):(l.filter q).length<(l.filter p).length:=by
 induction l with
 |nil=>cases b
 |cons a l ih =>
  rcases J_.1 b with rfl|b;.rw[D0 e,E5 (by rw[d];simp),List.length_cons];have:=bCd l p q h;omega
  .have c:=ih b;cases hq':q a with
   |true=>rw[D0 hq',D0 (h a hq')];simpa using c
   |false =>
    rw[E5 (by rw[hq'];simp)];cases hp':p a with
    |true=>rw[D0 hp',List.length_cons];omega
    |false=>rw[E5 (by rw[hp'];simp)];exact c
def aP4(n m:Nat):List (Nat×Nat):=(List.range n).flatMap fun i=>(List.range (64*m)).map fun r=>(i,r)
theorem aP5(n m i r:Nat):(i,r)∈aP4 n m↔i<n/\r<64*m:=by
 simp only[aP4,H7,C5,A0,B7];constructor;.rintro⟨a,d,b,f,rfl,rfl⟩;exact⟨d,f⟩
 .rintro⟨c,e⟩;exact⟨i,c,r,e,rfl,rfl⟩
def aIy(n m:Nat)(I:Nat->List Nat):Nat:=((aP4 n m).filter fun p=>!bit (I p.1) p.2).length
theorem bKg{m:Nat}{W:Tc_}(a:WOK m W){r:Nat}(b:64*m<=r):bit W r=false:=by unfold bit;rw[List.getD,B5 (by rw[a.len];omega)];exact Q7 _
theorem bCe{m:Nat}{W V:Tc_}(b:WOK m W)(c:WOK m V)(h:∀r,bit W r=bit V r):W=V:=by
 apply N3 (by rw[b.len,c.len]);intro q a e;apply Y5;intro j;by_cases hj:j<64;.have:=h (64*q+j);unfold bit at this;rw[show(64*q+j) / 64=q by omega,show(64*q+j) % 64=j by omega]at this;simpa only[List.getD,D_ a,D_ e,Option.getD_some] using this
 .have d:(18446744073709551616:Nat)<=2 ^ j:=O4 (n:=2) C_ (show 64<=j by omega);rw[P7 (E9 (b.lt _ (B8 a)) d),P7 (E9 (c.lt _ (B8 e)) d)]
theorem bKh{m:Nat}{W V:Tc_}(a:WOK m W)(b:WOK m V)(h:W≠V)(c:∀r,bit V r=true->bit W r=true):∃r,r<64*m/\bit W r=true/\bit V r=false:=by
 apply J7;intro d;apply h;refine bCe a b fun r=>?_;cases hw:bit W r with
 |false =>
  cases hv:bit V r with
  |false=>rfl
  |true=>rw[c r hv]at hw;cases hw
 |true =>
  cases hv:bit V r with
  |true=>rfl
  |false =>
   refine absurd ⟨r,?_,hw,hv⟩ d;rcases D2 r (64*m)with h1|h1;.exact h1
   .rw[bKg a h1]at hw;cases hw
def aBv(lb:List (Nat×Int×Int))(l:List VI)(I:Nat->List Nat)(i r:Nat):Bool:=(bhd lb l i).any fun k=>bit (I k) r
def eqn(lb:List (Nat×Int×Int))(l:List VI)(U D I:Nat->List Nat)(i r:Nat):Bool:=bit (U i) r||(aBv lb l I i r&&!bit (D i) r)
inductive Lv (lb:List (Nat×Int×Int)) (l:List VI) (U D:Nat->List Nat) (r:Nat):Nat->Prop
 |use {i:Nat} (h:bit (U i) r=true):Lv lb l U D r i
 |step {i k:Nat} (hk:k∈bhd lb l i) (h:Lv lb l U D r k) (hd:bit (D i) r=false):Lv lb l U D r i
theorem bCf{lb:Td_}{l:List VI}{U D I I':Te_}(h:∀k r,bit (I k) r=true->bit (I' k) r=true)(i r:Nat)(a:eqn lb l U D I i r=true):eqn lb l U D I' i r=true:=by
 unfold eqn aBv at *
 rw[D3]at a |-;rcases a with a|a;.exact .inl a
 .rw[P_]at a |-;refine .inr ⟨?_,a.2⟩;obtain⟨k,b,c⟩:=E8.1 a.1;exact E8.2 ⟨k,b,h k r c⟩
theorem bQm{lb:Td_}{l:List VI}{U D I:Te_}(h:∀k r,bit (I k) r=true->Lv lb l U D r k)(i r:Nat)(a:eqn lb l U D I i r=true):Lv lb l U D r i:=by
 unfold eqn aBv at a;rw[D3,P_]at a;rcases a with a|⟨a,c⟩;.exact .use a
 .obtain⟨k,b,d⟩:=E8.1 a;exact .step b (h k r d) (by simpa using c)
structure aIz (lb:List (Nat×Int×Int)) (l:List VI) (U D I:Nat->List Nat):Prop where
 pre:∀i r,bit (I i) r=true->eqn lb l U D I i r=true
 snd:∀i r,bit (I i) r=true->Lv lb l U D r i
theorem bCg{I:Te_}{i:Nat}{A:Tc_}(h:∀r,bit (I i) r=true->bit A r=true)(k r:Nat)(a:bit (I k) r=true):bit (upd I i A k) r=true:=by
 unfold upd;split;.subst_vars;exact h r a
 .exact a
theorem aIz.upd{lb:Td_}{l:List VI}{U D I:Te_}(h:aIz lb l U D I){i:Nat}{A:Tc_}(b:∀r,bit A r=eqn lb l U D I i r):aIz lb l U D (upd I i A):=by
 have c:=bCg (I:=I) (i:=i) (A:=A) fun r a=>by rw[b];exact h.pre i r a
 refine⟨fun j r a=>?_,fun j r a=>?_⟩
 .refine bCf c j r ?_;unfold Proofs.YtehlgnfhkidgoaaGreatDoor.upd at a;split at a;.subst_vars;rw[<-b];exact a
  .exact h.pre j r a
 .unfold Proofs.YtehlgnfhkidgoaaGreatDoor.upd at a;split at a;.subst_vars;rw[b]at a;exact bQm h.snd _ r a
  .exact h.snd j r a
theorem bKi{n m:Nat}{I I':Te_}(h:∀k r,bit (I k) r=true->bit (I' k) r=true):aIy n m I'<=aIy n m I:=by
 refine bCd _ _ _ fun p a=>?_;simp only[D7]at a |-;cases hb:bit (I p.1) p.2 with
 |false=>rfl
 |true=>rw[h _ _ hb]at a;cases a
theorem bKj{n m:Nat}{I I':Te_}(h:∀k r,bit (I k) r=true->bit (I' k) r=true){i r:Nat}(e:i<n)(c:r<64*m)(b:bit (I' i) r=true)(d:bit (I i) r=false):aIy n m I'<aIy n m I:=by
 refine bQl _ _ _ (fun p a=>?_) ((aP5 n m i r).2 ⟨e,c⟩) (by simp[d]) (by simp[b]);simp only[D7]at a |-;cases hb:bit (I p.1) p.2 with
 |false=>rfl
 |true=>rw[h _ _ hb]at a;cases a
theorem RS.keep{S S':aA}{j n m:Nat}{b:Th_}{I:Te_}(h:RS S j n m b I)(k:bL [1,2] S S')(c:j∉[1,2]):RS S' j n m b I :=
 ⟨k.get _ _ c h.row,h.ge,fun i a=>k.get _ _ (by have:=h.ge i a;simp;omega) (h.set i a),h.ok⟩
structure Rd (lb:List (Nat×Int×Int)) (l:List VI) (n m:Nat) (U D I0 I O:Nat->List Nat) (i:Nat) (ch:Bool):Prop where
 grow:aIz lb l U D I
 more:aIy n m I<=aIy n m I0
 yes:ch=true->aIy n m I<aIy n m I0
 no:ch=false->I=I0/\∀j,i<=j->j<n->(∀r,bit (I j) r=eqn lb l U D I j r)/\∀r,bit (O j) r=aBv lb l I j r
theorem Rd.step{lb:Td_}{l:List VI}{n m:Nat}{U D I0 I O:Te_}{i:Nat}{o:Bool}(h:Rd lb l n m U D I0 I O (i+1) o)(u:i<n){A B:Tc_}(x:WOK m A)(w:WOK m (I i))(t:∀r,bit B r=aBv lb l I i r)(a:∀r,bit A r=eqn lb l U D I i r): Rd lb l n m U D I0 (upd I i A) (upd O i B) i (!decide (A=I i)||o):=by
 have b:∀r,bit (I i) r=true->bit A r=true:=fun r s=>by rw[a];exact h.grow.pre i r s
 have c:=bCg (I:=I) (i:=i) (A:=A) b;have z:=bKi (n:=n) (m:=m) c;by_cases e:A=I i
 .have p:upd I i A=I:=by funext j;unfold upd;split<;>simp_all
  rw[V_ e,E7,G7,p];refine⟨h.grow,h.more,h.yes,fun d=>?_⟩;obtain⟨g,f⟩:=h.no d;refine⟨g,fun j y k=>?_⟩;by_cases ej:j=i;.subst ej;rw[bU];exact⟨fun r=>by rw[<-e];exact a r,t⟩
  .rw[dB _ _ ej];exact f j A_ k
 .rw[l_ e,P5,G2];obtain⟨r,v,g,f⟩:=bKh x w e b;have q:=bKj (n:=n) (m:=m) c u v (by rw[bU];exact g) f;refine⟨h.grow.upd a,by have:=h.more;omega,fun _=>by have:=h.more;omega,fun d=>by cases d⟩
theorem aT4{f:VF}{lb:Td_}{n m:Nat}{U D I0:Te_}{Q N:Th_}(W:(f.regs+63) / 64=m)(hr:f.regs<=1000000)(hn:n<=1000000)(u:f.ins.length=n)(w:aL0 lb f.ins)(x0 J x2 G x4 x5 x9 x10 x11 x12 x15 x16 l k g p e:TV):∀(i:Nat) (S:aA) (C z:Th_) (I O:Te_) (t:Bool) (s:TV),i<=n ->FlS S f lb n m C z I O->RS S 4 n m Q U->RS S 5 n m N D->Rd lb f.ins n m U D I0 I O i t ->∃(S':aA) (h q:Th_) (I' O':Te_) (d:Bool) (o:TV),lp' (lim K) t31L0 [x0,J,x2,G,x4,x5,.ptr 3 65 0,.msl 4 0 0 n n 1,.msl 5 0 0 n n 1,x9,x10,x11,x12,.iv (.bool t),j_ ((i:Int)-1),x15,x16,l,k,g,p,e,s] S = .ret (.exit 4,[x0,J,x2,G,x4,x5,.ptr 3 65 0,.msl 4 0 0 n n 1,.msl 5 0 0 n n 1,x9,x10,x11,x12,.iv (.bool d),j_ (-1),x15,x16,l,k,g,p,e,o],S') /\FlS S' f lb n m h q I' O'/\RS S' 4 n m Q U/\RS S' 5 n m N D/\Rd lb f.ins n m U D I0 I' O' 0 d
 |0,S,C,z,I,O,t,s,hi,hF,hU,hD,hR=>by refine⟨S,C,z,I,O,t,z_,aE K _ _ t31L0.eq_1 ?_,hF,hU,hD,hR⟩;rw[show((0:Nat):Int)-1 = -1 from rfl];simp(disch:=omega)only[go_sem]
 |i+1,S,C,z,I,O,t,s,hi,hF,hU,hD,hR=>by
  have c:i<n:=A_;obtain⟨S1,A,B,a,b,y,L,hA,hB,x,R,Y⟩:=bQk hF W hr hn u w c (hU.ok i c) (hD.ok i c) (hU.set i c) (hD.set i c);have H:=hR.step c hA (hF.inn.ok i c) (B:=B) x (fun r=>by rw[R r,x r];rfl);have F:=hU.keep Y B_;have P:=hD.keep Y B_;have T:=fun j=>iO (j:=j) (v:=0) (cap:=n) c;have s1:=dS (fun i=>TV.msl (Q i) 0 0 m m 1) c;have s2:=dS (fun i=>TV.msl (N i) 0 0 m m 1) c;have Z:=hU.row;have V:=hD.row;rw[show(((i+1:Nat):Int)-1)=(i:Int) by omega];generalize (!decide (A=I i))=bb at *
  obtain⟨S',h,q,I',O',d,o,E,hx⟩:=aT4 W hr hn u w x0 J x2 G x4 x5 x9 x10 x11 x12 x15 x16 l k g p e i S1 _ _ _ _ (bb||t) e_ A_ L F P H;refine⟨S',h,q,I',O',d,o,aE K _ _ t31L0.eq_1 ?_,hx⟩;cases bb with
  |true =>rw[G2]at E;simp(disch:=omega)only[go_sem,T,Z,V,s1,s2,y,aC];exact X_ er E
  |false =>rw[G7]at E;simp(disch:=omega)only[go_sem,T,Z,V,s1,s2,y,aC];exact X_ er E
theorem aT5{f:VF}{lb:Td_}{n m:Nat}{U D:Te_}{P L:Th_}(J:(f.regs+63) / 64=m)(N:f.regs<=1000000)(Q:n<=1000000)(y:f.ins.length=n)(A:aL0 lb f.ins)(x0 s x2 p x4 x9 x10 x11 x12 x15 x16 c b a e:TV):∀(q:Nat) (S:aA) (G E:Th_) (I O:Te_) (x14 u o:TV),aIy n m I<=q ->FlS S f lb n m G E I O->RS S 4 n m P U->RS S 5 n m L D->aIz lb f.ins U D I ->∃(S':aA) (i l:Th_) (I' O':Te_) (k g d:TV),lp' (lim K) t31L1 [x0,s,x2,p,x4,j_ n,.ptr 3 65 0,.msl 4 0 0 n n 1,.msl 5 0 0 n n 1,x9,x10,x11,x12,e_,x14,x15,x16,c,b,a,e,u,o] S = .ret (.exit 2,[x0,s,x2,p,x4,j_ n,.ptr 3 65 0,.msl 4 0 0 n n 1,.msl 5 0 0 n n 1,x9,x10,x11,x12,z_,k,x15,x16,c,b,a,e,g,d],S') /\FlS S' f lb n m i l I' O'/\RS S' 4 n m P U/\RS S' 5 n m L D/\aIz lb f.ins U D I'/\∀j,j<n->(∀r,bit (I' j) r=eqn lb f.ins U D I' j r)/\∀r,bit (O' j) r=aBv lb f.ins I' j r
 |q,S,G,E,I,O,x14,u,o,hq,hF,hU,hD,hG=>by
  obtain⟨S1,w,z,I1,O1,T,d,R,v,t,x,C⟩:=aT4 (I0:=I) J N Q y A x0 s x2 p x4 (j_ n) x9 x10 x11 x12 x15 x16 c b a e e_ n S G E I O false o (O_ _) hF hU hD ⟨hG,O_ _,(fun h=>by cases h),fun _=>⟨rfl,fun j Y H=>A_⟩⟩;cases T with
  |false =>
   obtain⟨Y,H⟩:=C.no rfl;refine⟨S1,w,z,I1,O1,j_ (-1),z_,d,?_,v,t,x,C.grow,fun j V=>H j (I3 _) V⟩;have l2:lp' (lim K) t31L1 [x0,s,x2,p,x4,j_ n,.ptr 3 65 0,.msl 4 0 0 n n 1,.msl 5 0 0 n n 1,x9,x10,x11,x12,z_,j_ (-1),x15,x16,c,b,a,e,e_,d] S1=.ret (.exit 2,[x0,s,x2,p,x4,j_ n,.ptr 3 65 0,.msl 4 0 0 n n 1,.msl 5 0 0 n n 1,x9,x10,x11,x12,z_,j_ (-1),x15,x16,c,b,a,e,z_,d],S1):=by refine aE K _ _ t31L1.eq_1 ?_;simp(disch:=omega)only[go_sem]
   refine aE K _ _ t31L1.eq_1 ?_;simp(disch:=omega)only[go_sem,aC];rw[R];simp(disch:=omega)only[go_sem];exact X_ er l2
  |true =>
   have W:=C.yes rfl;match q,hq with
   |0,hq=>omega
   |q+1,hq =>obtain⟨S',i,l,I',O',k,g,F,ih,Z⟩:=aT5 J N Q y A x0 s x2 p x4 x9 x10 x11 x12 x15 x16 c b a e q S1 w z I1 O1 (j_ (-1)) e_ d A_ v t x C.grow;refine⟨S',i,l,I',O',k,g,F,aE K _ _ t31L1.eq_1 ?_,Z⟩;simp(disch:=omega)only[go_sem,aC];rw[R];simp(disch:=omega)only[go_sem];exact X_ er ih
theorem bKk(v:VI)(h:(15<=v.op/\v.op<=22)\/v.op=24\/v.op=64\/v.op=74):∃e,cB e (bF v)/\TM.Pure K 42 [.iv (.agg (aJ v))] (.iv (.sl e (TM.one (.int .i64) (bF v)))):=by
 have f:bF v=tdy [v.a]:=by unfold bF;rw[I_ A_,K_ A_]
 rw[f];have g:([.cells 0 false [vI v.a]]:aA)[0]?=some (.cells 0 false ([v.a].map vI++[])):=rfl;obtain⟨J,d⟩:=yZ B_ (cap:=1) B_ g (jM [v.a]);have c:=aC7 v.op;rw[l_ A_]at c;refine⟨.no,aGw _,gQ (S:=[.cells 0 false ((tdy [v.a]).map vI++J)]) (aI K _ (fn:=t42) rfl rfl ?_) (lE (j:=0) (v:=0) (b:=false) (J:=J) rfl 1)⟩;simp only[vI,List.length_cons,List.length_nil,List.set_cons_zero,A7,Nat.reduceAdd]at d;rcases h with h|h|h|h<;>simp(disch:=omega)only[t42,go_sem,aJ,Q_,C3,d,aD c]
theorem bKl(v:VI)(h:v.op<1\/v.op=23\/(32<=v.op/\v.op<=63)\/v.op=65\/v.op=66\/v.op=69\/v.op=70\/v.op=71\/v.op=73\/74<v.op):∃b,cB b (bF v)/\TM.Pure K 42 [.iv (.agg (aJ v))] (.iv (.sl b (TM.one (.int .i64) (bF v)))):=by
 have c:bF v=[]:=by unfold bF;rw[I_ A_,I_ A_,I_ A_]
 rw[c];have a:=aC7 v.op;rw[l_ A_]at a;refine⟨.nil,cB.nil,aT t42 rfl rfl ?_⟩;rcases h with h|h|h|h|h|h|h|h|h|h<;>simp(disch:=omega)only[t42,go_sem,aJ,Q_,C3,aD a]<;>rfl
theorem bKm(v:VI)(l:v.us.length<=999990)(k:cB v.tu v.us)(h:v.op=67\/v.op=68\/v.op=72):∃g,cB g (bF v)/\TM.Pure K 42 [.iv (.agg (aJ v))] (.iv (.sl g (TM.one (.int .i64) (bF v)))):=by
 have i:bF v=tdy (v.us++[26]):=by unfold bF;rw[I_ A_,I_ A_,K_ h]
 rw[i];have c:=aC7 v.op;rw[l_ A_]at c;rcases aP2 v.tu v.us k A_ []with⟨hu0,t0,ht0,c23⟩|⟨hu0,c23⟩;.rw[hu0]at c23 |-;have d:=aLz (S:=[]) 26 ht0 .full;have f:([.cells 0 true [vI 26]]:aA)[0]?=some (.cells 0 true ([(26:Int)].map vI++[])):=rfl;obtain⟨J,a⟩:=yZ B_ (cap:=1) B_ f (jM [(26:Int)]);refine⟨.no,aGw _,gQ (S:=[.cells 0 true ((tdy [(26:Int)]).map vI++J)]) (aI K _ (fn:=t42) rfl rfl ?_) (lE (j:=0) (v:=0) (b:=true) (J:=J) rfl 1)⟩;simp only[vI,List.length_cons,List.length_nil,List.set_cons_zero,A7,Nat.reduceAdd,List.nil_append]at a d;rcases h with h|h|h<;>simp(disch:=omega)only[t42,go_sem,aJ,Q_,C3,hu0,c23,d,a,aD c]
 .have e:([.cells 0 true (v.us.map vI)]:aA)[0]?=some (.cells 0 true (v.us.map vI)):=rfl;have d:=aP1 (S:=[.cells 0 true (v.us.map vI)]) true 26 e A_ .full;have f:([.cells 1 true ((v.us++[26]).map vI)]:aA)[0]?=some (.cells 1 true ((v.us++[(26:Int)]).map vI++[])):=B_;obtain⟨J,a⟩:=yZ (by simp;omega) (cap:=v.us.length+1) B_ f (jM (v.us++[(26:Int)]));refine⟨.no,aGw _,gQ (S:=[.cells 1 true ((tdy (v.us++[(26:Int)])).map vI++J)]) (aI K _ (fn:=t42) rfl rfl ?_) (lE (j:=0) (v:=1) (b:=true) (J:=J) rfl (v.us.length+1))⟩;rw[H_,List.length_singleton]at a;simp only[List.set_cons_zero,A7,List.nil_append,List.length_nil]at a d c23;rcases h with h|h|h<;>simp(disch:=omega)only[t42,go_sem,aJ,Q_,C3,c23,d,a,aD c]
theorem bCh(v:VI)(b:v.us.length<=999990)(c:cB v.tu v.us):∃a,cB a (bF v)/\TM.Pure K 42 [.iv (.agg (aJ v))] (.iv (.sl a (TM.one (.int .i64) (bF v)))):=by
 by_cases h1:(1<=v.op/\v.op<=14)\/v.op=25\/(26<=v.op/\v.op<=31)
 .exact bJ4 v h1
 .by_cases h2:(15<=v.op/\v.op<=22)\/v.op=24\/v.op=64\/v.op=74;.exact bKk v h2
  .by_cases h3:v.op=67\/v.op=68\/v.op=72;.exact bKm v b c h3
   .exact bKl v A_
theorem bCi(d:Int)(b:aG)(x0 g x2 x5 x6 x7:TV):∀(k i:Nat) (x4 x9:TV),i+k=25->1<=i ->∃c e,lp' (lim K) t43L0 [x0,g,x2,.msl 1 (i-1) 0 (3+i) (3+i) 1,x4,x5,x6,x7,j_ (i:Int),x9] [b,.cells (i-1) true (([d,26,31]++dP.take i).map vI)] = .ret (.exit 1,[x0,g,x2,.msl 1 24 0 28 28 1,c,x5,x6,x7,j_ 25,e],[b,.cells 24 true (([d,26,31]++dP.take 25).map vI)])
 |0,i,x4,x9,h,hi=>by obtain rfl:i=25:=A_;refine⟨x4,z_,aE K _ _ t43L0.eq_1 ?_⟩;simp(disch:=omega)only[go_sem];rfl
 |k+1,i,x4,x9,h,hi=>by
  have a:([d,26,31]++dP.take i).length=3+i:=by simp[dP];omega
  have f:=aP1 (S:=[b,.cells (i-1) true (([d,26,31]++dP.take i).map vI)]) (j:=1) false ((i:Int)+1) rfl A_ .full;have m:([d,26,31]++dP.take i)++[(i:Int)+1]=[d,26,31]++dP.take (i+1):=by rw[iR (by simp[dP];omega),<-A9];congr 2;simp[dP,List.getD,show i<26 by omega]
  rw[m,a,show i-1+1=i by omega]at f;obtain⟨c,e,l⟩:=bCi d b x0 g x2 x5 x6 x7 k (i+1) (j_ i) e_ A_ A_;rw[show((i+1:Nat):Int)=(i:Int)+1 by omega,show i+1-1=i by omega,show 3+(i+1)=3+i+1 by omega]at l;refine⟨c,e,aE K _ _ t43L0.eq_1 ?_⟩;simp only[List.set_cons_succ,List.set_cons_zero]at f;generalize hX:([d,26,31]++dP.take i).map vI=X at *
  simp(disch:=omega)only[go_sem,f,aC];exact X_ er l
theorem bKn(d:Int)(x0 c x2 x4 x5 x6 x7 x9:TV) : ∃a b,lp' (lim K) t43L0 [x0,c,x2,.msl 0 0 0 3 3 1,x4,x5,x6,x7,j_ 0,x9] [.cells 0 false ([d,26,31].map vI)] = .ret (.exit 1,[x0,c,x2,.msl 1 24 0 28 28 1,a,x5,x6,x7,j_ 25,b],[.cells 0 false ([d,26,31].map vI),.cells 24 true (([d,26,31]++dP.take 25).map vI)]):=by
 have e:=bJ2 (S:=[.cells 0 false ([d,26,31].map vI)]) (j:=0) (C:=[d,26,31]) false 1 rfl B_ .full;obtain⟨a,b,f⟩:=bCi d (.cells 0 false ([d,26,31].map vI)) x0 c x2 x5 x6 x7 24 1 (j_ 0) e_ A_ A_;refine⟨a,b,aE K _ _ t43L0.eq_1 ?_⟩;rw[show((1:Nat):Int)=1 from rfl,show 1-1=0 from rfl,show 3+1=4 from rfl,show dP.take 1=[1] by decide]at f;simp only[List.length_cons,List.length_nil,A7,Nat.reduceAdd,List.cons_append,List.nil_append]at e;generalize hX:[d,26,31].map vI=X at *
 have g:IntKind.i64.wrap 1=1:=C_;simp(disch:=omega)only[go_sem,g,e];exact X_ er f
theorem bKo(v:VI)(h:(1<=v.op/\v.op<=24)\/v.op=64\/v.op=69\/v.op=70\/v.op=71\/v.op=73):∃c,cB c (aY v)/\TM.Pure K 43 [.iv (.agg (aJ v))] (.iv (.sl c (TM.one (.int .i64) (aY v)))):=by
 have e:aY v=tdy [v.d]:=by unfold aY;rw[K_ A_]
 rw[e];have f:([.cells 0 false [vI v.d]]:aA)[0]?=some (.cells 0 false ([v.d].map vI++[])):=rfl;obtain⟨J,a⟩:=yZ B_ (cap:=1) B_ f (jM [v.d]);refine⟨.no,aGw _,gQ (S:=[.cells 0 false ((tdy [v.d]).map vI++J)]) (aI K _ (fn:=t43) rfl rfl ?_) (lE (j:=0) (v:=0) (b:=false) (J:=J) rfl 1)⟩;simp only[vI,List.length_cons,List.length_nil,List.set_cons_zero,A7,Nat.reduceAdd]at a;rcases h with h|h|h|h|h|h<;>simp(disch:=omega)only[t43,go_sem,aJ,Q_,C3,a]
theorem bKp(v:VI)(h:v.op<1\/(25<=v.op/\v.op<=63)\/v.op=65\/v.op=66\/v.op=68\/v.op=72\/73<v.op):∃a,cB a (aY v)/\TM.Pure K 43 [.iv (.agg (aJ v))] (.iv (.sl a (TM.one (.int .i64) (aY v)))):=by
 have b:aY v=[]:=by unfold aY;rw[I_ A_,I_ A_]
 rw[b];refine⟨.nil,cB.nil,aT t43 rfl rfl ?_⟩;rcases h with h|h|h|h|h|h|h<;>simp(disch:=omega)only[t43,go_sem,aJ,Q_,C3]<;>rfl
theorem bKq(v:VI)(h:v.op=67):∃l,cB l (aY v)/\TM.Pure K 43 [.iv (.agg (aJ v))] (.iv (.sl l (TM.one (.int .i64) (aY v)))):=by
 have m:bQc ([v.d,26,31]++dP.take 25) (aY v):=by
  unfold aY;rw[I_ A_,K_ h];have t:=jM (dP++[31,v.d]);refine⟨t.rise,fun x=>(t.mem x).trans ?_⟩;have i:∀x:Int,x∈dP↔x=26\/x∈dP.take 25:=by
   intro x;have e:dP=dP.take 25++[26]:=C_;conv=>lhs;rw[e]
   simp only[a_,U_];constructor<;>(rintro(h|h)<;>simp[h])
  simp only[a_,J_,D5,I4,i];constructor
  .rintro⟨a,g⟩;refine⟨?_,g⟩;rcases a with(a|a)|a|a;.exact .inl (.inr (.inl a))
   .exact .inr a
   .exact .inl (.inr (.inr a))
   .exact .inl (.inl a)
  .rintro⟨a,g⟩;refine⟨?_,g⟩;rcases a with(a|a|a)|a;.exact .inr (.inr a)
   .exact .inl (.inl a)
   .exact .inr (.inl a)
   .exact .inl (.inr a)
 have f:([v.d,26,31]++dP.take 25).length=28:=by simp[dP]
 obtain⟨o,p,lo⟩:=bKn v.d (.iv (.agg (aJ v))) (.lb ((aJ v).map .iv)) k_ u_ z_ z_ e_ u_;rw[aS,cV]at lo;have n:([.cells 0 false ([v.d,26,31].map vI),.cells 24 true (([v.d,26,31]++dP.take 25).map vI)]:aA)[1]?=some (.cells 24 true (([v.d,26,31]++dP.take 25).map vI++[])):=by rw[A4];rfl
 obtain⟨J,c⟩:=yZ A_ (cap:=28) A_ n m;rw[f]at c;refine⟨.no,aGw _,gQ (S:=[.cells 0 false ([v.d,26,31].map vI),.cells 24 true ((aY v).map vI++J)]) (aI K _ (fn:=t43) rfl rfl ?_) (lE (j:=1) (v:=24) (b:=true) (J:=J) rfl 28)⟩;simp only[List.set_cons_succ,List.set_cons_zero]at c;simp(disch:=omega)only[t43,go_sem,aJ,Q_,C3];have k:[v.d,26,31].map vI=[TV.iv (.int .i64 v.d),j_ 26,j_ 31]:=rfl;generalize hX:([v.d,26,31]++dP.take 25).map vI=X at *
 rw[k]at lo c;rw[lo];simp(disch:=omega)only[go_sem,c];rfl
theorem aP6(v:VI):∃a,cB a (aY v)/\TM.Pure K 43 [.iv (.agg (aJ v))] (.iv (.sl a (TM.one (.int .i64) (aY v)))):=by
 by_cases h1:(1<=v.op/\v.op<=24)\/v.op=64\/v.op=69\/v.op=70\/v.op=71\/v.op=73;.exact bKo v h1
 .by_cases h3:v.op=67;.exact bKq v h3
  .exact bKp v A_
theorem aL1(l:Td_)(c:Nat)(k:Int):lkB (.leaf .int) (.agg [.int .i64 0]) true (some (.mp (mpR kC l) c)) (j_ k)=some (.tup [.iv (.agg [.int .i64 (lR l k)]),.iv (.bool (cG l k))]):=by rw[aAj];simp only[lR,cG];cases dK l k<;>rfl
def dL(l:List VI)(L:Int):Option Int:=(l.findIdx? fun x=>decide (x.op=65)&&decide (x.lb=L)).map fun k:Nat=>(k:Int)
theorem aL2(l:List VI)(x:VI)(L:Int):dL (l++[x]) L=match dL l L with
  |some k=>some k
  |none=>if x.op=65/\x.lb=L then some (l.length:Int)else none:=by
 unfold dL
 rw[Y1]
 cases h:l.findIdx? (fun x=>decide (x.op=65)&&decide (x.lb=L))with
 |some k=>simp
 |none =>
  by_cases e:x.op=65/\x.lb=L;.simp[e]
  .rw[I_ e];have:(decide (x.op=65)&&decide (x.lb=L))=false:=by
    cases h1:(decide (x.op=65)&&decide (x.lb=L))with
    |false=>rfl
    |true=>simp at h1;exact absurd h1 e
   simp[P0,this]
structure RP (S:aA) (j n m i:Nat) (ia:Nat->Nat) (I:Nat->List Nat):Prop where
 row:S[j]?=some (.cells 0 false (cF n fun q=>if q<i then .msl (ia q) 0 0 m m 1 else .iv (.sl .nil [])))
 ge:∀q,q<i->6<=ia q
 set:∀q,q<i->S[ia q]?=some (.cells 0 false ((I q).map uI))
 ok:∀q,q<i->WOK m (I q)
theorem RP.done{S:aA}{j n m:Nat}{a:Th_}{I:Te_}(h:RP S j n m n a I):RS S j n m a I:=by refine⟨?_,h.ge,h.set,h.ok⟩;rw[h.row];congr 2;apply R9;intro q b;rw[K_ (C5.1 b)]
def LOW:List Nat:=[0,1,2,4,5]
theorem RP.step{S S':aA}{j n m i:Nat}{b:Th_}{I:Te_}(h:RP S j n m i b I)(k:bL LOW S S'){a:Nat}{W:Tc_}(g:6<=a)(f:WOK m W)(d:S'[j]?=some (.cells 0 false (cF n (upd (fun q=>if q<i then .msl (b q) 0 0 m m 1 else k_) i (.msl a 0 0 m m 1)))))(l:S'[a]?=some (.cells 0 false (W.map uI))):RP S' j n m (i+1) (upd b i a) (upd I i W):=by
 refine⟨?_,fun q c=>?_,fun q c=>?_,fun q c=>?_⟩
 .rw[d];congr 3;funext q;unfold upd;by_cases e:q=i;.subst e;simp
  .by_cases e2:q<i;.rw[I_ e,I_ e];dsimp only;rw[K_ e2,K_ A_]
   .rw[I_ e];dsimp only;rw[I_ e2,I_ A_]
 .unfold upd;split;.exact g
  .exact h.ge q A_
 .by_cases e:q=i;.subst e;rw[bU,bU];exact l
  .rw[dB _ _ e,dB _ _ e];have:=h.ge q A_;exact k.get _ _ (by simp[LOW];omega) (h.set q A_)
 .unfold upd;split;.exact f
  .exact h.ok q A_
structure FP (S:aA) (f:VF) (lb:List (Nat×Int×Int)) (n m i:Nat) (ia oa ua da:Nat->Nat) (I O U D:Nat->List Nat):Prop where
 lab:∃c,S[0]?=some (.mp (mpR kC lb) c)
 lbs:∀L,dK lb L=dL (f.ins.take i) L
 inn:RP S 1 n m i ia I
 out:RP S 2 n m i oa O
 us:RP S 4 n m i ua U
 ds:RP S 5 n m i da D
 flw:S[3]?=some (.cells 65 false [.iv (.int .i64 f.fn),.iv (.int .i64 f.regs),.iv (.int .i64 f.sl),.iv (.int .i64 f.nd),.iv (.int .i64 f.pr),.iv (.bool f.rs),.iv (.sl f.ti (f.ins.map aJ)),.map 0,.msl 1 0 0 n n 1,.msl 2 0 0 n n 1])
 len:6<=S.length
 zer:∀q r,q<i->bit (I q) r=false
 use:∀q r,q<i->(bit (U q) r=true↔(r:Int)∈bF (f.ins.getD q default)/\r<f.regs)
 dfn:∀q r,q<i->(bit (D q) r=true↔(r:Int)∈aY (f.ins.getD q default)/\r<f.regs)
theorem aWq(v:VI):∀x∈bF v,0<=x:=by
 intro x a;unfold bF at a;repeat' split at a
 all_goals first|(have:=aIt a;omega)|cases a
theorem aWr(v:VI):∀x∈aY v,0<=x:=by
 intro x a;unfold aY at a;repeat' split at a
 all_goals first|(have:=aIt a;omega)|cases a
theorem aWs(v:VI):(bF v).length<=v.us.length+2:=by
 unfold bF;repeat' split
 .exact C0 (uJ _) B_
 .exact C0 (uJ _) B_
 .exact C0 (uJ _) B_
 .simp
theorem zA(v:VI):(aY v).length<=30:=by
 unfold aY;repeat' split
 .exact C0 (uJ _) B_
 .exact C0 (uJ _) (by simp[dP])
 .simp
def sH(T:aA)(r1 r2 r4 r5 cU cD cI cO:aG):aA:=((((T++[cU]++[cD]).set 4 r4).set 5 r5++[cI]++[cO]).set 1 r1).set 2 r2
theorem aI0{T:aA}(h g d c a b e f:aG)(j:6<=T.length):sH T h g d c a b e f=(((T.set 4 d).set 5 c).set 1 h).set 2 g++[a,b,e,f]:=by
 unfold sH;have i:T++[a]++[b]=T++[a,b]:=B_;have e2:((T++[a,b]).set 4 d).set 5 c=(T.set 4 d).set 5 c++[a,b]:=by rw[O3 _ _ A_,O3 _ _ (by rw[F6];omega)]
 have k:((T.set 4 d).set 5 c).length=T.length:=B_;rw[i,e2];generalize (T.set 4 d).set 5 c=X at *
 have e3:X++[a,b]++[e]++[f]=X++[a,b,e,f]:=B_;rw[e3,O3 _ _ A_,O3 _ _ (by rw[F6];omega)]
theorem aL3(T:aA)(h b g f a e c d:aG):(sH T h b g f a e c d).length=T.length+4:=by unfold sH;simp
theorem bCj{T:aA}(d a c b e h f g:aG)(i:6<=T.length):(sH T d a c b e h f g)[0]?=T[0]? /\ (sH T d a c b e h f g)[3]?=T[3]? /\ (sH T d a c b e h f g)[1]?=some d/\(sH T d a c b e h f g)[2]?=some a/\(sH T d a c b e h f g)[4]?=some c/\(sH T d a c b e h f g)[5]?=some b:=by
 rw[aI0 _ _ _ _ _ _ _ _ i];refine⟨?_,?_,?_,?_,?_,?_⟩<;>rw[Y_ (by simp;omega)];.rw[aB C_,aB C_,aB C_,aB C_]
 .rw[aB C_,aB C_,aB C_,aB C_]
 .rw[aB C_,aM (by simp;omega)]
 .rw[aM (by simp;omega)]
 .rw[aB C_,aB C_,aB C_,aM A_]
 .rw[aB C_,aB C_,aM (by simp;omega)]
theorem bCk{T:aA}(b a d c e h f g:aG)(i:6<=T.length):(sH T b a d c e h f g)[T.length]?=some e/\(sH T b a d c e h f g)[T.length+1]?=some h/\(sH T b a d c e h f g)[T.length+2]?=some f/\(sH T b a d c e h f g)[T.length+3]?=some g:=by
 rw[aI0 _ _ _ _ _ _ _ _ i];have j:((((T.set 4 d).set 5 c).set 1 b).set 2 a).length=T.length:=B_;generalize (((T.set 4 d).set 5 c).set 1 b).set 2 a=X at *
 rw[<-j];exact⟨gN0 ..,gN1 ..,gN2 ..,gN3 ..⟩
theorem aWt{T:aA}(g d l k c j f h:aG)(a:6<=T.length):bL LOW T (sH T g d l k c j f h):=by refine⟨by rw[aL3];omega,fun q b e i=>?_⟩;simp only[LOW,J_,D5,I4,H2]at e;rw[aI0 _ _ _ _ _ _ _ _ a];refine aR ?_ _;rw[aB A_,aB A_,aB A_,aB A_];exact i
def flB(f:VF)(n:Nat):aG:=.cells 65 false [.iv (.int .i64 f.fn),.iv (.int .i64 f.regs),.iv (.int .i64 f.sl),.iv (.int .i64 f.nd),.iv (.int .i64 f.pr),.iv (.bool f.rs),.iv (.sl f.ti (f.ins.map aJ)),.map 0,.msl 1 0 0 n n 1,.msl 2 0 0 n n 1]
theorem aWu{f:VF}{n m:Nat}(d:(f.regs+63) / 64=m)(e:f.regs<=1000000)(T:aA)(P:6<=T.length)(o k i j:Nat->TV)(E:T[1]?=some (aG.cells 0 false (cF n o)))(b2:T[2]?=some (aG.cells 0 false (cF n k)))(b4:T[4]?=some (aG.cells 0 false (cF n i)))(F:T[5]?=some (aG.cells 0 false (cF n j)))(b3:T[3]?=some (flB f n)) (q p:Tag) (U D:Ta_) (I:U.length<=2000000) (v:D.length<=2000000) (H:∀x∈U,0<=x) (A:∀x∈D,0<=x) (J L a b:aG): ∃WU WD WI WO:List Nat,(lim K).call 55 [j_ f.regs,.iv (.sl q (TM.one (.int .i64) U))] T=.ret (.msl T.length 0 0 m m 1,T++[aG.cells 0 false (WU.map uI)]) /\(lim K).call 55 [j_ f.regs,.iv (.sl p (TM.one (.int .i64) D))] (T++[aG.cells 0 false (WU.map uI)])=.ret (.msl (T.length+1) 0 0 m m 1,T++[aG.cells 0 false (WU.map uI)]++[aG.cells 0 false (WD.map uI)]) /\(lim K).call 55 [j_ f.regs,k_] (((T++[aG.cells 0 false (WU.map uI)]++[aG.cells 0 false (WD.map uI)]).set 4 a).set 5 b)=.ret (.msl (T.length+2) 0 0 m m 1,((T++[aG.cells 0 false (WU.map uI)]++[aG.cells 0 false (WD.map uI)]).set 4 a).set 5 b++[aG.cells 0 false (WI.map uI)]) /\(lim K).call 55 [j_ f.regs,k_] (((T++[aG.cells 0 false (WU.map uI)]++[aG.cells 0 false (WD.map uI)]).set 4 a).set 5 b++[aG.cells 0 false (WI.map uI)])=.ret (.msl (T.length+3) 0 0 m m 1,((T++[aG.cells 0 false (WU.map uI)]++[aG.cells 0 false (WD.map uI)]).set 4 a).set 5 b++[aG.cells 0 false (WI.map uI)]++[aG.cells 0 false (WO.map uI)]) /\(T++[aG.cells 0 false (WU.map uI)]++[aG.cells 0 false (WD.map uI)])[4]?=some (aG.cells 0 false (cF n i))/\((T++[aG.cells 0 false (WU.map uI)]++[aG.cells 0 false (WD.map uI)]).set 4 a)[5]?=some (aG.cells 0 false (cF n j)) /\(((T++[aG.cells 0 false (WU.map uI)]++[aG.cells 0 false (WD.map uI)]).set 4 a).set 5 b)[3]?=some (flB f n) /\(((T++[aG.cells 0 false (WU.map uI)]++[aG.cells 0 false (WD.map uI)]).set 4 a).set 5 b++[aG.cells 0 false (WI.map uI)]++[aG.cells 0 false (WO.map uI)])[1]?=some (aG.cells 0 false (cF n o)) /\((((T++[aG.cells 0 false (WU.map uI)]++[aG.cells 0 false (WD.map uI)]).set 4 a).set 5 b++[aG.cells 0 false (WI.map uI)]++[aG.cells 0 false (WO.map uI)]).set 1 J)[2]?=some (aG.cells 0 false (cF n k)) /\WOK m WU/\WOK m WD/\WOK m WI/\WOK m WO/\(∀r:Nat,bit WU r=true↔(r:Int)∈U/\r<f.regs)/\(∀r:Nat,bit WD r=true↔(r:Int)∈D/\r<f.regs)/\(∀r:Nat,bit WI r=false):=by
 obtain⟨WU,u,s,y⟩:=aC2 e q U I H T;rw[d]at u s;obtain⟨WD,e2,g,G⟩:=aC2 e p D v A (T++[aG.cells 0 false (WU.map uI)]);rw[d]at e2 g;obtain⟨WI,e3,l,w⟩:=aC2 e .nil [] B_ B_ (((T++[aG.cells 0 false (WU.map uI)]++[aG.cells 0 false (WD.map uI)]).set 4 a).set 5 b);rw[d]at e3 l;obtain⟨WO,c,t,N⟩:=aC2 e .nil [] B_ B_ (((T++[aG.cells 0 false (WU.map uI)]++[aG.cells 0 false (WD.map uI)]).set 4 a).set 5 b++[aG.cells 0 false (WI.map uI)]);rw[d]at c t;rw[qK]at e3 c;have l2:(T++[aG.cells 0 false (WU.map uI)]).length=T.length+1:=B_;have z:(((T++[aG.cells 0 false (WU.map uI)]++[aG.cells 0 false (WD.map uI)]).set 4 a).set 5 b).length=T.length+2:=B_;have C:(((T++[aG.cells 0 false (WU.map uI)]++[aG.cells 0 false (WD.map uI)]).set 4 a).set 5 b++[aG.cells 0 false (WI.map uI)]).length=T.length+3:=B_;rw[l2]at e2;rw[z]at e3;rw[C]at c;refine⟨WU,WD,WI,WO,u,e2,e3,c,?_,?_,?_,?_,?_,s,g,l,t,y,G,fun r=>?_⟩;.exact aR (aR b4 _) _
 .rw[aB C_];exact aR (aR F _) _
 .rw[aB C_,aB C_];exact aR (aR b3 _) _
 .refine aR (aR ?_ _) _;rw[aB C_,aB C_];exact aR (aR E _) _
 .rw[aB C_];refine aR (aR ?_ _) _;rw[aB C_,aB C_];exact aR (aR b2 _) _
 .cases h:bit WI r with
  |false=>rfl
  |true=>have:=(w r).1 h;simp at this
theorem sN0(S:aA)(a x:aG)(r:aA):(S++a::r).set S.length x=S++x::r:=by rw[E3 _ _ A_];simp
attribute [go_sem] sN0
theorem FP.step{S T:aA}{f:VF}{lb lb':Td_}{n m i:Nat}{o j s l:Th_}{I O U D:Te_}(h:FP S f lb n m i o j s l I O U D)(k:bL LOW S T)(Z:S.length<=T.length)(t1:T[1]?=S[1]?)(t2:T[2]?=S[2]?)(Y:T[3]?=S[3]?)(t4:T[4]?=S[4]?)(t5:T[5]?=S[5]?)(V:∃c,T[0]?=some (.mp (mpR kC lb') c))(p:∀L,dK lb' L=dL (f.ins.take (i+1)) L) {WU WD WI WO:Tc_} (F:WOK m WU) (w:WOK m WD) (C:WOK m WI) (G:WOK m WO) (N:∀r:Nat,bit WU r=true↔(r:Int)∈bF (f.ins.getD i default)/\r<f.regs) (R:∀r:Nat,bit WD r=true↔(r:Int)∈aY (f.ins.getD i default)/\r<f.regs) (J:∀r,bit WI r=false) {d e b a:aG} (H:d=.cells 0 false (cF n (upd (fun q=>if q<i then .msl (o q) 0 0 m m 1 else k_) i (.msl (T.length+2) 0 0 m m 1)))) (e2:e=.cells 0 false (cF n (upd (fun q=>if q<i then .msl (j q) 0 0 m m 1 else k_) i (.msl (T.length+3) 0 0 m m 1)))) (y:b=.cells 0 false (cF n (upd (fun q=>if q<i then .msl (s q) 0 0 m m 1 else k_) i (.msl T.length 0 0 m m 1)))) (W:a=.cells 0 false (cF n (upd (fun q=>if q<i then .msl (l q) 0 0 m m 1 else k_) i (.msl (T.length+1) 0 0 m m 1)))): FP (sH T d e b a (.cells 0 false (WU.map uI)) (.cells 0 false (WD.map uI)) (.cells 0 false (WI.map uI)) (.cells 0 false (WO.map uI))) f lb' n m (i+1) (upd o i (T.length+2)) (upd j i (T.length+3)) (upd s i T.length) (upd l i (T.length+1)) (upd I i WI) (upd O i WO) (upd U i WU) (upd D i WD):=by
 have t:6<=T.length:=by have:=h.len;omega
 obtain⟨Q,a3,E,a2,a4,a5⟩:=bCj d e b a (.cells 0 false (WU.map uI)) (.cells 0 false (WD.map uI)) (.cells 0 false (WI.map uI)) (.cells 0 false (WO.map uI)) t;obtain⟨A,z,P,x⟩:=bCk d e b a (.cells 0 false (WU.map uI)) (.cells 0 false (WD.map uI)) (.cells 0 false (WI.map uI)) (.cells 0 false (WO.map uI)) t;have g:=k.trans (aWt d e b a (.cells 0 false (WU.map uI)) (.cells 0 false (WD.map uI)) (.cells 0 false (WI.map uI)) (.cells 0 false (WO.map uI)) t);have u:=aL3 T d e b a (.cells 0 false (WU.map uI)) (.cells 0 false (WD.map uI)) (.cells 0 false (WI.map uI)) (.cells 0 false (WO.map uI));generalize sH T d e b a (.cells 0 false (WU.map uI)) (.cells 0 false (WD.map uI)) (.cells 0 false (WI.map uI)) (.cells 0 false (WO.map uI))=X at *
 refine⟨?_,p,h.inn.step g A_ C (by rw[E,H]) P,h.out.step g A_ G (by rw[a2,e2]) x,h.us.step g A_ F (by rw[a4,y]) A,h.ds.step g A_ w (by rw[a5,W]) z,by rw[a3,Y];exact h.flw,by omega,fun q r v=>?_,fun q r v=>?_,fun q r v=>?_⟩;.rw[Q];exact V
 .unfold upd;split;.exact J r
  .exact h.zer q r A_
 .unfold upd;split;.subst_vars;exact N r
  .exact h.use q r A_
 .unfold upd;split;.subst_vars;exact R r
  .exact h.dfn q r A_
theorem aT6{f:VF}{n m:Nat}(hm:(f.regs+63) / 64=m)(hr:f.regs<=1000000)(hn:n<=1000000)(ht:f.ins.length=n)(hl:∀x∈f.ins,x.us.length<=999990/\cB x.tu x.us)(x0 x2 x3 x4 x13 x14 x15 h7 h9:TV):∀(k i:Nat) (S:aA) (lb:Td_) (ia Y ua Z:Th_) (I O U D:Te_) (x9 x10 x11 x12 H F:TV),i+k=n ->FP S f lb n m i ia Y ua Z I O U D ->∃(S':aA) (lb':Td_) (A o y r:Th_) (I' O' U' D':Te_) (y9 u z p C s:TV),lp' (lim K) t31L2 [x0,.lb ((kY f).map .iv),x2,x3,x4,j_ n,.ptr 3 65 0,.msl 4 0 0 n n 1,.msl 5 0 0 n n 1,x9,x10,x11,x12,x13,x14,x15,.iv (.sl f.ti (f.ins.map aJ)),j_ n,j_ i,H,F,h7,h9] S = .ret (.exit 0,[x0,.lb ((kY f).map .iv),x2,x3,x4,j_ n,.ptr 3 65 0,.msl 4 0 0 n n 1,.msl 5 0 0 n n 1,y9,u,z,p,x13,x14,x15,.iv (.sl f.ti (f.ins.map aJ)),j_ n,j_ n,C,s,h7,h9],S') /\FP S' f lb' n m n A o y r I' O' U' D'
 |0,i,S,lb,ia,Y,ua,Z,I,O,U,D,x9,x10,x11,x12,H,F,hk,hF=>by obtain rfl:i=n:=A_;refine⟨S,lb,ia,Y,ua,Z,I,O,U,D,x9,x10,x11,x12,z_,F,aE K _ _ t31L2.eq_1 ?_,hF⟩;simp(disch:=omega)only[go_sem]
 |k+1,i,S,lb,ia,Y,ua,Z,I,O,U,D,x9,x10,x11,x12,H,F,hk,hF=>by
  have hi:i<n:=A_;have h4:i<f.ins.length:=A_;have Q:=gC (w:=8) (f:=aJ) eZ (t:=f.ti) (l:=f.ins) (i:=(i:Int)) A_;rw[Int.toNat_natCast]at Q;obtain⟨hv,hp⟩:=hl (f.ins.getD i default) (by simp only[List.getD,D_ h4,Option.getD_some];exact B8 _);obtain⟨c0,d⟩:=hF.lab;have h6:=hF.len;have ho:f.ins.take (i+1)=f.ins.take i++[f.ins.getD i default]:=by rw[H0,D_ h4];simp[List.getD,D_ h4]
  have hs:(f.ins.take i).length=i:=by simp;omega
  have h8:=fun L=>aL2 (f.ins.take i) (f.ins.getD i default) L;simp only[<-ho,hs]at h8;obtain⟨tU,hz,c9⟩:=bCh (f.ins.getD i default) hv hp;obtain⟨tD,hy,G⟩:=aP6 (f.ins.getD i default);have lU:=aWs (f.ins.getD i default);have lD:=zA (f.ins.getD i default);have pU:=aWq (f.ins.getD i default);have pD:=aWr (f.ins.getD i default);have lf:=fun T h6 g1 g2 g4 g5 b1 b2 b4 b5 b3 r1 r2 r4 r5=>aWu (f:=f) (n:=n) hm hr T h6 g1 g2 g4 g5 b1 b2 b4 b5 b3 tU tD (bF (f.ins.getD i default)) (aY (f.ins.getD i default)) A_ A_ pU pD r1 r2 r4 r5;have hf:=fun T lb'=>FP.step (T:=T) (lb':=lb') hF;have h5:=fun S lb ia Y ua Z I O U D x9 x10 x11 x12 H F=>aT6 hm hr hn ht hl x0 x2 x3 x4 x13 x14 x15 h7 h9 k (i+1) S lb ia Y ua Z I O U D x9 x10 x11 x12 H F A_;have i1:=fun j=>iO (j:=j) (v:=0) (cap:=n) hi;have pc:=fun g x=>lC (n:=n) (i:=i) g x hi;generalize hx:f.ins.getD i default=x at *
  have h0:∀L,dK lb L=dL (f.ins.take i) L:=hF.lbs;have hj:∀(P:aG) (q:Nat),q<6->(S++[P])[q]?=S[q]? := fun P q hq=>Y_ A_;rw[cV]at Q;by_cases hB:x.op=65/\cG lb x.lb=false
  .obtain⟨hd,hh⟩:=hB;have hg:dK lb x.lb=none:=by
    cases h:dK lb x.lb with
    |none=>rfl
    |some a=>simp[cG,h]at hh
   generalize hP:aG.cells 90 false [j_ (lR lb x.lb)]=P;have hc:(S++[P])[0]?=some (.mp (mpR kC lb) c0):=aR d _;have he:=aR hF.flw [P];generalize hT:(S++[P]).set 0 (.mp (mpR kC (gV lb c0 x.lb (i:Int))) (rP lb c0 x.lb))=T;have hw:T.length=S.length+1:=by rw[<-hT];simp
   have b:∀q,0<q->q<6->T[q]?=S[q]? := fun q h1 h2=>by rw[<-hT,aB A_,hj P q h2]
   have hk:bL LOW S T:=by rw[<-hT];exact(bL.app LOW S [P]).trans (bL.set _ (by simp[LOW]) _)
   have ha:∃c,T[0]?=some (.mp (mpR kC (gV lb c0 x.lb (i:Int))) c):=⟨_,by rw[<-hT];exact aM B_ _⟩
   have J:T[3]?=some (flB f n):=(b 3 A_ A_).trans hF.flw;obtain⟨WU,WD,WI,WO,e1,e2,e3,e4,d4,d5,d3,d1,d2,w1,w2,w3,w4,u1,u2,u3⟩:=lf T A_ _ _ _ _ ((b 1 A_ A_).trans hF.inn.row) ((b 2 A_ A_).trans hF.out.row) ((b 4 A_ A_).trans hF.us.row) ((b 5 A_ A_).trans hF.ds.row) J
    (.cells 0 false (cF n (upd (fun q=>if q<i then .msl (ia q) 0 0 m m 1 else k_) i (.msl (T.length+2) 0 0 m m 1)))) (.cells 0 false (cF n (upd (fun q=>if q<i then .msl (Y q) 0 0 m m 1 else k_) i (.msl (T.length+3) 0 0 m m 1))))
    (.cells 0 false (cF n (upd (fun q=>if q<i then .msl (ua q) 0 0 m m 1 else k_) i (.msl T.length 0 0 m m 1)))) (.cells 0 false (cF n (upd (fun q=>if q<i then .msl (Z q) 0 0 m m 1 else k_) i (.msl (T.length+1) 0 0 m m 1))))
   have W:=hf T (gV lb c0 x.lb (i:Int)) hk A_ (b 1 A_ A_) (b 2 A_ A_) (b 3 A_ A_) (b 4 A_ A_) (b 5 A_ A_) ha (fun L=>by
    rw[qI,h8 L,<-h0 L];by_cases e:x.lb=L;.subst e;rw[K_ rfl,hg];simp[hd]
    .rw[I_ e];cases dK lb L with
     |some a=>rfl
     |none=>rw[I_ (fun h=>e h.2)]) w1 w2 w3 w4 u1 u2 u3 rfl rfl rfl rfl
   obtain⟨S',lb',A,o,y,r,I',O',U',D',y9,u,z,p,C,s,R,N⟩:=h5 _ _ _ _ _ _ _ _ _ _ (j_ i) (.lb ((aJ x).map .iv)) (.ptr S.length 90 0) z_ e_ e_ W;refine⟨S',lb',A,o,y,r,I',O',U',D',y9,u,z,p,C,s,aE K _ _ t31L2.eq_1 ?_,N⟩;rw[show((i+1:Nat):Int)=(i:Int)+1 by omega,aS]at R;have g3:=hF.flw;have l2:=aL1 lb c0 x.lb;rw[hh]at l2;unfold flB at d3;have E:=aR d3 [.cells 0 false (WI.map uI)];have V:=aR E [.cells 0 false (WO.map uI)];rw[cV]at c9 G;unfold kY at *
   simp only[Q_,C3]at R |-;simp(disch:=omega)only[go_sem,Q,i1,d,g3,l2,hP,hc,he,aCx,hT,aD c9,aD G,e1,e2,d4,d5,pc,d3,E,V,e3,e4,d1,d2,aC];exact X_ er R
  .have hu:∀L,dK lb L=dL (f.ins.take (i+1)) L:=fun L=>by
    rw[h8 L,<-h0 L];cases h:dK lb L with
    |some a=>rfl
    |none =>dsimp only;rw[I_];rintro⟨h1,rfl⟩;exact hB ⟨h1,by simp[cG,h]⟩
   generalize hP:aG.cells 90 false [j_ (lR lb x.lb)]=P;generalize hT:S++[P]=T;have hw:T.length=S.length+1:=by rw[<-hT];simp
   have b:∀q,q<6->T[q]?=S[q]? := fun q h2=>by rw[<-hT,hj P q h2]
   have hk:bL LOW S T:=by rw[<-hT];exact bL.app LOW S [P]
   have ha:∃c,T[0]?=some (.mp (mpR kC lb) c):=⟨c0,by rw[b 0 A_];exact d⟩
   have J:T[3]?=some (flB f n):=(b 3 A_).trans hF.flw;obtain⟨WU,WD,WI,WO,e1,e2,e3,e4,d4,d5,d3,d1,d2,w1,w2,w3,w4,u1,u2,u3⟩:=lf T A_ _ _ _ _ ((b 1 A_).trans hF.inn.row) ((b 2 A_).trans hF.out.row) ((b 4 A_).trans hF.us.row) ((b 5 A_).trans hF.ds.row) J
    (.cells 0 false (cF n (upd (fun q=>if q<i then .msl (ia q) 0 0 m m 1 else k_) i (.msl (T.length+2) 0 0 m m 1)))) (.cells 0 false (cF n (upd (fun q=>if q<i then .msl (Y q) 0 0 m m 1 else k_) i (.msl (T.length+3) 0 0 m m 1))))
    (.cells 0 false (cF n (upd (fun q=>if q<i then .msl (ua q) 0 0 m m 1 else k_) i (.msl T.length 0 0 m m 1)))) (.cells 0 false (cF n (upd (fun q=>if q<i then .msl (Z q) 0 0 m m 1 else k_) i (.msl (T.length+1) 0 0 m m 1))))
   have W:=hf T lb hk A_ (b 1 A_) (b 2 A_) (b 3 A_) (b 4 A_) (b 5 A_) ha hu w1 w2 w3 w4 u1 u2 u3 rfl rfl rfl rfl;have g3:=hF.flw;have l2:=aL1 lb c0 x.lb;unfold flB at d3;have E:=aR d3 [.cells 0 false (WI.map uI)];have V:=aR E [.cells 0 false (WO.map uI)];rw[cV]at c9 G;by_cases hd:x.op=65
   .have hh:cG lb x.lb=true:=by
     cases h:cG lb x.lb with
     |true=>rfl
     |false=>exact absurd ⟨hd,h⟩ hB
    rw[hh]at l2;obtain⟨S',lb',A,o,y,r,I',O',U',D',y9,u,z,p,C,s,R,N⟩:=h5 _ _ _ _ _ _ _ _ _ _ (j_ i) (.lb ((aJ x).map .iv)) (.ptr S.length 90 0) e_ e_ z_ W;refine⟨S',lb',A,o,y,r,I',O',U',D',y9,u,z,p,C,s,aE K _ _ t31L2.eq_1 ?_,N⟩;rw[show((i+1:Nat):Int)=(i:Int)+1 by omega,aS]at R;unfold kY at *
    simp only[Q_,C3]at R |-;simp(disch:=omega)only[go_sem,Q,i1,d,g3,l2,hP,hT,aD c9,aD G,e1,e2,d4,d5,pc,d3,E,V,e3,e4,d1,d2,aC];exact X_ er R
   .generalize cG lb x.lb=hb at *
    obtain⟨S',lb',A,o,y,r,I',O',U',D',y9,u,z,p,C,s,R,N⟩:=h5 _ _ _ _ _ _ _ _ _ _ (j_ i) (.lb ((aJ x).map .iv)) (.ptr S.length 90 0) (.iv (.bool hb)) e_ z_ W;refine⟨S',lb',A,o,y,r,I',O',U',D',y9,u,z,p,C,s,aE K _ _ t31L2.eq_1 ?_,N⟩;rw[show((i+1:Nat):Int)=(i:Int)+1 by omega,aS]at R;unfold kY at *
    simp only[Q_,C3]at R |-;simp(disch:=omega)only[go_sem,Q,i1,d,g3,l2,hP,hT,aD c9,aD G,e1,e2,d4,d5,pc,d3,E,V,e3,e4,d1,d2,aC];exact X_ er R
theorem qL(f:VF):kY f=[.int .i64 f.fn,.int .i64 f.regs,.int .i64 f.sl,.int .i64 f.nd,.int .i64 f.pr,.bool f.rs,.sl f.ti (f.ins.map aJ)]:=rfl
theorem bKr(f:VF):(kY f).map TV.iv=[j_ f.fn,j_ f.regs,j_ f.sl,j_ f.nd,j_ f.pr,.iv (.bool f.rs),.iv (.sl f.ti (f.ins.map aJ))]:=rfl
theorem bCl(x:TV):∀n,TM.bC (List.replicate n [x])=cF n fun _=>x
 |0=>rfl
 |n+1=>by have:=bCl x n;rw[List.replicate_succ,show TM.bC ([x]::List.replicate n [x])=x::TM.bC (List.replicate n [x]) from rfl,this];unfold cF;rw[List.map_const',List.map_const',F8,F8,List.replicate_succ]
theorem bT6{bytes m n:Nat}(a:eA n bytes=true):mkV [.sl .nil []] bytes m (j_ n) (j_ n)=some (.msl m 0 0 n n 1,.cells 0 false (cF n fun q=>if q<0 then .msl 0 0 0 0 0 1 else k_)):=by
 have b:=bCl k_ n;have e:(fun q:Nat=>if q<0 then TV.msl 0 0 0 0 0 1 else k_)=fun _=>k_:=by funext q;rw[I_ (R4 q)]
 rw[e];simp[mkV,TM.fB,a,b]
theorem aGx{l:List VI}{L k:Int}(h:dL l L=some k):0<=k/\k<l.length:=by unfold dL at h;rw[G_]at h;obtain⟨i,a,rfl⟩:=h;rw[F4]at a;obtain⟨b,_⟩:=a;omega
theorem bCm{lb:Td_}{l:List VI}(a:0<l.length)(h:∀L,dK lb L=dL l L):aL0 lb l:=by
 intro i b _;unfold lR;rw[h];cases e:dL l (l.getD i default).lb with
 |none=>simp;omega
 |some k=>have:=aGx e;simpa using this
theorem bQn{f:VF}(h1:32<=f.regs)(J:f.regs<=1000000)(N:f.ins.length<=1000000)(h0:0<f.ins.length)(E:∀x∈f.ins,x.us.length<=999990/\cB x.tu x.us)(h:TM.Pure K 20 [.iv (.agg (kY f))] (j_ 0)): ∃(S':aA) (lb:Td_) (s p:Th_) (I O U D:Te_),(lim K).call 31 [.iv (.agg (kY f))] []=.ret (.tup [.ptr 3 65 0,j_ 0],S')/\FlS S' f lb f.ins.length ((f.regs+63) / 64) s p I O/\aIz lb f.ins U D I /\(∀L,dK lb L=dL f.ins L)/\(∀j r,j<f.ins.length->(bit (U j) r=true↔(r:Int)∈bF (f.ins.getD j default)/\r<f.regs))/\(∀j r,j<f.ins.length->(bit (D j) r=true↔(r:Int)∈aY (f.ins.getD j default)/\r<f.regs)) /\∀j,j<f.ins.length->(∀r,bit (I j) r=eqn lb f.ins U D I j r)/\∀r,bit (O j) r=aBv lb f.ins I j r:=by
 generalize hn':f.ins.length=n at *
 generalize hm:(f.regs+63) / 64=m;have Y:=fun k=>bT6 (m:=k) (bytes:=24) (bR (n:=n) (b:=24) A_);have Q:FP [.mp (mpR kC []) 0,.cells 0 false (cF n fun q=>if q<0 then .msl 0 0 0 0 0 1 else k_),.cells 0 false (cF n fun q=>if q<0 then .msl 0 0 0 0 0 1 else k_),flB f n,.cells 0 false (cF n fun q=>if q<0 then .msl 0 0 0 0 0 1 else k_),.cells 0 false (cF n fun q=>if q<0 then .msl 0 0 0 0 0 1 else k_)] f [] n m 0 (fun _=>0) (fun _=>0) (fun _=>0) (fun _=>0) (fun _=>[]) (fun _=>[]) (fun _=>[]) (fun _=>[]):=by
  have g:∀q:Nat,(if q<0 then TV.msl 0 0 0 m m 1 else k_)=(if q<0 then TV.msl 0 0 0 0 0 1 else k_):=fun q=>by rw[I_ (R4 q),I_ (R4 q)]
  refine⟨⟨0,rfl⟩,fun L=>rfl,⟨?_,by omega,by omega,by omega⟩,⟨?_,by omega,by omega,by omega⟩,⟨?_,by omega,by omega,by omega⟩,⟨?_,by omega,by omega,by omega⟩,rfl,by simp,by omega,by omega,by omega⟩<;>(simp only[g];rfl)
 obtain⟨S1,lb,s,p,ua,da,I,O,U,D,W,H,z,A,t,G,o,a⟩:=aT6 hm J N hn' E (.iv (.agg (kY f))) (.iv .nilp) (j_ 0) (j_ 0) u_ u_ z_ u_ u_ n 0 _ _ _ _ _ _ _ _ _ _ u_ u_ u_ u_ u_ u_ A_ Q;have c:∀L,dK lb L=dL f.ins L:=fun L=>by rw[a.lbs L,K5 A_]
 have y:=bCm A_ c;have P:∀j r,bit (if j<n then I j else []) r=false:=fun j r=>by
  split;.exact a.zer j r (by assumption)
  .simp[bit]
 have w:FlS S1 f lb n m s p (fun j=>if j<n then I j else []) O :=
  ⟨a.lab,⟨a.inn.done.row,a.inn.done.ge,fun i e=>by rw[K_ e];exact a.inn.set i e,fun i e=>by rw[K_ e];exact a.inn.ok i e⟩,a.out.done,a.flw,a.len⟩
 have hG:aIz lb f.ins U D (fun j=>if j<n then I j else []):=⟨(fun i r d=>by rw[P]at d;cases d),(fun i r d=>by rw[P]at d;cases d)⟩
 obtain⟨S2,v,u,I2,O2,h2,V,T,l2,F,_,_,C,Z⟩:=aT5 hm J N hn' y (.iv (.agg (kY f))) (.lb ((kY f).map .iv)) (.iv .nilp) (j_ 0) (j_ 0) W H z A z_ (.iv (.sl f.ti (f.ins.map aJ))) (j_ n) (j_ n) t G _ S1 s p _ O u_ u_ u_ (O_ _) w a.us.done a.ds.done hG;refine⟨S2,lb,v,u,I2,O2,U,D,aI K _ (fn:=t31) rfl rfl ?_,F,C,c,a.use,a.dfn,Z⟩;rw[n0_]at o;have l:(f.ins.map aJ).length=n:=by rw[L_,hn']
 unfold flB at o;rw[show mpR kC []=[] from rfl]at o;rw[bKr,qL]at o l2;rw[qL]at h;rw[qL];generalize hR:aG.cells 0 false (cF n fun q=>if q<0 then .msl 0 0 0 0 0 1 else k_)=R at *
 simp(disch:=omega)only[t31,go_sem,aD h,l,Y];rw[o];simp(disch:=omega)only[go_sem];rw[l2];simp(disch:=omega)only[go_sem]
theorem aL4(i:Nat)(l:M_):cellsOf (acc i l)=[acc i l]:=by unfold acc;split<;>rfl
theorem aP7(i:Nat)(l:M_):bJ (acc i l)=false:=by unfold acc;split<;>rfl
attribute [go_sem] aL4 aP7
def gI(l:List (List IV))(i:Nat)(S:aA):Nat:=if l=[]then S.length else i
def gS1(w el:Nat)(l:List (List IV))(i:Nat)(S:aA):aA:=if l=[]then S++[.tok 1 w el]else S.set i (.tok (l.length+1) w el)
def At(w el:Nat)(l:List (List IV))(i:Nat)(S:aA):Prop:=l≠[]->S[i]?=some (.tok l.length w el)
theorem aI1{w el:Nat}{l:M_}{i:Nat}{S:aA}(h:At w el l i S)(c:Tq_):At w el (l++[c]) (gI l i S) (gS1 w el l i S):=by
 intro _;unfold gI gS1;by_cases h0:l=[]
 .rw[K_ h0,K_ h0,h0];simp
 .rw[I_ h0,I_ h0,aM (aN (h h0))];simp
theorem bKs{w el b:Nat}{l:M_}{i:Nat}{S:aA}{t:Tag}{c:Tq_}(h:At w el l i S)(j:c.length=w/\c.all mZ=true)(g:jE w l)(a:eA (l.length+1) b=true): bA false w b el S (acc i l) (.iv (.sl t [c]))=some (acc (gI l i S) (l++[c]),gS1 w el l i S):=by
 have e:rO S (.iv (.sl t [c])) [c]:=rO.sl ..;have f:jE w [c]:=by intro y d;simp at d;subst d;exact j
 by_cases h0:l=[]
 .subst h0;rw[mB,aLi C_ e f g B_ a,List.nil_append,aO7];simp[gI,gS1]
 .rw[lO _ h0,aFk e f g (h h0) a,lO _ B_];simp[gI,gS1,h0]
theorem nQ{w el:Nat}{l:M_}{i:Nat}{S:aA}(h:At w el l i S){q:Nat}{b:aG}(a:S[q]?=some b)(c:∀n w el,b≠.tok n w el):(gS1 w el l i S)[q]?=some b:=by
 unfold gS1;by_cases h0:l=[]
 .rw[K_ h0];exact aR a _
 .rw[I_ h0,aB];.exact a
  .rintro rfl;rw[h h0]at a;exact c _ _ _ (D6 a).symm
def aC8(S:aA)(j:Nat)(W:List Nat):Prop:=S[j]?=some (.cells 0 false (W.map uI))\/S[j]?=some (.frz 0 (W.map uV))
theorem bPn(W:Tc_):W.map uI=(W.map uV).map .iv:=by rw[M3];rfl
theorem aWv{S:aA}{j:Nat}{W:Tc_}(h:aC8 S j W)(cap:Nat):cH S (.msl j 0 0 W.length cap 1)=some (TM.one uV W):=by
 have e3:∀L:List Nat,cP 1 L.length (L.map uV)=TM.one uV L:=by
  intro L;induction L with
  |nil=>rfl
  |cons a r ih=>simp only[Q_,List.length_cons,cP,List.take_succ_cons,List.take_zero,J5,C4,ih];rfl
 rcases h with h|h
 .have b:sub (W.map uI) 0 (W.length*1)=some (W.map uI):=mC B_;have e2:toIVs (W.map uI)=some (W.map uV):=by rw[bPn,fM]
  simp only[cH,h,ne_eq,C9,↓reduceIte,b,e2,Option.map_some,e3]
 .have b:sub (W.map uV) 0 (W.length*1)=some (W.map uV):=mC B_;simp only[cH,h,ne_eq,C9,↓reduceIte,b,Option.map_some,e3]
theorem aWw{S:aA}{j:Nat}{W:Tc_}(h:aC8 S j W)(cap:Nat):jP S (.msl j 0 0 W.length cap 1)=some (.iv (.sl .no (TM.one uV W))):=by show((match cH S (.msl j 0 0 W.length cap 1)with|some l=>some (IV.sl .no l)|none=>none).map TV.iv)=_;rw[aWv h];rfl
theorem aP8{S:aA}{j:Nat}{W:Tc_}(h:aC8 S j W)(v o n c w:Nat):∃S',cJ S [.msl j v o n c w]=some S'/\S'.length=S.length/\(∀q,q≠j->S'[q]?=S[q]?)/\S'[j]?=some (.frz 0 (W.map uV)):=by
 rcases h with h|h;.refine⟨S.set j (.frz 0 (W.map uV)),?_,by simp,fun q a=>aB (B0 a) _,aM (aN h) _⟩;simp only[cJ,lY,h,bPn,fM,Option.map_some]
 .refine⟨S,?_,rfl,fun q _=>rfl,h⟩;simp only[cJ,lY,h]
def bCn(I:Nat->List Nat)(q:Nat):List IV:=[.sl (jL (aZ (wlI 0 (I q)))) (TM.one (.int .i64) (wlI 0 (I q)))]
def bK(I:Nat->List Nat)(i:Nat):List (List IV):=(List.range i).map (bCn I)
theorem uK(I:Te_)(i:Nat):(bK I i).length=i:=by simp[bK]
theorem aC9(I:Te_)(i:Nat):jE 1 (bK I i):=by intro y a;obtain⟨q,_,rfl⟩:=A0.1 a;exact⟨rfl,rfl⟩
theorem bCo{j n m:Nat}(Y:n<=1000000)(T:m<=100000){g:Th_}{I:Te_}(u:∀i,i<n->WOK m (I i))(s:∀i,i<n->g i≠j):∀(k i:Nat) (S:aA) (jo:Nat) (x2 x6:TV),i+k=n ->S[j]?=some (.cells 0 false (cF n fun i=>.msl (g i) 0 0 m m 1))->(∀q,q<n->aC8 S (g q) (I q))->At 1 26 (bK I i) jo S ->∃(S':aA) (l:Nat) (D C:TV),lp' (lim K) t32L0 [.msl j 0 0 n n 1,acc jo (bK I i),x2,.msl j 0 0 n n 1,j_ n,j_ i,x6] S = .ret (.exit 0,[.msl j 0 0 n n 1,acc l (bK I n),D,.msl j 0 0 n n 1,j_ n,j_ n,C],S')
 |0,i,S,jo,x2,x6,h,hr,hs,ha=>by obtain rfl:i=n:=A_;refine⟨S,jo,x2,z_,aE K _ _ t32L0.eq_1 ?_⟩;simp(disch:=omega)only[go_sem]
 |k+1,i,S,jo,x2,x6,h,hr,hs,ha=>by
  have d:i<n:=A_;have G:=u i d;have W:=iO (j:=j) (v:=0) (cap:=n) d;have s1:=dS (fun i=>TV.msl (g i) 0 0 m m 1) d;have F:=bQg .no (I i) G.lt (by rw[G.len];exact T);have o:=aWw (hs i d) m;rw[G.len]at o;obtain⟨S1,f1,f2,z,V⟩:=aP8 (hs i d) 0 0 m m 1;have L:S1[j]?=some (.cells 0 false (cF n fun i=>.msl (g i) 0 0 m m 1)):=by rw[z j (B0 (s i d))];exact hr
  have R:∀q,q<n->aC8 S1 (g q) (I q):=fun q x=>by
   by_cases e:g q=g i
   .have w:=hs q x;have E:=hs i d;rw[e]at w |-;right;rw[V];have:(I q).map uV=(I i).map uV:=by
     have N:∀A B:List Nat,A.map uI=B.map uI->A.map uV=B.map uV:=fun A B J=>by have:A=B:=(List.map_inj_right (fun a b r=>by simp[uI]at r;exact_mod_cast r)).1 J;rw[this]
     rcases w with a|a<;>rcases E with b|b<;>rw[a]at b<;>simp at b;.exact N _ _ (by simpa using b)
     .simpa using b
    rw[this]
   .unfold aC8;rw[z _ e];exact hs q x
  have f:At 1 26 (bK I i) jo S1:=fun Z=>by
   have:=ha Z;rw[z jo];.exact this
   .rintro rfl;rcases hs i d with b|b<;>rw[this]at b<;>simp at b
  have Q:=bKs (b:=24) (c:=bCn I i) (t:=.full) f ⟨rfl,rfl⟩ (aC9 I i) (bR (by rw[uK];omega));have P:bK I i++[bCn I i]=bK I (i+1):=by simp[bK,R2]
  have p:=aI1 f (bCn I i);rw[P]at Q p;have H:=nQ f L B_;have y:∀q,q<n->aC8 (gS1 1 26 (bK I i) jo S1) (g q) (I q):=fun q x=>by
   rcases R q x with b|b;.exact .inl (nQ f b B_)
   .exact .inr (nQ f b B_)
  obtain⟨S',l,D,C,U⟩:=bCo Y T u s k (i+1) _ _ (.msl (g i) 0 0 m m 1) e_ A_ H y p;rw[show((i+1:Nat):Int)=(i:Int)+1 by omega]at U;refine⟨S',l,D,C,aE K _ _ t32L0.eq_1 ?_⟩;unfold bCn at Q;simp(disch:=omega)only[go_sem,W,hr,s1,o,aD F,f1,Q,aC];exact X_ er U
theorem bCp{S:aA}{j n m:Nat}(c:n<=1000000)(d:m<=100000){b:Th_}{I:Te_}(h:RS S j n m b I)(k:j<6):∃(S':aA) (jo:Nat),(lim K).call 32 [.msl j 0 0 n n 1] S=.ret (acc jo (bK I n),S'):=by obtain⟨S',jo,o,l,a⟩:=bCo c d h.ok (fun i g=>by have:=h.ge i g;omega) n 0 S 0 u_ u_ A_ h.row (fun q f=>.inl (h.set q f)) (fun e=>absurd rfl e);rw[n0_,show bK I 0=[] from rfl,mB]at a;refine⟨S',jo,aI K S (fn:=t32) rfl rfl ?_⟩;simp(disch:=omega)only[t32,go_sem];rw[a];simp(disch:=omega)only[go_sem]
theorem aI2(S:aA)(jo:Nat)(l:M_)(n:Int):TM.resolve S (.tup [acc jo l,j_ n])=some (.tup [.iv (.sl (jL l) l),j_ n]):=by rw[aBo];simp only[vL,aIe];rfl
theorem bT7{f:VF}(e:32<=f.regs)(p:f.regs<=1000000)(q:f.ins.length<=1000000)(t:0<f.ins.length)(d:∀x∈f.ins,x.us.length<=999990/\cB x.tu x.us)(c:TM.Pure K 20 [.iv (.agg (kY f))] (j_ 0)): ∃(lb:Td_) (I O U D:Te_),TM.Pure K 21 [.iv (.agg (kY f))] (.tup [.iv (.sl (jL (bK I f.ins.length)) (bK I f.ins.length)),j_ 0]) /\TM.Pure K 13 [.iv (.agg (kY f))] (.tup [.iv (.sl (jL (bK O f.ins.length)) (bK O f.ins.length)),j_ 0])/\aIz lb f.ins U D I /\(∀i,i<f.ins.length->WOK ((f.regs+63) / 64) (I i)/\WOK ((f.regs+63) / 64) (O i)) /\(∀L,dK lb L=dL f.ins L)/\(∀j r,j<f.ins.length->(bit (U j) r=true↔(r:Int)∈bF (f.ins.getD j default)/\r<f.regs))/\(∀j r,j<f.ins.length->(bit (D j) r=true↔(r:Int)∈aY (f.ins.getD j default)/\r<f.regs)) /\∀j,j<f.ins.length->(∀r,bit (I j) r=eqn lb f.ins U D I j r)/\∀r,bit (O j) r=aBv lb f.ins I j r:=by
 obtain⟨S,lb,y,w,I,O,U,D,a,b,v,l,k,h3,m⟩:=bQn e p q t d c;obtain⟨S1,o,u⟩:=bCp A_ A_ b.inn A_;obtain⟨S2,s,e2⟩:=bCp A_ A_ b.out A_;have h:=b.flw;refine⟨lb,I,O,U,D,?_,?_,v,fun i g=>⟨b.inn.ok i g,b.out.ok i g⟩,l,k,h3,m⟩
 .refine TM.gQ (S:=S1) (aI K _ (fn:=t21) rfl rfl ?_) (aI2 S1 o _ 0);rw[qL]at a |-;generalize f.ins.length=n at *
  simp(disch:=omega)only[t21,go_sem,a,h,u]
 .refine TM.gQ (S:=S2) (aI K _ (fn:=t13) rfl rfl ?_) (aI2 S2 s _ 0);rw[qL]at a |-;generalize f.ins.length=n at *
  simp(disch:=omega)only[t13,go_sem,a,h,e2]
end Go.Proofs.YtehlgnfhkidgoaaGreatDoor
