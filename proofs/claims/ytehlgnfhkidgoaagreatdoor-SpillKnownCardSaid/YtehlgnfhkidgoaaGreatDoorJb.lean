/- Some texts of the proof, joined. Condition: none. -/
import Derived.Test.YtehlgnfhkidgoaaGreatDoorJa
set_option linter.unusedSectionVars false
set_option maxRecDepth 100000
set_option maxHeartbeats 64000000
set_option linter.unusedSimpArgs false
set_option linter.unusedVariables false
namespace Go.Proofs.YtehlgnfhkidgoaaGreatDoor
open Go Go.TM
theorem bQx(i:Nat)(S:aA):(lim K).call 79 [.ptr 3 65 0,j_ i] S=.ret (.fn 113 [] [.ptr S.length 58 0,.ptr (S.length+1) 4 0],S++[.cells 58 false [.ptr 3 65 0],.cells 4 false [j_ i]]):=by refine aI K _ (fn:=t79) rfl rfl ?_;simp(disch:=omega)only[t79,go_sem,n_,A8]
theorem bKk{S0:aA}{m:Nat}{W:Tc_}{b3 b4 Z:aG}(R:aA):(gS S0 m W b3 b4 Z R)[S0.length]?=some (.cells 58 false [.ptr 3 65 0]):=by unfold gS;rw[gN0]
theorem aTy{S0:aA}{m:Nat}{W:Tc_}{b3 b4 Z:aG}(R:aA):(gS S0 m W b3 b4 Z R)[S0.length+1]?=some (.cells 0 false (W.map uI)):=by unfold gS;rw[gN1]
theorem aTz{S0:aA}{m:Nat}{W:Tc_}{b3 b4 Z:aG}(R:aA):(gS S0 m W b3 b4 Z R)[S0.length+2]?=some (.cells 93 false [.msl (S0.length+1) 0 0 m m 1]):=by unfold gS;rw[gN2]
theorem bKl{S0:aA}{m:Nat}{W:Tc_}{b3 b4 Z:aG}(R:aA):(gS S0 m W b3 b4 Z R)[S0.length+5]?=some Z:=by unfold gS;rw[gN5]
theorem aIw{S0:aA}{m:Nat}{W:Tc_}{b3 b4 Z a b:aG}(R:aA):(gS S0 m W b3 b4 Z (a::b::R))[S0.length+7]?=some b:=by unfold gS;rw[gN7]
theorem bKm{S0:aA}{m:Nat}{W:Tc_}{b3 b4 Z a b:aG}(x:aG)(R:aA):(gS S0 m W b3 b4 Z (a::b::R)).set (S0.length+7) x=gS S0 m W b3 b4 Z (a::x::R):=by unfold gS;rw[sN7]
theorem bKn{S0:aA}{m:Nat}{W:Tc_}{b3 b4 Z:aG}(x:aG)(R:aA):(gS S0 m W b3 b4 Z R).set (S0.length+5) x=gS S0 m W b3 b4 x R:=by unfold gS;rw[sN5]
attribute [go_sem] bKk aTy aTz bKl aIw bKm bKn
theorem aT0{S0:aA}{m:Nat}(L:m<=100000){o l:Nat}{U D:Tc_}(g:WOK m U)(t:WOK m D)(r:S0[o]?=some (.cells 0 false (U.map uI)))(s:S0[l]?=some (.cells 0 false (D.map uI))){W:Tc_}(E:WOK m W)(b3 b4 Z B6:aG)(x0 n x4 x5 x7 x8 x11 x12 x13 x14 x15 x16:TV):∀(k i:Nat) (V:Tc_) (x10 d:TV),i+k=m->WOK m V ->∃(V':Tc_) (b c:TV),lp' (lim K) t56L0 [x0,n,.msl o 0 0 m m 1,.msl l 0 0 m m 1,x4,x5,.ptr (S0.length+2) 93 0,x7,x8,.msl (S0.length+7) 0 0 m m 1,x10,x11,x12,x13,x14,x15,x16,j_ m,j_ i,d] (gS S0 m W b3 b4 Z [B6,.cells 0 false (V.map uI)]) = .ret (.exit 4,[x0,n,.msl o 0 0 m m 1,.msl l 0 0 m m 1,x4,x5,.ptr (S0.length+2) 93 0,x7,x8,.msl (S0.length+7) 0 0 m m 1,b,x11,x12,x13,x14,x15,x16,j_ m,j_ m,c],gS S0 m W b3 b4 Z [B6,.cells 0 false (V'.map uI)]) /\WOK m V'/\∀q,V'.getD q 0=if i<=q/\q<m then U.getD q 0 ||| lV (W.getD q 0) (D.getD q 0)else V.getD q 0
 |0,i,V,x10,d,hk,hV=>by obtain rfl:i=m:=A_;refine⟨V,x10,z_,aE K _ _ t56L0.eq_1 ?_,hV,fun q=>by rw[I_ A_]⟩;simp(disch:=omega)only[go_sem]
 |k+1,i,V,x10,d,hk,hV=>by
  have a:i<m:=A_;have H:=fun j=>jK (j:=j) (v:=0) (cap:=m) a;have w:=sK (W:=W) (i:=i) (by rw[E.len];exact a);have z:=sK (W:=U) (i:=i) (by rw[g.len];exact a);have y:=sK (W:=D) (i:=i) (by rw[t.len];exact a);have G:=fun R=>sM (S0:=S0) (m:=m) (W:=W) (b3:=b3) (b4:=b4) (Z:=Z) R r;have J:=fun R=>sM (S0:=S0) (m:=m) (W:=W) (b3:=b3) (b4:=b4) (Z:=Z) R s;have e3:=aPu (W.getD i 0) (D.getD i 0);have I:=aPt (g.get i) (wH (W.getD i 0) (D.getD i 0));have h:=aIt (g.get i) (wH (W.getD i 0) (D.getD i 0));have x:=aPs (W:=V) (i:=i) (U.getD i 0 ||| lV (W.getD i 0) (D.getD i 0)) (by rw[hV.len];exact a);have f:i+1<=(V.map uI).length:=by rw[P_,hV.len];omega
  obtain⟨V',b,c,u,p,F⟩:=aT0 L g t r s E b3 b4 Z B6 x0 n x4 x5 x7 x8 x11 x12 x13 x14 x15 x16 k (i+1) (V.set i (U.getD i 0 ||| lV (W.getD i 0) (D.getD i 0))) (j_ i) e_ A_ (hV.set i _ h);rw[show((i+1:Nat):Int)=(i:Int)+1 by omega]at u;simp only[uI]at w z y x f;refine⟨V',b,c,aE K _ _ t56L0.eq_1 ?_,p,fun q=>?_⟩
  .generalize hA:lV (W.getD i 0) (D.getD i 0)=A at *
   generalize hA2:W.getD i 0=A2 at *
   generalize hA3:D.getD i 0=A3 at *
   generalize hB:U.getD i 0=B at *
   generalize hC:B ||| A=C at *
   simp(disch:=omega)only[go_sem,H,w,z,y,G,J,e3,I,x,f,aC];exact X_ er u
  .rw[F q,aC0 (by rw[hV.len];exact a)];by_cases e:q=i;.subst e;rw[I_ A_,K_ rfl,K_ A_]
   .rw[I_ e];by_cases e2:i+1<=q/\q<m;.rw[K_ e2,K_ A_]
    .rw[I_ e2,I_ A_]
theorem bB9{m:Nat}{U W D V V0:Tc_}(c:WOK m U)(f:WOK m W)(a:WOK m D)(d:WOK m V)(h:∀q,V.getD q 0=if 0<=q/\q<m then U.getD q 0 ||| lV (W.getD q 0) (D.getD q 0)else V0.getD q 0)(r:Nat):bit V r=(bit U r||(bit W r&&!bit D r)):=by
 have z:∀ {X:Tc_},WOK m X->¬r / 64<m->X.getD (r / 64) 0=0:=fun b g=>by rw[List.getD,B7 (by rw[b.len];omega)];rfl
 unfold bit;by_cases e:r / 64<m;.rw[h,K_ ⟨I8 _,e⟩,O3,aLw _ _ _ (X9 _ C_)]
 .rw[z d e,z c e,z f e,z a e];simp
theorem bKo{α:Type}(g:Nat->α)(a:Th_)(i x:Nat):upd (fun j=>g (a j)) i (g x)=fun j=>g (upd a i x j):=by funext j;unfold upd;split<;>rfl
theorem bQy{S0:aA}{f:VF}{lb:Td_}{n m:Nat}{p F:Th_}{I O:Te_}(c:FlS S0 f lb n m p F I O)(hm:(f.regs+63) / 64=m)(hr:f.regs<=1000000)(hn:n<=1000000)(h1:f.ins.length=n)(Q:aLz lb f.ins){i:Nat}(l:i<n) {u t:Nat} {U D:Tc_} (hU:WOK m U) (hD:WOK m D) (gU:S0[u]?=some (.cells 0 false (U.map uI))) (gD:S0[t]?=some (.cells 0 false (D.map uI))): ∃(S':aA) (A B:Tc_) (a b:Nat),(lim K).call 56 [.ptr 3 65 0,j_ i,.msl u 0 0 m m 1,.msl t 0 0 m m 1] S0=.ret (.iv (.bool (!decide (A=I i))),S')/\FlS S' f lb n m (upd p i a) (upd F i b) (upd I i A) (upd O i B)/\WOK m A/\WOK m B /\(∀r,bit B r=(bhd lb f.ins i).any fun k=>bit (I k) r)/\(∀r,bit A r=(bit U r||(bit B r&&!bit D r)))/\bL [1,2] S0 S':=by
 have w:m<=100000:=A_;obtain⟨c0,q⟩:=c.lab;have h6:=c.len;have o:=fun S=>aC1 hr .nil [] B_ B_ S;rw[qU,hm]at o;obtain⟨W0,e0,G,Y⟩:=o (S0++[.cells 58 false [.ptr 3 65 0]]);have e1:=bQx i (S0++[.cells 58 false [.ptr 3 65 0]]++[.cells 0 false (W0.map uI)]++[.cells 93 false [.msl (S0.length+1) 0 0 m m 1]]);simp only[n_,A9,A8,List.cons_append,List.nil_append,F7,Nat.reduceAdd]at e0 e1;obtain⟨W,B6,e2,C,N⟩:=bKj c w hn h1 Q l (.ptr 3 65 0) (j_ i) (.msl u 0 0 m m 1) (.msl t 0 0 m m 1) z_ u_ u_ u_ u_ u_ (.fn 113 [] [.ptr (S0.length+3) 58 0,.ptr (S0.length+4) 4 0]) u_ u_ u_ u_ u_ u_ u_ W0 G;have H:(lim K).call 113 [.yld (S0.length+5),.ptr (S0.length+3) 58 0,.ptr (S0.length+4) 4 0] (S0++[.cells 58 false [.ptr 3 65 0],.cells 0 false (W0.map uI),.cells 93 false [.msl (S0.length+1) 0 0 m m 1],.cells 58 false [.ptr 3 65 0],.cells 4 false [j_ i],
   .lp .ready none [.ptr 3 65 0,j_ i,.msl u 0 0 m m 1,.msl t 0 0 m m 1,.ptr S0.length 58 0,z_,.ptr (S0.length+2) 93 0,u_,u_,u_,u_,u_,.fn 113 [] [.ptr (S0.length+3) 58 0,.ptr (S0.length+4) 4 0],u_,u_,u_,u_,u_,u_,u_] [13] (.region [⟨.mov (.loc 13),(some 7),none⟩]) (.block 1 (.seq (.region [⟨.load1 (.loc 6),none,none⟩,⟨.len .sl (.reg 0),(some 14),none⟩,⟨.mov (.cst (.int .i64 0)),(some 15),none⟩]) (.block 2 (.loop t56L1))))])=_:=e2
 clear e2;have s:∀r,bit W0 r=false:=fun r=>by
  cases h:bit W0 r with
  |false=>rfl
  |true=>have:=(Y r).1 h;simp at this
 generalize hE:rE S0.length (.ptr 3 65 0) (j_ i) (.msl u 0 0 m m 1) (.msl t 0 0 m m 1) z_ u_ u_ u_ u_ u_ (.fn 113 [] [.ptr (S0.length+3) 58 0,.ptr (S0.length+4) 4 0]) u_ u_ u_ u_ u_ u_ u_=E at *
 obtain⟨V0,e3,J,_⟩:=o (gS S0 m W (.cells 58 false [.ptr 3 65 0]) (.cells 4 false [j_ i]) (.lp .exhausted none E [13] rA rB) [B6]);rw[aP1,bB8]at e3;simp only[List.length_cons,List.length_nil,A9,Nat.reduceAdd,List.cons_append,List.nil_append]at e3;obtain⟨V,h2,h3,l1,z,P⟩:=aT0 (S0:=S0) w hU hD gU gD C (.cells 58 false [.ptr 3 65 0]) (.cells 4 false [j_ i]) (.lp .exhausted none E [13] rA rB) B6 (.ptr 3 65 0) (j_ i) (.ptr S0.length 58 0) z_ u_ u_ u_ (.fn 113 [] [.ptr (S0.length+3) 58 0,.ptr (S0.length+4) 4 0]) u_ u_ u_ u_ m 0 V0 u_ u_ A_ J;rw[n0_]at l1;have gI:=fun R=>sM (S0:=S0) (m:=m) (W:=W) (b3:=.cells 58 false [.ptr 3 65 0]) (b4:=.cells 4 false [j_ i]) (Z:=.lp .exhausted none E [13] rA rB) R (c.inn.set i l);have g1:=fun R=>sM (S0:=S0) (m:=m) (W:=W) (b3:=.cells 58 false [.ptr 3 65 0]) (b4:=.cells 4 false [j_ i]) (Z:=.lp .exhausted none E [13] rA rB) R c.inn.row;have g2:=fun R=>sM (S0:=S0) (m:=m) (W:=W) (b3:=.cells 58 false [.ptr 3 65 0]) (b4:=.cells 4 false [j_ i]) (Z:=.lp .exhausted none E [13] rA rB) R c.out.row;have g3:=fun R=>sM (S0:=S0) (m:=m) (W:=W) (b3:=.cells 58 false [.ptr 3 65 0]) (b4:=.cells 4 false [j_ i]) (Z:=.lp .exhausted none E [13] rA rB) R c.flw;have h0:=fun L=>aR c.flw L;have T:=bQs (a:=S0.length+7) (b:=p i) (m:=m) A_ (aIw (S0:=S0) (m:=m) (W:=W) (b3:=.cells 58 false [.ptr 3 65 0]) (b4:=.cells 4 false [j_ i]) (Z:=.lp .exhausted none E [13] rA rB) (a:=B6) (b:=.cells 0 false (V.map uI)) []) (gI _) z.len (c.inn.ok i l).len;have i1:=fun j=>jK (j:=j) (v:=0) (cap:=n) l;have s1:=dO (fun i=>TV.msl (p i) 0 0 m m 1) l;have p1:=lF (fun i=>TV.msl (p i) 0 0 m m 1) (.msl (S0.length+7) 0 0 m m 1) l;have p2:=lF (fun i=>TV.msl (F i) 0 0 m m 1) (.msl (S0.length+1) 0 0 m m 1) l;rw[bKo (fun x=>TV.msl x 0 0 m m 1)]at p1 p2;have q2:=fun X R=>(aB (i:=1) (j:=2) C_ X).trans (g2 R);have q3:=fun X R=>(aB (i:=1) (j:=S0.length+2) A_ X).trans (aTz (S0:=S0) (m:=m) (W:=W) (b3:=.cells 58 false [.ptr 3 65 0]) (b4:=.cells 4 false [j_ i]) (Z:=.lp .exhausted none E [13] rA rB) R);have y:(gS S0 m W (.cells 58 false [.ptr 3 65 0]) (.cells 4 false [j_ i]) (.lp .exhausted none E [13] rA rB) [B6,.cells 0 false (V.map uI)])=S0++(.cells 58 false [.ptr 3 65 0]::.cells 0 false (W.map uI)::.cells 93 false [.msl (S0.length+1) 0 0 m m 1]::.cells 58 false [.ptr 3 65 0]::.cells 4 false [j_ i]::.lp .exhausted none E [13] rA rB::[B6,.cells 0 false (V.map uI)]):=rfl;have g:(gS S0 m W (.cells 58 false [.ptr 3 65 0]) (.cells 4 false [j_ i]) (.lp .exhausted none E [13] rA rB) [B6,.cells 0 false (V.map uI)]).length=S0.length+8:=by rw[aP1];rfl
 refine⟨((gS S0 m W (.cells 58 false [.ptr 3 65 0]) (.cells 4 false [j_ i]) (.lp .exhausted none E [13] rA rB) [B6,.cells 0 false (V.map uI)]).set 1 (.cells 0 false (cF n fun j=>.msl (upd p i (S0.length+7) j) 0 0 m m 1))).set 2 (.cells 0 false (cF n fun j=>.msl (upd F i (S0.length+1) j) 0 0 m m 1)),V,W,S0.length+7,S0.length+1,aI K _ (fn:=t56) rfl rfl ?_,?_,z,C,fun r=>by rw[N r,s r,G0],bB9 hU C hD z P,?_⟩;.simp(disch:=omega)only[t56,go_sem,n_,A8,F7,h0,g3,e0,e1,H,e3];rw[l1];simp(disch:=omega)only[go_sem,g3,i1,g1,g2,s1,T,p1,p2,q2,q3]
 .refine⟨⟨c0,?_⟩,⟨?_,?_,?_,?_⟩,⟨?_,?_,?_,?_⟩,?_,?_⟩;.rw[aB C_,aB C_,y];exact aR q _
  .rw[aB C_,aM (by rw[g];omega)]
  .intro j d;unfold upd;split;.omega
   .exact c.inn.ge j d
  .intro j d;by_cases e:j=i;.subst e;rw[bU,bU,aB A_,aB A_,aIw]
   .rw[cZ _ _ e,cZ _ _ e];have h7:=c.inn.ge j d;rw[aB A_,aB A_,y];exact aR (c.inn.set j d) _
  .intro j d;unfold upd;split;.exact z
   .exact c.inn.ok j d
  .rw[aM (by rw[F5,g];omega)]
  .intro j d;unfold upd;split;.omega
   .exact c.out.ge j d
  .intro j d;by_cases e:j=i;.subst e;rw[bU,bU,aB A_,aB A_,aTy]
   .rw[cZ _ _ e,cZ _ _ e];have h7:=c.out.ge j d;rw[aB A_,aB A_,y];exact aR (c.out.set j d) _
  .intro j d;unfold upd;split;.exact C
   .exact c.out.ok j d
  .rw[aB C_,aB C_];exact g3 _
  .rw[F5,F5,g];omega
 .have k1:bL [1,2] S0 (gS S0 m W (.cells 58 false [.ptr 3 65 0]) (.cells 4 false [j_ i]) (.lp .exhausted none E [13] rA rB) [B6,.cells 0 false (V.map uI)]):=by rw[y];exact bL.app _ _ _
  exact(k1.trans (bL.set _ B_ _)).trans (bL.set _ B_ _)
theorem bCa{α:Type}(l:List α)(p q:α->Bool)(h:∀x,q x=true->p x=true):(l.filter q).length<=(l.filter p).length:=by
 induction l with
 |nil=>exact L_ _
 |cons a l ih =>
  cases hq:q a with
  |true=>rw[C9 hq,C9 (h a hq)];simpa using ih
  |false =>
   rw[E2 (by rw[hq];simp)];cases hp:p a with
   |true=>rw[C9 hp,List.length_cons];omega
   |false=>rw[E2 (by rw[hp];simp)];exact ih
theorem bQz{α:Type}(l:List α)(p q:α->Bool)(h:∀x,q x=true->p x=true){y:α}(b:y∈l)(d:p y=true)(e:q y=false):(l.filter q).length<(l.filter p).length:=by
 induction l with
 |nil=>cases b
 |cons a l ih =>
  rcases J_.1 b with rfl|b;.rw[C9 d,E2 (by rw[e];simp),List.length_cons];have:=bCa l p q h;omega
  .have c:=ih b;cases hq':q a with
   |true=>rw[C9 hq',C9 (h a hq')];simpa using c
   |false =>
    rw[E2 (by rw[hq'];simp)];cases hp':p a with
    |true=>rw[C9 hp',List.length_cons];omega
    |false=>rw[E2 (by rw[hp'];simp)];exact c
def aP2(n m:Nat):List (Nat×Nat):=(List.range n).flatMap fun i=>(List.range (64*m)).map fun r=>(i,r)
theorem aP3(n m i r:Nat):(i,r)∈aP2 n m↔i<n/\r<64*m:=by
 simp only[aP2,G2,C2,r_,B4];constructor;.rintro⟨a,c,b,d,rfl,rfl⟩;exact⟨c,d⟩
 .rintro⟨e,f⟩;exact⟨i,e,r,f,rfl,rfl⟩
def aIx(n m:Nat)(I:Nat->List Nat):Nat:=((aP2 n m).filter fun p=>!bit (I p.1) p.2).length
theorem bKp{m:Nat}{W:Tc_}(a:WOK m W){r:Nat}(b:64*m<=r):bit W r=false:=by unfold bit;rw[List.getD,B7 (by rw[a.len];omega)];exact Q8 _
theorem bCb{m:Nat}{W V:Tc_}(e:WOK m W)(b:WOK m V)(h:∀r,bit W r=bit V r):W=V:=by
 apply M9 (by rw[e.len,b.len]);intro q a d;apply Y8;intro j;by_cases hj:j<64;.have:=h (64*q+j);unfold bit at this;rw[show(64*q+j) / 64=q by omega,show(64*q+j) % 64=j by omega]at this;simpa only[List.getD,D_ a,D_ d,Option.getD_some] using this
 .have c:(18446744073709551616:Nat)<=2 ^ j:=N9 (n:=2) C_ (show 64<=j by omega);rw[P8 (E7 (e.lt _ (B8 a)) c),P8 (E7 (b.lt _ (B8 d)) c)]
theorem bKq{m:Nat}{W V:Tc_}(a:WOK m W)(d:WOK m V)(h:W≠V)(b:∀r,bit V r=true->bit W r=true):∃r,r<64*m/\bit W r=true/\bit V r=false:=by
 apply K5;intro c;apply h;refine bCb a d fun r=>?_;cases hw:bit W r with
 |false =>
  cases hv:bit V r with
  |false=>rfl
  |true=>rw[b r hv]at hw;cases hw
 |true =>
  cases hv:bit V r with
  |true=>rfl
  |false =>
   refine absurd ⟨r,?_,hw,hv⟩ c;rcases D2 r (64*m)with h1|h1;.exact h1
   .rw[bKp a h1]at hw;cases hw
def aB1(lb:List (Nat×Int×Int))(l:List VI)(I:Nat->List Nat)(i r:Nat):Bool:=(bhd lb l i).any fun k=>bit (I k) r
def eqn(lb:List (Nat×Int×Int))(l:List VI)(U D I:Nat->List Nat)(i r:Nat):Bool:=bit (U i) r||(aB1 lb l I i r&&!bit (D i) r)
inductive Lv (lb:List (Nat×Int×Int)) (l:List VI) (U D:Nat->List Nat) (r:Nat):Nat->Prop
 |use {i:Nat} (h:bit (U i) r=true):Lv lb l U D r i
 |step {i k:Nat} (hk:k∈bhd lb l i) (h:Lv lb l U D r k) (hd:bit (D i) r=false):Lv lb l U D r i
theorem bCc{lb:Td_}{l:List VI}{U D I I':Te_}(h:∀k r,bit (I k) r=true->bit (I' k) r=true)(i r:Nat)(a:eqn lb l U D I i r=true):eqn lb l U D I' i r=true:=by
 unfold eqn aB1 at *
 rw[D3]at a |-;rcases a with a|a;.exact .inl a
 .rw[O_]at a |-;refine .inr ⟨?_,a.2⟩;obtain⟨k,c,b⟩:=E5.1 a.1;exact E5.2 ⟨k,c,h k r b⟩
theorem bQ0{lb:Td_}{l:List VI}{U D I:Te_}(h:∀k r,bit (I k) r=true->Lv lb l U D r k)(i r:Nat)(a:eqn lb l U D I i r=true):Lv lb l U D r i:=by
 unfold eqn aB1 at a;rw[D3,O_]at a;rcases a with a|⟨a,d⟩;.exact .use a
 .obtain⟨k,c,b⟩:=E5.1 a;exact .step c (h k r b) (by simpa using d)
structure aIy (lb:List (Nat×Int×Int)) (l:List VI) (U D I:Nat->List Nat):Prop where
 pre:∀i r,bit (I i) r=true->eqn lb l U D I i r=true
 snd:∀i r,bit (I i) r=true->Lv lb l U D r i
theorem bCd{I:Te_}{i:Nat}{A:Tc_}(h:∀r,bit (I i) r=true->bit A r=true)(k r:Nat)(a:bit (I k) r=true):bit (upd I i A k) r=true:=by
 unfold upd;split;.subst_vars;exact h r a
 .exact a
theorem aIy.upd{lb:Td_}{l:List VI}{U D I:Te_}(h:aIy lb l U D I){i:Nat}{A:Tc_}(c:∀r,bit A r=eqn lb l U D I i r):aIy lb l U D (upd I i A):=by
 have b:=bCd (I:=I) (i:=i) (A:=A) fun r a=>by rw[c];exact h.pre i r a
 refine⟨fun j r a=>?_,fun j r a=>?_⟩
 .refine bCc b j r ?_;unfold Proofs.YtehlgnfhkidgoaaGreatDoor.upd at a;split at a;.subst_vars;rw[<-c];exact a
  .exact h.pre j r a
 .unfold Proofs.YtehlgnfhkidgoaaGreatDoor.upd at a;split at a;.subst_vars;rw[c]at a;exact bQ0 h.snd _ r a
  .exact h.snd j r a
theorem bKr{n m:Nat}{I I':Te_}(h:∀k r,bit (I k) r=true->bit (I' k) r=true):aIx n m I'<=aIx n m I:=by
 refine bCa _ _ _ fun p a=>?_;simp only[D5]at a |-;cases hb:bit (I p.1) p.2 with
 |false=>rfl
 |true=>rw[h _ _ hb]at a;cases a
theorem bKs{n m:Nat}{I I':Te_}(h:∀k r,bit (I k) r=true->bit (I' k) r=true){i r:Nat}(d:i<n)(e:r<64*m)(b:bit (I' i) r=true)(c:bit (I i) r=false):aIx n m I'<aIx n m I:=by
 refine bQz _ _ _ (fun p a=>?_) ((aP3 n m i r).2 ⟨d,e⟩) (by simp[c]) (by simp[b]);simp only[D5]at a |-;cases hb:bit (I p.1) p.2 with
 |false=>rfl
 |true=>rw[h _ _ hb]at a;cases a
theorem RS.keep{S S':aA}{j n m:Nat}{a:Th_}{I:Te_}(h:RS S j n m a I)(k:bL [1,2] S S')(c:j∉[1,2]):RS S' j n m a I :=
 ⟨k.get _ _ c h.row,h.ge,fun i b=>k.get _ _ (by have:=h.ge i b;simp;omega) (h.set i b),h.ok⟩
structure Rd (lb:List (Nat×Int×Int)) (l:List VI) (n m:Nat) (U D I0 I O:Nat->List Nat) (i:Nat) (ch:Bool):Prop where
 grow:aIy lb l U D I
 more:aIx n m I<=aIx n m I0
 yes:ch=true->aIx n m I<aIx n m I0
 no:ch=false->I=I0/\∀j,i<=j->j<n->(∀r,bit (I j) r=eqn lb l U D I j r)/\∀r,bit (O j) r=aB1 lb l I j r
theorem Rd.step{lb:Td_}{l:List VI}{n m:Nat}{U D I0 I O:Te_}{i:Nat}{o:Bool}(h:Rd lb l n m U D I0 I O (i+1) o)(x:i<n){A B:Tc_}(v:WOK m A)(s:WOK m (I i))(p:∀r,bit B r=aB1 lb l I i r)(a:∀r,bit A r=eqn lb l U D I i r): Rd lb l n m U D I0 (upd I i A) (upd O i B) i (!decide (A=I i)||o):=by
 have b:∀r,bit (I i) r=true->bit A r=true:=fun r q=>by rw[a];exact h.grow.pre i r q
 have c:=bCd (I:=I) (i:=i) (A:=A) b;have z:=bKr (n:=n) (m:=m) c;by_cases e:A=I i
 .have t:upd I i A=I:=by funext j;unfold upd;split<;>simp_all
  rw[V_ e,E4,G0,t];refine⟨h.grow,h.more,h.yes,fun k=>?_⟩;obtain⟨d,g⟩:=h.no k;refine⟨d,fun j y f=>?_⟩;by_cases ej:j=i;.subst ej;rw[bU];exact⟨fun r=>by rw[<-e];exact a r,p⟩
  .rw[cZ _ _ ej];exact g j A_ f
 .rw[Z_ e,P4,F4];obtain⟨r,w,d,g⟩:=bKq v s e b;have u:=bKs (n:=n) (m:=m) c x w (by rw[bU];exact d) g;refine⟨h.grow.upd a,by have:=h.more;omega,fun _=>by have:=h.more;omega,fun k=>by cases k⟩
theorem aT1{f:VF}{lb:Td_}{n m:Nat}{U D I0:Te_}{P N:Th_}(W:(f.regs+63) / 64=m)(hr:f.regs<=1000000)(Z:n<=1000000)(y:f.ins.length=n)(u:aLz lb f.ins)(x0 G x2 F x4 x5 x9 x10 x11 x12 x15 x16 e k g s p:TV):∀(i:Nat) (S:aA) (E C:Th_) (I O:Te_) (t:Bool) (o:TV),i<=n ->FlS S f lb n m E C I O->RS S 4 n m P U->RS S 5 n m N D->Rd lb f.ins n m U D I0 I O i t ->∃(S':aA) (q l:Th_) (I' O':Te_) (d:Bool) (h:TV),lp' (lim K) t31L0 [x0,G,x2,F,x4,x5,.ptr 3 65 0,.msl 4 0 0 n n 1,.msl 5 0 0 n n 1,x9,x10,x11,x12,.iv (.bool t),j_ ((i:Int)-1),x15,x16,e,k,g,s,p,o] S = .ret (.exit 4,[x0,G,x2,F,x4,x5,.ptr 3 65 0,.msl 4 0 0 n n 1,.msl 5 0 0 n n 1,x9,x10,x11,x12,.iv (.bool d),j_ (-1),x15,x16,e,k,g,s,p,h],S') /\FlS S' f lb n m q l I' O'/\RS S' 4 n m P U/\RS S' 5 n m N D/\Rd lb f.ins n m U D I0 I' O' 0 d
 |0,S,E,C,I,O,t,o,hi,hF,hU,hD,hR=>by refine⟨S,E,C,I,O,t,z_,aE K _ _ t31L0.eq_1 ?_,hF,hU,hD,hR⟩;rw[show((0:Nat):Int)-1 = -1 from rfl];simp(disch:=omega)only[go_sem]
 |i+1,S,E,C,I,O,t,o,hi,hF,hU,hD,hR=>by
  have c:i<n:=A_;obtain⟨S1,A,B,a,b,x,J,hA,hB,w,Q,hk⟩:=bQy hF W hr Z y u c (hU.ok i c) (hD.ok i c) (hU.set i c) (hD.set i c);have L:=hR.step c hA (hF.inn.ok i c) (B:=B) w (fun r=>by rw[Q r,w r];rfl);have H:=hU.keep hk B_;have R:=hD.keep hk B_;have T:=fun j=>jK (j:=j) (v:=0) (cap:=n) c;have Y:=dO (fun i=>TV.msl (P i) 0 0 m m 1) c;have s2:=dO (fun i=>TV.msl (N i) 0 0 m m 1) c;have g1:=hU.row;have V:=hD.row;rw[show(((i+1:Nat):Int)-1)=(i:Int) by omega];generalize (!decide (A=I i))=bb at *
  obtain⟨S',q,l,I',O',d,h,z,hx⟩:=aT1 W hr Z y u x0 G x2 F x4 x5 x9 x10 x11 x12 x15 x16 e k g s p i S1 _ _ _ _ (bb||t) e_ A_ J H R L;refine⟨S',q,l,I',O',d,h,aE K _ _ t31L0.eq_1 ?_,hx⟩;cases bb with
  |true =>rw[F4]at z;simp(disch:=omega)only[go_sem,T,g1,V,Y,s2,x,aC];exact X_ er z
  |false =>rw[G0]at z;simp(disch:=omega)only[go_sem,T,g1,V,Y,s2,x,aC];exact X_ er z
theorem aT2{f:VF}{lb:Td_}{n m:Nat}{U D:Te_}{P L:Th_}(H:(f.regs+63) / 64=m)(N:f.regs<=1000000)(J:n<=1000000)(A:f.ins.length=n)(x:aLz lb f.ins)(x0 s x2 p x4 x9 x10 x11 x12 x15 x16 a d b e:TV):∀(q:Nat) (S:aA) (G F:Th_) (I O:Te_) (x14 z l:TV),aIx n m I<=q ->FlS S f lb n m G F I O->RS S 4 n m P U->RS S 5 n m L D->aIy lb f.ins U D I ->∃(S':aA) (o i:Th_) (I' O':Te_) (k g c:TV),lp' (lim K) t31L1 [x0,s,x2,p,x4,j_ n,.ptr 3 65 0,.msl 4 0 0 n n 1,.msl 5 0 0 n n 1,x9,x10,x11,x12,e_,x14,x15,x16,a,d,b,e,z,l] S = .ret (.exit 2,[x0,s,x2,p,x4,j_ n,.ptr 3 65 0,.msl 4 0 0 n n 1,.msl 5 0 0 n n 1,x9,x10,x11,x12,z_,k,x15,x16,a,d,b,e,g,c],S') /\FlS S' f lb n m o i I' O'/\RS S' 4 n m P U/\RS S' 5 n m L D/\aIy lb f.ins U D I'/\∀j,j<n->(∀r,bit (I' j) r=eqn lb f.ins U D I' j r)/\∀r,bit (O' j) r=aB1 lb f.ins I' j r
 |q,S,G,F,I,O,x14,z,l,hq,hF,hU,hD,hG=>by
  obtain⟨S1,u,w,I1,O1,ch,c,Q,v,t,y,C⟩:=aT1 (I0:=I) H N J A x x0 s x2 p x4 (j_ n) x9 x10 x11 x12 x15 x16 a d b e e_ n S G F I O false l (L_ _) hF hU hD ⟨hG,L_ _,(fun h=>by cases h),fun _=>⟨rfl,fun j Y R=>A_⟩⟩;cases ch with
  |false =>
   obtain⟨Y,R⟩:=C.no rfl;refine⟨S1,u,w,I1,O1,j_ (-1),z_,c,?_,v,t,y,C.grow,fun j Z=>R j (I8 _) Z⟩;have l2:lp' (lim K) t31L1 [x0,s,x2,p,x4,j_ n,.ptr 3 65 0,.msl 4 0 0 n n 1,.msl 5 0 0 n n 1,x9,x10,x11,x12,z_,j_ (-1),x15,x16,a,d,b,e,e_,c] S1=.ret (.exit 2,[x0,s,x2,p,x4,j_ n,.ptr 3 65 0,.msl 4 0 0 n n 1,.msl 5 0 0 n n 1,x9,x10,x11,x12,z_,j_ (-1),x15,x16,a,d,b,e,z_,c],S1):=by refine aE K _ _ t31L1.eq_1 ?_;simp(disch:=omega)only[go_sem]
   refine aE K _ _ t31L1.eq_1 ?_;simp(disch:=omega)only[go_sem,aC];rw[Q];simp(disch:=omega)only[go_sem];exact X_ er l2
  |true =>
   have T:=C.yes rfl;match q,hq with
   |0,hq=>omega
   |q+1,hq =>obtain⟨S',o,i,I',O',k,g,E,V,W⟩:=aT2 H N J A x x0 s x2 p x4 x9 x10 x11 x12 x15 x16 a d b e q S1 u w I1 O1 (j_ (-1)) e_ c A_ v t y C.grow;refine⟨S',o,i,I',O',k,g,E,aE K _ _ t31L1.eq_1 ?_,W⟩;simp(disch:=omega)only[go_sem,aC];rw[Q];simp(disch:=omega)only[go_sem];exact X_ er V
theorem bKt(v:VI)(h:(15<=v.op/\v.op<=22)\/v.op=24\/v.op=64\/v.op=74):∃e,cY e (bB v)/\TM.Pure K 42 [.iv (.agg (aJ v))] (.iv (.sl e (TM.one (.int .i64) (bB v)))):=by
 have g:bB v=tdy [v.a]:=by unfold bB;rw[I_ A_,K_ A_]
 rw[g];have f:([.cells 0 false [vI v.a]]:aA)[0]?=some (.cells 0 false ([v.a].map vI++[])):=rfl;obtain⟨J,d⟩:=zF B_ (cap:=1) B_ f (jR [v.a]);have c:=aC6 v.op;rw[Z_ A_]at c;refine⟨.no,aG1 _,gO (S:=[.cells 0 false ((tdy [v.a]).map vI++J)]) (aI K _ (fn:=t42) rfl rfl ?_) (lG (j:=0) (v:=0) (b:=false) (J:=J) rfl 1)⟩;simp only[vI,List.length_cons,List.length_nil,List.set_cons_zero,A9,Nat.reduceAdd]at d;rcases h with h|h|h|h<;>simp(disch:=omega)only[t42,go_sem,aJ,Q_,C3,d,aD c]
theorem bKu(v:VI)(h:v.op<1\/v.op=23\/(32<=v.op/\v.op<=63)\/v.op=65\/v.op=66\/v.op=69\/v.op=70\/v.op=71\/v.op=73\/74<v.op):∃b,cY b (bB v)/\TM.Pure K 42 [.iv (.agg (aJ v))] (.iv (.sl b (TM.one (.int .i64) (bB v)))):=by
 have c:bB v=[]:=by unfold bB;rw[I_ A_,I_ A_,I_ A_]
 rw[c];have a:=aC6 v.op;rw[Z_ A_]at a;refine⟨.nil,cY.nil,aT t42 rfl rfl ?_⟩;rcases h with h|h|h|h|h|h|h|h|h|h<;>simp(disch:=omega)only[t42,go_sem,aJ,Q_,C3,aD a]<;>rfl
theorem bKv(v:VI)(l:v.us.length<=999990)(k:cY v.tu v.us)(h:v.op=67\/v.op=68\/v.op=72):∃g,cY g (bB v)/\TM.Pure K 42 [.iv (.agg (aJ v))] (.iv (.sl g (TM.one (.int .i64) (bB v)))):=by
 have i:bB v=tdy (v.us++[26]):=by unfold bB;rw[I_ A_,I_ A_,K_ h]
 rw[i];have c:=aC6 v.op;rw[Z_ A_]at c;rcases aP0 v.tu v.us k A_ []with⟨hu0,t0,ht0,c23⟩|⟨hu0,c23⟩;.rw[hu0]at c23 |-;have d:=aLy (S:=[]) 26 ht0 .full;have f:([.cells 0 true [vI 26]]:aA)[0]?=some (.cells 0 true ([(26:Int)].map vI++[])):=rfl;obtain⟨J,a⟩:=zF B_ (cap:=1) B_ f (jR [(26:Int)]);refine⟨.no,aG1 _,gO (S:=[.cells 0 true ((tdy [(26:Int)]).map vI++J)]) (aI K _ (fn:=t42) rfl rfl ?_) (lG (j:=0) (v:=0) (b:=true) (J:=J) rfl 1)⟩;simp only[vI,List.length_cons,List.length_nil,List.set_cons_zero,A9,Nat.reduceAdd,List.nil_append]at a d;rcases h with h|h|h<;>simp(disch:=omega)only[t42,go_sem,aJ,Q_,C3,hu0,c23,d,a,aD c]
 .have e:([.cells 0 true (v.us.map vI)]:aA)[0]?=some (.cells 0 true (v.us.map vI)):=rfl;have d:=aPz (S:=[.cells 0 true (v.us.map vI)]) true 26 e A_ .full;have f:([.cells 1 true ((v.us++[26]).map vI)]:aA)[0]?=some (.cells 1 true ((v.us++[(26:Int)]).map vI++[])):=B_;obtain⟨J,a⟩:=zF (by simp;omega) (cap:=v.us.length+1) B_ f (jR (v.us++[(26:Int)]));refine⟨.no,aG1 _,gO (S:=[.cells 1 true ((tdy (v.us++[(26:Int)])).map vI++J)]) (aI K _ (fn:=t42) rfl rfl ?_) (lG (j:=0) (v:=1) (b:=true) (J:=J) rfl (v.us.length+1))⟩;rw[H_,List.length_singleton]at a;simp only[List.set_cons_zero,A9,List.nil_append,List.length_nil]at a d c23;rcases h with h|h|h<;>simp(disch:=omega)only[t42,go_sem,aJ,Q_,C3,c23,d,a,aD c]
theorem bCe(v:VI)(b:v.us.length<=999990)(c:cY v.tu v.us):∃a,cY a (bB v)/\TM.Pure K 42 [.iv (.agg (aJ v))] (.iv (.sl a (TM.one (.int .i64) (bB v)))):=by
 by_cases h1:(1<=v.op/\v.op<=14)\/v.op=25\/(26<=v.op/\v.op<=31)
 .exact bKd v h1
 .by_cases h2:(15<=v.op/\v.op<=22)\/v.op=24\/v.op=64\/v.op=74;.exact bKt v h2
  .by_cases h3:v.op=67\/v.op=68\/v.op=72;.exact bKv v b c h3
   .exact bKu v A_
theorem bCf(d:Int)(b:aG)(x0 c x2 x5 x6 x7:TV):∀(k i:Nat) (x4 x9:TV),i+k=25->1<=i ->∃e g,lp' (lim K) t43L0 [x0,c,x2,.msl 1 (i-1) 0 (3+i) (3+i) 1,x4,x5,x6,x7,j_ (i:Int),x9] [b,.cells (i-1) true (([d,26,31]++dN.take i).map vI)] = .ret (.exit 1,[x0,c,x2,.msl 1 24 0 28 28 1,e,x5,x6,x7,j_ 25,g],[b,.cells 24 true (([d,26,31]++dN.take 25).map vI)])
 |0,i,x4,x9,h,hi=>by obtain rfl:i=25:=A_;refine⟨x4,z_,aE K _ _ t43L0.eq_1 ?_⟩;simp(disch:=omega)only[go_sem];rfl
 |k+1,i,x4,x9,h,hi=>by
  have a:([d,26,31]++dN.take i).length=3+i:=by simp[dN];omega
  have f:=aPz (S:=[b,.cells (i-1) true (([d,26,31]++dN.take i).map vI)]) (j:=1) false ((i:Int)+1) rfl A_ .full;have m:([d,26,31]++dN.take i)++[(i:Int)+1]=[d,26,31]++dN.take (i+1):=by rw[iV (by simp[dN];omega),<-A8];congr 2;simp[dN,List.getD,show i<26 by omega]
  rw[m,a,show i-1+1=i by omega]at f;obtain⟨e,g,l⟩:=bCf d b x0 c x2 x5 x6 x7 k (i+1) (j_ i) e_ A_ A_;rw[show((i+1:Nat):Int)=(i:Int)+1 by omega,show i+1-1=i by omega,show 3+(i+1)=3+i+1 by omega]at l;refine⟨e,g,aE K _ _ t43L0.eq_1 ?_⟩;simp only[List.set_cons_succ,List.set_cons_zero]at f;generalize hX:([d,26,31]++dN.take i).map vI=X at *
  simp(disch:=omega)only[go_sem,f,aC];exact X_ er l
theorem bKw(d:Int)(x0 a x2 x4 x5 x6 x7 x9:TV) : ∃b c,lp' (lim K) t43L0 [x0,a,x2,.msl 0 0 0 3 3 1,x4,x5,x6,x7,j_ 0,x9] [.cells 0 false ([d,26,31].map vI)] = .ret (.exit 1,[x0,a,x2,.msl 1 24 0 28 28 1,b,x5,x6,x7,j_ 25,c],[.cells 0 false ([d,26,31].map vI),.cells 24 true (([d,26,31]++dN.take 25).map vI)]):=by
 have f:=bKb (S:=[.cells 0 false ([d,26,31].map vI)]) (j:=0) (C:=[d,26,31]) false 1 rfl B_ .full;obtain⟨b,c,e⟩:=bCf d (.cells 0 false ([d,26,31].map vI)) x0 a x2 x5 x6 x7 24 1 (j_ 0) e_ A_ A_;refine⟨b,c,aE K _ _ t43L0.eq_1 ?_⟩;rw[show((1:Nat):Int)=1 from rfl,show 1-1=0 from rfl,show 3+1=4 from rfl,show dN.take 1=[1] by decide]at e;simp only[List.length_cons,List.length_nil,A9,Nat.reduceAdd,List.cons_append,List.nil_append]at f;generalize hX:[d,26,31].map vI=X at *
 have g:IntKind.i64.wrap 1=1:=C_;simp(disch:=omega)only[go_sem,g,f];exact X_ er e
theorem bKx(v:VI)(h:(1<=v.op/\v.op<=24)\/v.op=64\/v.op=69\/v.op=70\/v.op=71\/v.op=73):∃c,cY c (aW v)/\TM.Pure K 43 [.iv (.agg (aJ v))] (.iv (.sl c (TM.one (.int .i64) (aW v)))):=by
 have f:aW v=tdy [v.d]:=by unfold aW;rw[K_ A_]
 rw[f];have e:([.cells 0 false [vI v.d]]:aA)[0]?=some (.cells 0 false ([v.d].map vI++[])):=rfl;obtain⟨J,a⟩:=zF B_ (cap:=1) B_ e (jR [v.d]);refine⟨.no,aG1 _,gO (S:=[.cells 0 false ((tdy [v.d]).map vI++J)]) (aI K _ (fn:=t43) rfl rfl ?_) (lG (j:=0) (v:=0) (b:=false) (J:=J) rfl 1)⟩;simp only[vI,List.length_cons,List.length_nil,List.set_cons_zero,A9,Nat.reduceAdd]at a;rcases h with h|h|h|h|h|h<;>simp(disch:=omega)only[t43,go_sem,aJ,Q_,C3,a]
theorem bKy(v:VI)(h:v.op<1\/(25<=v.op/\v.op<=63)\/v.op=65\/v.op=66\/v.op=68\/v.op=72\/73<v.op):∃a,cY a (aW v)/\TM.Pure K 43 [.iv (.agg (aJ v))] (.iv (.sl a (TM.one (.int .i64) (aW v)))):=by
 have b:aW v=[]:=by unfold aW;rw[I_ A_,I_ A_]
 rw[b];refine⟨.nil,cY.nil,aT t43 rfl rfl ?_⟩;rcases h with h|h|h|h|h|h|h<;>simp(disch:=omega)only[t43,go_sem,aJ,Q_,C3]<;>rfl
theorem bKz(v:VI)(h:v.op=67):∃m,cY m (aW v)/\TM.Pure K 43 [.iv (.agg (aJ v))] (.iv (.sl m (TM.one (.int .i64) (aW v)))):=by
 have o:bQq ([v.d,26,31]++dN.take 25) (aW v):=by
  unfold aW;rw[I_ A_,K_ h];have t:=jR (dN++[31,v.d]);refine⟨t.rise,fun x=>(t.mem x).trans ?_⟩;have i:∀x:Int,x∈dN↔x=26\/x∈dN.take 25:=by
   intro x;have e:dN=dN.take 25++[26]:=C_;conv=>lhs;rw[e]
   simp only[U_,S_];constructor<;>(rintro(h|h)<;>simp[h])
  simp only[U_,J_,D1,H2,i];constructor
  .rintro⟨a,l⟩;refine⟨?_,l⟩;rcases a with(a|a)|a|a;.exact .inl (.inr (.inl a))
   .exact .inr a
   .exact .inl (.inr (.inr a))
   .exact .inl (.inl a)
  .rintro⟨a,l⟩;refine⟨?_,l⟩;rcases a with(a|a|a)|a;.exact .inr (.inr a)
   .exact .inl (.inl a)
   .exact .inr (.inl a)
   .exact .inl (.inr a)
 have f:([v.d,26,31]++dN.take 25).length=28:=by simp[dN]
 obtain⟨p,q,g⟩:=bKw v.d (.iv (.agg (aJ v))) (.lb ((aJ v).map .iv)) k_ u_ z_ z_ e_ u_;rw[aY,dH]at g;have n:([.cells 0 false ([v.d,26,31].map vI),.cells 24 true (([v.d,26,31]++dN.take 25).map vI)]:aA)[1]?=some (.cells 24 true (([v.d,26,31]++dN.take 25).map vI++[])):=by rw[A0];rfl
 obtain⟨J,c⟩:=zF A_ (cap:=28) A_ n o;rw[f]at c;refine⟨.no,aG1 _,gO (S:=[.cells 0 false ([v.d,26,31].map vI),.cells 24 true ((aW v).map vI++J)]) (aI K _ (fn:=t43) rfl rfl ?_) (lG (j:=1) (v:=24) (b:=true) (J:=J) rfl 28)⟩;simp only[List.set_cons_succ,List.set_cons_zero]at c;simp(disch:=omega)only[t43,go_sem,aJ,Q_,C3];have k:[v.d,26,31].map vI=[TV.iv (.int .i64 v.d),j_ 26,j_ 31]:=rfl;generalize hX:([v.d,26,31]++dN.take 25).map vI=X at *
 rw[k]at g c;rw[g];simp(disch:=omega)only[go_sem,c];rfl
theorem aP4(v:VI):∃a,cY a (aW v)/\TM.Pure K 43 [.iv (.agg (aJ v))] (.iv (.sl a (TM.one (.int .i64) (aW v)))):=by
 by_cases h1:(1<=v.op/\v.op<=24)\/v.op=64\/v.op=69\/v.op=70\/v.op=71\/v.op=73;.exact bKx v h1
 .by_cases h3:v.op=67;.exact bKz v h3
  .exact bKy v A_
theorem aL0(l:Td_)(c:Nat)(k:Int):lkB (.leaf .int) (.agg [.int .i64 0]) true (some (.mp (mpR kE l) c)) (j_ k)=some (.tup [.iv (.agg [.int .i64 (lT l k)]),.iv (.bool (cB l k))]):=by rw[aAo];simp only[lT,cB];cases dI l k<;>rfl
def dP(l:List VI)(L:Int):Option Int:=(l.findIdx? fun x=>decide (x.op=65)&&decide (x.lb=L)).map fun k:Nat=>(k:Int)
theorem aL1(l:List VI)(x:VI)(L:Int):dP (l++[x]) L=match dP l L with
  |some k=>some k
  |none=>if x.op=65/\x.lb=L then some (l.length:Int)else none:=by
 unfold dP
 rw[Y4]
 cases h:l.findIdx? (fun x=>decide (x.op=65)&&decide (x.lb=L))with
 |some k=>simp
 |none =>
  by_cases e:x.op=65/\x.lb=L;.simp[e]
  .rw[I_ e];have:(decide (x.op=65)&&decide (x.lb=L))=false:=by
    cases h1:(decide (x.op=65)&&decide (x.lb=L))with
    |false=>rfl
    |true=>simp at h1;exact absurd h1 e
   simp[O8,this]
structure RP (S:aA) (j n m i:Nat) (ia:Nat->Nat) (I:Nat->List Nat):Prop where
 row:S[j]?=some (.cells 0 false (cF n fun q=>if q<i then .msl (ia q) 0 0 m m 1 else .iv (.sl .nil [])))
 ge:∀q,q<i->6<=ia q
 set:∀q,q<i->S[ia q]?=some (.cells 0 false ((I q).map uI))
 ok:∀q,q<i->WOK m (I q)
theorem RP.done{S:aA}{j n m:Nat}{a:Th_}{I:Te_}(h:RP S j n m n a I):RS S j n m a I:=by refine⟨?_,h.ge,h.set,h.ok⟩;rw[h.row];congr 2;apply R9;intro q b;rw[K_ (C2.1 b)]
def LOW:List Nat:=[0,1,2,4,5]
theorem RP.step{S S':aA}{j n m i:Nat}{b:Th_}{I:Te_}(h:RP S j n m i b I)(k:bL LOW S S'){a:Nat}{W:Tc_}(d:6<=a)(l:WOK m W)(g:S'[j]?=some (.cells 0 false (cF n (upd (fun q=>if q<i then .msl (b q) 0 0 m m 1 else k_) i (.msl a 0 0 m m 1)))))(f:S'[a]?=some (.cells 0 false (W.map uI))):RP S' j n m (i+1) (upd b i a) (upd I i W):=by
 refine⟨?_,fun q c=>?_,fun q c=>?_,fun q c=>?_⟩
 .rw[g];congr 3;funext q;unfold upd;by_cases e:q=i;.subst e;simp
  .by_cases e2:q<i;.rw[I_ e,I_ e];dsimp only;rw[K_ e2,K_ A_]
   .rw[I_ e];dsimp only;rw[I_ e2,I_ A_]
 .unfold upd;split;.exact d
  .exact h.ge q A_
 .by_cases e:q=i;.subst e;rw[bU,bU];exact f
  .rw[cZ _ _ e,cZ _ _ e];have:=h.ge q A_;exact k.get _ _ (by simp[LOW];omega) (h.set q A_)
 .unfold upd;split;.exact l
  .exact h.ok q A_
structure FP (S:aA) (f:VF) (lb:List (Nat×Int×Int)) (n m i:Nat) (ia oa ua da:Nat->Nat) (I O U D:Nat->List Nat):Prop where
 lab:∃c,S[0]?=some (.mp (mpR kE lb) c)
 lbs:∀L,dI lb L=dP (f.ins.take i) L
 inn:RP S 1 n m i ia I
 out:RP S 2 n m i oa O
 us:RP S 4 n m i ua U
 ds:RP S 5 n m i da D
 flw:S[3]?=some (.cells 65 false [.iv (.int .i64 f.fn),.iv (.int .i64 f.regs),.iv (.int .i64 f.sl),.iv (.int .i64 f.nd),.iv (.int .i64 f.pr),.iv (.bool f.rs),.iv (.sl f.ti (f.ins.map aJ)),.map 0,.msl 1 0 0 n n 1,.msl 2 0 0 n n 1])
 len:6<=S.length
 zer:∀q r,q<i->bit (I q) r=false
 use:∀q r,q<i->(bit (U q) r=true↔(r:Int)∈bB (f.ins.getD q default)/\r<f.regs)
 dfn:∀q r,q<i->(bit (D q) r=true↔(r:Int)∈aW (f.ins.getD q default)/\r<f.regs)
theorem aWq(v:VI):∀x∈bB v,0<=x:=by
 intro x a;unfold bB at a;repeat' split at a
 all_goals first|(have:=aIs a;omega)|cases a
theorem aWr(v:VI):∀x∈aW v,0<=x:=by
 intro x a;unfold aW at a;repeat' split at a
 all_goals first|(have:=aIs a;omega)|cases a
theorem aWs(v:VI):(bB v).length<=v.us.length+2:=by
 unfold bB;repeat' split
 .exact C0 (uM _) B_
 .exact C0 (uM _) B_
 .exact C0 (uM _) B_
 .simp
theorem zG(v:VI):(aW v).length<=30:=by
 unfold aW;repeat' split
 .exact C0 (uM _) B_
 .exact C0 (uM _) (by simp[dN])
 .simp
def sN(T:aA)(r1 r2 r4 r5 cU cD cI cO:aG):aA:=((((T++[cU]++[cD]).set 4 r4).set 5 r5++[cI]++[cO]).set 1 r1).set 2 r2
theorem aIz{T:aA}(g h d c b a e f:aG)(k:6<=T.length):sN T g h d c b a e f=(((T.set 4 d).set 5 c).set 1 g).set 2 h++[b,a,e,f]:=by
 unfold sN;have i:T++[b]++[a]=T++[b,a]:=B_;have e2:((T++[b,a]).set 4 d).set 5 c=(T.set 4 d).set 5 c++[b,a]:=by rw[N8 _ _ A_,N8 _ _ (by rw[F5];omega)]
 have j:((T.set 4 d).set 5 c).length=T.length:=B_;rw[i,e2];generalize (T.set 4 d).set 5 c=X at *
 have e3:X++[b,a]++[e]++[f]=X++[b,a,e,f]:=B_;rw[e3,N8 _ _ A_,N8 _ _ (by rw[F5];omega)]
theorem aL2(T:aA)(d g f c e b a h:aG):(sN T d g f c e b a h).length=T.length+4:=by unfold sN;simp
theorem bCg{T:aA}(b d c a g f e h:aG)(i:6<=T.length):(sN T b d c a g f e h)[0]?=T[0]? /\ (sN T b d c a g f e h)[3]?=T[3]? /\ (sN T b d c a g f e h)[1]?=some b/\(sN T b d c a g f e h)[2]?=some d/\(sN T b d c a g f e h)[4]?=some c/\(sN T b d c a g f e h)[5]?=some a:=by
 rw[aIz _ _ _ _ _ _ _ _ i];refine⟨?_,?_,?_,?_,?_,?_⟩<;>rw[W_ (by simp;omega)];.rw[aB C_,aB C_,aB C_,aB C_]
 .rw[aB C_,aB C_,aB C_,aB C_]
 .rw[aB C_,aM (by simp;omega)]
 .rw[aM (by simp;omega)]
 .rw[aB C_,aB C_,aB C_,aM A_]
 .rw[aB C_,aB C_,aM (by simp;omega)]
theorem bCh{T:aA}(b d c a g f e h:aG)(j:6<=T.length):(sN T b d c a g f e h)[T.length]?=some g/\(sN T b d c a g f e h)[T.length+1]?=some f/\(sN T b d c a g f e h)[T.length+2]?=some e/\(sN T b d c a g f e h)[T.length+3]?=some h:=by
 rw[aIz _ _ _ _ _ _ _ _ j];have i:((((T.set 4 c).set 5 a).set 1 b).set 2 d).length=T.length:=B_;generalize (((T.set 4 c).set 5 a).set 1 b).set 2 d=X at *
 rw[<-i];exact⟨gN0 ..,gN1 ..,gN2 ..,gN3 ..⟩
theorem aWt{T:aA}(e i h d f c a l:aG)(j:6<=T.length):bL LOW T (sN T e i h d f c a l):=by refine⟨by rw[aL2];omega,fun q b k g=>?_⟩;simp only[LOW,J_,D1,H2,G6]at k;rw[aIz _ _ _ _ _ _ _ _ j];refine aR ?_ _;rw[aB A_,aB A_,aB A_,aB A_];exact g
def flB(f:VF)(n:Nat):aG:=.cells 65 false [.iv (.int .i64 f.fn),.iv (.int .i64 f.regs),.iv (.int .i64 f.sl),.iv (.int .i64 f.nd),.iv (.int .i64 f.pr),.iv (.bool f.rs),.iv (.sl f.ti (f.ins.map aJ)),.map 0,.msl 1 0 0 n n 1,.msl 2 0 0 n n 1]
theorem aWu{f:VF}{n m:Nat}(e:(f.regs+63) / 64=m)(c:f.regs<=1000000)(T:aA)(L:6<=T.length)(j k u l:Nat->TV)(C:T[1]?=some (aG.cells 0 false (cF n j)))(b2:T[2]?=some (aG.cells 0 false (cF n k)))(b4:T[4]?=some (aG.cells 0 false (cF n u)))(z:T[5]?=some (aG.cells 0 false (cF n l)))(b3:T[3]?=some (flB f n)) (t p:Tag) (U D:Ta_) (I:U.length<=2000000) (G:D.length<=2000000) (w:∀x∈U,0<=x) (E:∀x∈D,0<=x) (v N a b:aG): ∃WU WD WI WO:List Nat,(lim K).call 55 [j_ f.regs,.iv (.sl t (TM.one (.int .i64) U))] T=.ret (.msl T.length 0 0 m m 1,T++[aG.cells 0 false (WU.map uI)]) /\(lim K).call 55 [j_ f.regs,.iv (.sl p (TM.one (.int .i64) D))] (T++[aG.cells 0 false (WU.map uI)])=.ret (.msl (T.length+1) 0 0 m m 1,T++[aG.cells 0 false (WU.map uI)]++[aG.cells 0 false (WD.map uI)]) /\(lim K).call 55 [j_ f.regs,k_] (((T++[aG.cells 0 false (WU.map uI)]++[aG.cells 0 false (WD.map uI)]).set 4 a).set 5 b)=.ret (.msl (T.length+2) 0 0 m m 1,((T++[aG.cells 0 false (WU.map uI)]++[aG.cells 0 false (WD.map uI)]).set 4 a).set 5 b++[aG.cells 0 false (WI.map uI)]) /\(lim K).call 55 [j_ f.regs,k_] (((T++[aG.cells 0 false (WU.map uI)]++[aG.cells 0 false (WD.map uI)]).set 4 a).set 5 b++[aG.cells 0 false (WI.map uI)])=.ret (.msl (T.length+3) 0 0 m m 1,((T++[aG.cells 0 false (WU.map uI)]++[aG.cells 0 false (WD.map uI)]).set 4 a).set 5 b++[aG.cells 0 false (WI.map uI)]++[aG.cells 0 false (WO.map uI)]) /\(T++[aG.cells 0 false (WU.map uI)]++[aG.cells 0 false (WD.map uI)])[4]?=some (aG.cells 0 false (cF n u))/\((T++[aG.cells 0 false (WU.map uI)]++[aG.cells 0 false (WD.map uI)]).set 4 a)[5]?=some (aG.cells 0 false (cF n l)) /\(((T++[aG.cells 0 false (WU.map uI)]++[aG.cells 0 false (WD.map uI)]).set 4 a).set 5 b)[3]?=some (flB f n) /\(((T++[aG.cells 0 false (WU.map uI)]++[aG.cells 0 false (WD.map uI)]).set 4 a).set 5 b++[aG.cells 0 false (WI.map uI)]++[aG.cells 0 false (WO.map uI)])[1]?=some (aG.cells 0 false (cF n j)) /\((((T++[aG.cells 0 false (WU.map uI)]++[aG.cells 0 false (WD.map uI)]).set 4 a).set 5 b++[aG.cells 0 false (WI.map uI)]++[aG.cells 0 false (WO.map uI)]).set 1 v)[2]?=some (aG.cells 0 false (cF n k)) /\WOK m WU/\WOK m WD/\WOK m WI/\WOK m WO/\(∀r:Nat,bit WU r=true↔(r:Int)∈U/\r<f.regs)/\(∀r:Nat,bit WD r=true↔(r:Int)∈D/\r<f.regs)/\(∀r:Nat,bit WI r=false):=by
 obtain⟨WU,q,o,A⟩:=aC1 c t U I w T;rw[e]at q o;obtain⟨WD,e2,s,J⟩:=aC1 c p D G E (T++[aG.cells 0 false (WU.map uI)]);rw[e]at e2 s;obtain⟨WI,e3,g,F⟩:=aC1 c .nil [] B_ B_ (((T++[aG.cells 0 false (WU.map uI)]++[aG.cells 0 false (WD.map uI)]).set 4 a).set 5 b);rw[e]at e3 g;obtain⟨WO,d,i,P⟩:=aC1 c .nil [] B_ B_ (((T++[aG.cells 0 false (WU.map uI)]++[aG.cells 0 false (WD.map uI)]).set 4 a).set 5 b++[aG.cells 0 false (WI.map uI)]);rw[e]at d i;rw[qU]at e3 d;have l2:(T++[aG.cells 0 false (WU.map uI)]).length=T.length+1:=B_;have y:(((T++[aG.cells 0 false (WU.map uI)]++[aG.cells 0 false (WD.map uI)]).set 4 a).set 5 b).length=T.length+2:=B_;have H:(((T++[aG.cells 0 false (WU.map uI)]++[aG.cells 0 false (WD.map uI)]).set 4 a).set 5 b++[aG.cells 0 false (WI.map uI)]).length=T.length+3:=B_;rw[l2]at e2;rw[y]at e3;rw[H]at d;refine⟨WU,WD,WI,WO,q,e2,e3,d,?_,?_,?_,?_,?_,o,s,g,i,A,J,fun r=>?_⟩;.exact aR (aR b4 _) _
 .rw[aB C_];exact aR (aR z _) _
 .rw[aB C_,aB C_];exact aR (aR b3 _) _
 .refine aR (aR ?_ _) _;rw[aB C_,aB C_];exact aR (aR C _) _
 .rw[aB C_];refine aR (aR ?_ _) _;rw[aB C_,aB C_];exact aR (aR b2 _) _
 .cases h:bit WI r with
  |false=>rfl
  |true=>have:=(F r).1 h;simp at this
theorem sN0(S:aA)(a x:aG)(r:aA):(S++a::r).set S.length x=S++x::r:=by rw[E1 _ _ A_];simp
attribute [go_sem] sN0
theorem FP.step{S T:aA}{f:VF}{lb lb':Td_}{n m i:Nat}{t p s l:Th_}{I O U D:Te_}(h:FP S f lb n m i t p s l I O U D)(k:bL LOW S T)(hl:S.length<=T.length)(t1:T[1]?=S[1]?)(t2:T[2]?=S[2]?)(t3:T[3]?=S[3]?)(Z:T[4]?=S[4]?)(t5:T[5]?=S[5]?)(y:∃c,T[0]?=some (.mp (mpR kE lb') c))(j:∀L,dI lb' L=dP (f.ins.take (i+1)) L) {WU WD WI WO:Tc_} (V:WOK m WU) (Y:WOK m WD) (P:WOK m WI) (x:WOK m WO) (z:∀r:Nat,bit WU r=true↔(r:Int)∈bB (f.ins.getD i default)/\r<f.regs) (H:∀r:Nat,bit WD r=true↔(r:Int)∈aW (f.ins.getD i default)/\r<f.regs) (Q:∀r,bit WI r=false) {b e d a:aG} (E:b=.cells 0 false (cF n (upd (fun q=>if q<i then .msl (t q) 0 0 m m 1 else k_) i (.msl (T.length+2) 0 0 m m 1)))) (e2:e=.cells 0 false (cF n (upd (fun q=>if q<i then .msl (p q) 0 0 m m 1 else k_) i (.msl (T.length+3) 0 0 m m 1)))) (A:d=.cells 0 false (cF n (upd (fun q=>if q<i then .msl (s q) 0 0 m m 1 else k_) i (.msl T.length 0 0 m m 1)))) (w:a=.cells 0 false (cF n (upd (fun q=>if q<i then .msl (l q) 0 0 m m 1 else k_) i (.msl (T.length+1) 0 0 m m 1)))): FP (sN T b e d a (.cells 0 false (WU.map uI)) (.cells 0 false (WD.map uI)) (.cells 0 false (WI.map uI)) (.cells 0 false (WO.map uI))) f lb' n m (i+1) (upd t i (T.length+2)) (upd p i (T.length+3)) (upd s i T.length) (upd l i (T.length+1)) (upd I i WI) (upd O i WO) (upd U i WU) (upd D i WD):=by
 have o:6<=T.length:=by have:=h.len;omega
 obtain⟨N,a3,W,a2,G,a5⟩:=bCg b e d a (.cells 0 false (WU.map uI)) (.cells 0 false (WD.map uI)) (.cells 0 false (WI.map uI)) (.cells 0 false (WO.map uI)) o;obtain⟨C,R,J,F⟩:=bCh b e d a (.cells 0 false (WU.map uI)) (.cells 0 false (WD.map uI)) (.cells 0 false (WI.map uI)) (.cells 0 false (WO.map uI)) o;have g:=k.trans (aWt b e d a (.cells 0 false (WU.map uI)) (.cells 0 false (WD.map uI)) (.cells 0 false (WI.map uI)) (.cells 0 false (WO.map uI)) o);have v:=aL2 T b e d a (.cells 0 false (WU.map uI)) (.cells 0 false (WD.map uI)) (.cells 0 false (WI.map uI)) (.cells 0 false (WO.map uI));generalize sN T b e d a (.cells 0 false (WU.map uI)) (.cells 0 false (WD.map uI)) (.cells 0 false (WI.map uI)) (.cells 0 false (WO.map uI))=X at *
 refine⟨?_,j,h.inn.step g A_ P (by rw[W,E]) J,h.out.step g A_ x (by rw[a2,e2]) F,h.us.step g A_ V (by rw[G,A]) C,h.ds.step g A_ Y (by rw[a5,w]) R,by rw[a3,t3];exact h.flw,by omega,fun q r u=>?_,fun q r u=>?_,fun q r u=>?_⟩;.rw[N];exact y
 .unfold upd;split;.exact Q r
  .exact h.zer q r A_
 .unfold upd;split;.subst_vars;exact z r
  .exact h.use q r A_
 .unfold upd;split;.subst_vars;exact H r
  .exact h.dfn q r A_
theorem aT3{f:VF}{n m:Nat}(hm:(f.regs+63) / 64=m)(hr:f.regs<=1000000)(hn:n<=1000000)(ho:f.ins.length=n)(he:∀x∈f.ins,x.us.length<=999990/\cY x.tu x.us)(x0 x2 x3 x4 x13 x14 x15 h5 hc:TV):∀(k i:Nat) (S:aA) (lb:Td_) (ia oa ua Z:Th_) (I O U D:Te_) (x9 x10 x11 x12 Q E:TV),i+k=n ->FP S f lb n m i ia oa ua Z I O U D ->∃(S':aA) (lb':Td_) (C p y r:Th_) (I' O' U' D':Te_) (y9 u A z o s:TV),lp' (lim K) t31L2 [x0,.lb ((iT f).map .iv),x2,x3,x4,j_ n,.ptr 3 65 0,.msl 4 0 0 n n 1,.msl 5 0 0 n n 1,x9,x10,x11,x12,x13,x14,x15,.iv (.sl f.ti (f.ins.map aJ)),j_ n,j_ i,Q,E,h5,hc] S = .ret (.exit 0,[x0,.lb ((iT f).map .iv),x2,x3,x4,j_ n,.ptr 3 65 0,.msl 4 0 0 n n 1,.msl 5 0 0 n n 1,y9,u,A,z,x13,x14,x15,.iv (.sl f.ti (f.ins.map aJ)),j_ n,j_ n,o,s,h5,hc],S') /\FP S' f lb' n m n C p y r I' O' U' D'
 |0,i,S,lb,ia,oa,ua,Z,I,O,U,D,x9,x10,x11,x12,Q,E,hk,hF=>by obtain rfl:i=n:=A_;refine⟨S,lb,ia,oa,ua,Z,I,O,U,D,x9,x10,x11,x12,z_,E,aE K _ _ t31L2.eq_1 ?_,hF⟩;simp(disch:=omega)only[go_sem]
 |k+1,i,S,lb,ia,oa,ua,Z,I,O,U,D,x9,x10,x11,x12,Q,E,hk,hF=>by
  have hi:i<n:=A_;have h0:i<f.ins.length:=A_;have N:=jF (w:=8) (f:=aJ) iF (t:=f.ti) (l:=f.ins) (i:=(i:Int)) A_;rw[Int.toNat_natCast]at N;obtain⟨hs,hu⟩:=he (f.ins.getD i default) (by simp only[List.getD,D_ h0,Option.getD_some];exact B8 _);obtain⟨c0,d⟩:=hF.lab;have h6:=hF.len;have hp:f.ins.take (i+1)=f.ins.take i++[f.ins.getD i default]:=by rw[G4,D_ h0];simp[List.getD,D_ h0]
  have ht:(f.ins.take i).length=i:=by simp;omega
  have h3:=fun L=>aL1 (f.ins.take i) (f.ins.getD i default) L;simp only[<-hp,ht]at h3;obtain⟨tU,hv,c9⟩:=bCe (f.ins.getD i default) hs hu;obtain⟨tD,hw,G⟩:=aP4 (f.ins.getD i default);have lU:=aWs (f.ins.getD i default);have lD:=zG (f.ins.getD i default);have pU:=aWq (f.ins.getD i default);have pD:=aWr (f.ins.getD i default);have lf:=fun T h6 g1 g2 g4 g5 b1 b2 b4 b5 b3 r1 r2 r4 r5=>aWu (f:=f) (n:=n) hm hr T h6 g1 g2 g4 g5 b1 b2 b4 b5 b3 tU tD (bB (f.ins.getD i default)) (aW (f.ins.getD i default)) A_ A_ pU pD r1 r2 r4 r5;have hd:=fun T lb'=>FP.step (T:=T) (lb':=lb') hF;have h8:=fun S lb ia oa ua Z I O U D x9 x10 x11 x12 Q E=>aT3 hm hr hn ho he x0 x2 x3 x4 x13 x14 x15 h5 hc k (i+1) S lb ia oa ua Z I O U D x9 x10 x11 x12 Q E A_;have i1:=fun j=>jK (j:=j) (v:=0) (cap:=n) hi;have pc:=fun g x=>lF (n:=n) (i:=i) g x hi;generalize hx:f.ins.getD i default=x at *
  have Y:∀L,dI lb L=dP (f.ins.take i) L:=hF.lbs;have hf:∀(P:aG) (q:Nat),q<6->(S++[P])[q]?=S[q]? := fun P q hq=>W_ A_;rw[dH]at N;by_cases hB:x.op=65/\cB lb x.lb=false
  .obtain⟨ha,hh⟩:=hB;have hg:dI lb x.lb=none:=by
    cases h:dI lb x.lb with
    |none=>rfl
    |some a=>simp[cB,h]at hh
   generalize hP:aG.cells 90 false [j_ (lT lb x.lb)]=P;have h7:(S++[P])[0]?=some (.mp (mpR kE lb) c0):=aR d _;have h9:=aR hF.flw [P];generalize hT:(S++[P]).set 0 (.mp (mpR kE (gT lb c0 x.lb (i:Int))) (rV lb c0 x.lb))=T;have hj:T.length=S.length+1:=by rw[<-hT];simp
   have b:∀q,0<q->q<6->T[q]?=S[q]? := fun q h1 h2=>by rw[<-hT,aB A_,hf P q h2]
   have hk:bL LOW S T:=by rw[<-hT];exact(bL.app LOW S [P]).trans (bL.set _ (by simp[LOW]) _)
   have h4:∃c,T[0]?=some (.mp (mpR kE (gT lb c0 x.lb (i:Int))) c):=⟨_,by rw[<-hT];exact aM B_ _⟩
   have R:T[3]?=some (flB f n):=(b 3 A_ A_).trans hF.flw;obtain⟨WU,WD,WI,WO,e1,e2,e3,e4,d4,d5,d3,d1,d2,w1,w2,w3,w4,u1,u2,u3⟩:=lf T A_ _ _ _ _ ((b 1 A_ A_).trans hF.inn.row) ((b 2 A_ A_).trans hF.out.row) ((b 4 A_ A_).trans hF.us.row) ((b 5 A_ A_).trans hF.ds.row) R
    (.cells 0 false (cF n (upd (fun q=>if q<i then .msl (ia q) 0 0 m m 1 else k_) i (.msl (T.length+2) 0 0 m m 1)))) (.cells 0 false (cF n (upd (fun q=>if q<i then .msl (oa q) 0 0 m m 1 else k_) i (.msl (T.length+3) 0 0 m m 1))))
    (.cells 0 false (cF n (upd (fun q=>if q<i then .msl (ua q) 0 0 m m 1 else k_) i (.msl T.length 0 0 m m 1)))) (.cells 0 false (cF n (upd (fun q=>if q<i then .msl (Z q) 0 0 m m 1 else k_) i (.msl (T.length+1) 0 0 m m 1))))
   have W:=hd T (gT lb c0 x.lb (i:Int)) hk A_ (b 1 A_ A_) (b 2 A_ A_) (b 3 A_ A_) (b 4 A_ A_) (b 5 A_ A_) h4 (fun L=>by
    rw[qS,h3 L,<-Y L];by_cases e:x.lb=L;.subst e;rw[K_ rfl,hg];simp[ha]
    .rw[I_ e];cases dI lb L with
     |some a=>rfl
     |none=>rw[I_ (fun h=>e h.2)]) w1 w2 w3 w4 u1 u2 u3 rfl rfl rfl rfl
   obtain⟨S',lb',C,p,y,r,I',O',U',D',y9,u,A,z,o,s,H,J⟩:=h8 _ _ _ _ _ _ _ _ _ _ (j_ i) (.lb ((aJ x).map .iv)) (.ptr S.length 90 0) z_ e_ e_ W;refine⟨S',lb',C,p,y,r,I',O',U',D',y9,u,A,z,o,s,aE K _ _ t31L2.eq_1 ?_,J⟩;rw[show((i+1:Nat):Int)=(i:Int)+1 by omega,aY]at H;have g3:=hF.flw;have l2:=aL0 lb c0 x.lb;rw[hh]at l2;unfold flB at d3;have F:=aR d3 [.cells 0 false (WI.map uI)];have V:=aR F [.cells 0 false (WO.map uI)];rw[dH]at c9 G;unfold iT at *
   simp only[Q_,C3]at H |-;simp(disch:=omega)only[go_sem,N,i1,d,g3,l2,hP,h7,h9,aCw,hT,aD c9,aD G,e1,e2,d4,d5,pc,d3,F,V,e3,e4,d1,d2,aC];exact X_ er H
  .have hl:∀L,dI lb L=dP (f.ins.take (i+1)) L:=fun L=>by
    rw[h3 L,<-Y L];cases h:dI lb L with
    |some a=>rfl
    |none =>dsimp only;rw[I_];rintro⟨h1,rfl⟩;exact hB ⟨h1,by simp[cB,h]⟩
   generalize hP:aG.cells 90 false [j_ (lT lb x.lb)]=P;generalize hT:S++[P]=T;have hj:T.length=S.length+1:=by rw[<-hT];simp
   have b:∀q,q<6->T[q]?=S[q]? := fun q h2=>by rw[<-hT,hf P q h2]
   have hk:bL LOW S T:=by rw[<-hT];exact bL.app LOW S [P]
   have h4:∃c,T[0]?=some (.mp (mpR kE lb) c):=⟨c0,by rw[b 0 A_];exact d⟩
   have R:T[3]?=some (flB f n):=(b 3 A_).trans hF.flw;obtain⟨WU,WD,WI,WO,e1,e2,e3,e4,d4,d5,d3,d1,d2,w1,w2,w3,w4,u1,u2,u3⟩:=lf T A_ _ _ _ _ ((b 1 A_).trans hF.inn.row) ((b 2 A_).trans hF.out.row) ((b 4 A_).trans hF.us.row) ((b 5 A_).trans hF.ds.row) R
    (.cells 0 false (cF n (upd (fun q=>if q<i then .msl (ia q) 0 0 m m 1 else k_) i (.msl (T.length+2) 0 0 m m 1)))) (.cells 0 false (cF n (upd (fun q=>if q<i then .msl (oa q) 0 0 m m 1 else k_) i (.msl (T.length+3) 0 0 m m 1))))
    (.cells 0 false (cF n (upd (fun q=>if q<i then .msl (ua q) 0 0 m m 1 else k_) i (.msl T.length 0 0 m m 1)))) (.cells 0 false (cF n (upd (fun q=>if q<i then .msl (Z q) 0 0 m m 1 else k_) i (.msl (T.length+1) 0 0 m m 1))))
   have W:=hd T lb hk A_ (b 1 A_) (b 2 A_) (b 3 A_) (b 4 A_) (b 5 A_) h4 hl w1 w2 w3 w4 u1 u2 u3 rfl rfl rfl rfl;have g3:=hF.flw;have l2:=aL0 lb c0 x.lb;unfold flB at d3;have F:=aR d3 [.cells 0 false (WI.map uI)];have V:=aR F [.cells 0 false (WO.map uI)];rw[dH]at c9 G;by_cases ha:x.op=65
   .have hh:cB lb x.lb=true:=by
     cases h:cB lb x.lb with
     |true=>rfl
     |false=>exact absurd ⟨ha,h⟩ hB
    rw[hh]at l2;obtain⟨S',lb',C,p,y,r,I',O',U',D',y9,u,A,z,o,s,H,J⟩:=h8 _ _ _ _ _ _ _ _ _ _ (j_ i) (.lb ((aJ x).map .iv)) (.ptr S.length 90 0) e_ e_ z_ W;refine⟨S',lb',C,p,y,r,I',O',U',D',y9,u,A,z,o,s,aE K _ _ t31L2.eq_1 ?_,J⟩;rw[show((i+1:Nat):Int)=(i:Int)+1 by omega,aY]at H;unfold iT at *
    simp only[Q_,C3]at H |-;simp(disch:=omega)only[go_sem,N,i1,d,g3,l2,hP,hT,aD c9,aD G,e1,e2,d4,d5,pc,d3,F,V,e3,e4,d1,d2,aC];exact X_ er H
   .generalize cB lb x.lb=hb at *
    obtain⟨S',lb',C,p,y,r,I',O',U',D',y9,u,A,z,o,s,H,J⟩:=h8 _ _ _ _ _ _ _ _ _ _ (j_ i) (.lb ((aJ x).map .iv)) (.ptr S.length 90 0) (.iv (.bool hb)) e_ z_ W;refine⟨S',lb',C,p,y,r,I',O',U',D',y9,u,A,z,o,s,aE K _ _ t31L2.eq_1 ?_,J⟩;rw[show((i+1:Nat):Int)=(i:Int)+1 by omega,aY]at H;unfold iT at *
    simp only[Q_,C3]at H |-;simp(disch:=omega)only[go_sem,N,i1,d,g3,l2,hP,hT,aD c9,aD G,e1,e2,d4,d5,pc,d3,F,V,e3,e4,d1,d2,aC];exact X_ er H
theorem oT(f:VF):iT f=[.int .i64 f.fn,.int .i64 f.regs,.int .i64 f.sl,.int .i64 f.nd,.int .i64 f.pr,.bool f.rs,.sl f.ti (f.ins.map aJ)]:=rfl
theorem bK0(f:VF):(iT f).map TV.iv=[j_ f.fn,j_ f.regs,j_ f.sl,j_ f.nd,j_ f.pr,.iv (.bool f.rs),.iv (.sl f.ti (f.ins.map aJ))]:=rfl
theorem bCi(x:TV):∀n,TM.bE (List.replicate n [x])=cF n fun _=>x
 |0=>rfl
 |n+1=>by have:=bCi x n;rw[List.replicate_succ,show TM.bE ([x]::List.replicate n [x])=x::TM.bE (List.replicate n [x]) from rfl,this];unfold cF;rw[List.map_const',List.map_const',F6,F6,List.replicate_succ]
theorem bUa{bytes m n:Nat}(b:dY n bytes=true):mkV [.sl .nil []] bytes m (j_ n) (j_ n)=some (.msl m 0 0 n n 1,.cells 0 false (cF n fun q=>if q<0 then .msl 0 0 0 0 0 1 else k_)):=by
 have a:=bCi k_ n;have e:(fun q:Nat=>if q<0 then TV.msl 0 0 0 0 0 1 else k_)=fun _=>k_:=by funext q;rw[I_ (R4 q)]
 rw[e];simp[mkV,TM.eX,b,a]
theorem aG2{l:List VI}{L k:Int}(h:dP l L=some k):0<=k/\k<l.length:=by unfold dP at h;rw[G_]at h;obtain⟨i,a,rfl⟩:=h;rw[I3]at a;obtain⟨b,_⟩:=a;omega
theorem bCj{lb:Td_}{l:List VI}(a:0<l.length)(h:∀L,dI lb L=dP l L):aLz lb l:=by
 intro i b _;unfold lT;rw[h];cases e:dP l (l.getD i default).lb with
 |none=>simp;omega
 |some k=>have:=aG2 e;simpa using this
theorem bQ1{f:VF}(h2:32<=f.regs)(N:f.regs<=1000000)(P:f.ins.length<=1000000)(h0:0<f.ins.length)(y:∀x∈f.ins,x.us.length<=999990/\cY x.tu x.us)(o:TM.Pure K 20 [.iv (.agg (iT f))] (j_ 0)): ∃(S':aA) (lb:Td_) (s p:Th_) (I O U D:Te_),(lim K).call 31 [.iv (.agg (iT f))] []=.ret (.tup [.ptr 3 65 0,j_ 0],S')/\FlS S' f lb f.ins.length ((f.regs+63) / 64) s p I O/\aIy lb f.ins U D I /\(∀L,dI lb L=dP f.ins L)/\(∀j r,j<f.ins.length->(bit (U j) r=true↔(r:Int)∈bB (f.ins.getD j default)/\r<f.regs))/\(∀j r,j<f.ins.length->(bit (D j) r=true↔(r:Int)∈aW (f.ins.getD j default)/\r<f.regs)) /\∀j,j<f.ins.length->(∀r,bit (I j) r=eqn lb f.ins U D I j r)/\∀r,bit (O j) r=aB1 lb f.ins I j r:=by
 generalize hn':f.ins.length=n at *
 generalize hm:(f.regs+63) / 64=m;have T:=fun k=>bUa (m:=k) (bytes:=24) (bR (n:=n) (b:=24) A_);have Y:FP [.mp (mpR kE []) 0,.cells 0 false (cF n fun q=>if q<0 then .msl 0 0 0 0 0 1 else k_),.cells 0 false (cF n fun q=>if q<0 then .msl 0 0 0 0 0 1 else k_),flB f n,.cells 0 false (cF n fun q=>if q<0 then .msl 0 0 0 0 0 1 else k_),.cells 0 false (cF n fun q=>if q<0 then .msl 0 0 0 0 0 1 else k_)] f [] n m 0 (fun _=>0) (fun _=>0) (fun _=>0) (fun _=>0) (fun _=>[]) (fun _=>[]) (fun _=>[]) (fun _=>[]):=by
  have e:∀q:Nat,(if q<0 then TV.msl 0 0 0 m m 1 else k_)=(if q<0 then TV.msl 0 0 0 0 0 1 else k_):=fun q=>by rw[I_ (R4 q),I_ (R4 q)]
  refine⟨⟨0,rfl⟩,fun L=>rfl,⟨?_,by omega,by omega,by omega⟩,⟨?_,by omega,by omega,by omega⟩,⟨?_,by omega,by omega,by omega⟩,⟨?_,by omega,by omega,by omega⟩,rfl,by simp,by omega,by omega,by omega⟩<;>(simp only[e];rfl)
 obtain⟨S1,lb,s,p,ua,da,I,O,U,D,W,t,u,C,w,F,g,a⟩:=aT3 hm N P hn' y (.iv (.agg (iT f))) (.iv .nilp) (j_ 0) (j_ 0) u_ u_ z_ u_ u_ n 0 _ _ _ _ _ _ _ _ _ _ u_ u_ u_ u_ u_ u_ A_ Y;have c:∀L,dI lb L=dP f.ins L:=fun L=>by rw[a.lbs L,N2 A_]
 have H:=bCj A_ c;have J:∀j r,bit (if j<n then I j else []) r=false:=fun j r=>by
  split;.exact a.zer j r (by assumption)
  .simp[bit]
 have v:FlS S1 f lb n m s p (fun j=>if j<n then I j else []) O :=
  ⟨a.lab,⟨a.inn.done.row,a.inn.done.ge,fun i h=>by rw[K_ h];exact a.inn.set i h,fun i h=>by rw[K_ h];exact a.inn.ok i h⟩,a.out.done,a.flw,a.len⟩
 have Z:aIy lb f.ins U D (fun j=>if j<n then I j else []):=⟨(fun i r d=>by rw[J]at d;cases d),(fun i r d=>by rw[J]at d;cases d)⟩
 obtain⟨S2,z,A,I2,O2,h3,V,h1,l2,G,_,_,E,Q⟩:=aT2 hm N P hn' H (.iv (.agg (iT f))) (.lb ((iT f).map .iv)) (.iv .nilp) (j_ 0) (j_ 0) W t u C z_ (.iv (.sl f.ti (f.ins.map aJ))) (j_ n) (j_ n) w F _ S1 s p _ O u_ u_ u_ (L_ _) v a.us.done a.ds.done Z;refine⟨S2,lb,z,A,I2,O2,U,D,aI K _ (fn:=t31) rfl rfl ?_,G,E,c,a.use,a.dfn,Q⟩;rw[n0_]at g;have l:(f.ins.map aJ).length=n:=by rw[P_,hn']
 unfold flB at g;rw[show mpR kE []=[] from rfl]at g;rw[bK0,oT]at g l2;rw[oT]at o;rw[oT];generalize hR:aG.cells 0 false (cF n fun q=>if q<0 then .msl 0 0 0 0 0 1 else k_)=R at *
 simp(disch:=omega)only[t31,go_sem,aD o,l,T];rw[g];simp(disch:=omega)only[go_sem];rw[l2];simp(disch:=omega)only[go_sem]
theorem aL3(i:Nat)(l:M_):cellsOf (acc i l)=[acc i l]:=by unfold acc;split<;>rfl
theorem aP5(i:Nat)(l:M_):bH (acc i l)=false:=by unfold acc;split<;>rfl
attribute [go_sem] aL3 aP5
def gI(l:List (List IV))(i:Nat)(S:aA):Nat:=if l=[]then S.length else i
def gS1(w el:Nat)(l:List (List IV))(i:Nat)(S:aA):aA:=if l=[]then S++[.tok 1 w el]else S.set i (.tok (l.length+1) w el)
def At(w el:Nat)(l:List (List IV))(i:Nat)(S:aA):Prop:=l≠[]->S[i]?=some (.tok l.length w el)
theorem aC7{w el:Nat}{l:M_}{i:Nat}{S:aA}(h:At w el l i S)(c:Tq_):At w el (l++[c]) (gI l i S) (gS1 w el l i S):=by
 intro _;unfold gI gS1;by_cases h0:l=[]
 .rw[K_ h0,K_ h0,h0];simp
 .rw[I_ h0,I_ h0,aM (aN (h h0))];simp
theorem bCk{w el b:Nat}{l:M_}{i:Nat}{S:aA}{t:Tag}{c:Tq_}(h:At w el l i S)(j:c.length=w/\c.all nB=true)(g:jL w l)(e:dY (l.length+1) b=true): bA false w b el S (acc i l) (.iv (.sl t [c]))=some (acc (gI l i S) (l++[c]),gS1 w el l i S):=by
 have f:qQ S (.iv (.sl t [c])) [c]:=qQ.sl ..;have d:jL w [c]:=by intro y a;simp at a;subst a;exact j
 by_cases h0:l=[]
 .subst h0;rw[mD,aLg C_ f d g B_ e,List.nil_append,aO8];simp[gI,gS1]
 .rw[jQ _ h0,aFn f d g (h h0) e,jQ _ B_];simp[gI,gS1,h0]
theorem nV{w el:Nat}{l:M_}{i:Nat}{S:aA}(h:At w el l i S){q:Nat}{b:aG}(a:S[q]?=some b)(c:∀n w el,b≠.tok n w el):(gS1 w el l i S)[q]?=some b:=by
 unfold gS1;by_cases h0:l=[]
 .rw[K_ h0];exact aR a _
 .rw[I_ h0,aB];.exact a
  .rintro rfl;rw[h h0]at a;exact c _ _ _ (D9 a).symm
def aC8(S:aA)(j:Nat)(W:List Nat):Prop:=S[j]?=some (.cells 0 false (W.map uI))\/S[j]?=some (.frz 0 (W.map uV))
theorem bPv(W:Tc_):W.map uI=(W.map uV).map .iv:=by rw[L6];rfl
theorem aWv{S:aA}{j:Nat}{W:Tc_}(h:aC8 S j W)(cap:Nat):cH S (.msl j 0 0 W.length cap 1)=some (TM.one uV W):=by
 have e3:∀L:List Nat,cN 1 L.length (L.map uV)=TM.one uV L:=by
  intro L;induction L with
  |nil=>rfl
  |cons a r ih=>simp only[Q_,List.length_cons,cN,List.take_succ_cons,List.take_zero,I7,C4,ih];rfl
 rcases h with h|h
 .have b:sub (W.map uI) 0 (W.length*1)=some (W.map uI):=mE B_;have e2:toIVs (W.map uI)=some (W.map uV):=by rw[bPv,fL]
  simp only[cH,h,ne_eq,C8,↓reduceIte,b,e2,Option.map_some,e3]
 .have b:sub (W.map uV) 0 (W.length*1)=some (W.map uV):=mE B_;simp only[cH,h,ne_eq,C8,↓reduceIte,b,Option.map_some,e3]
theorem aWw{S:aA}{j:Nat}{W:Tc_}(h:aC8 S j W)(cap:Nat):iY S (.msl j 0 0 W.length cap 1)=some (.iv (.sl .no (TM.one uV W))):=by show((match cH S (.msl j 0 0 W.length cap 1)with|some l=>some (IV.sl .no l)|none=>none).map TV.iv)=_;rw[aWv h];rfl
theorem aP6{S:aA}{j:Nat}{W:Tc_}(h:aC8 S j W)(v o n c w:Nat):∃S',bW S [.msl j v o n c w]=some S'/\S'.length=S.length/\(∀q,q≠j->S'[q]?=S[q]?)/\S'[j]?=some (.frz 0 (W.map uV)):=by
 rcases h with h|h;.refine⟨S.set j (.frz 0 (W.map uV)),?_,by simp,fun q a=>aB (B0 a) _,aM (aN h) _⟩;simp only[bW,mA,h,bPv,fL,Option.map_some]
 .refine⟨S,?_,rfl,fun q _=>rfl,h⟩;simp only[bW,mA,h]
def bCl(I:Nat->List Nat)(q:Nat):List IV:=[.sl (iJ (aZ (wlI 0 (I q)))) (TM.one (.int .i64) (wlI 0 (I q)))]
def bF(I:Nat->List Nat)(i:Nat):List (List IV):=(List.range i).map (bCl I)
theorem pW(I:Te_)(i:Nat):(bF I i).length=i:=by simp[bF]
theorem aC9(I:Te_)(i:Nat):jL 1 (bF I i):=by intro y a;obtain⟨q,_,rfl⟩:=r_.1 a;exact⟨rfl,rfl⟩
theorem bCm{j n m:Nat}(hn:n<=1000000)(T:m<=100000){g:Th_}{I:Te_}(r:∀i,i<n->WOK m (I i))(w:∀i,i<n->g i≠j):∀(k i:Nat) (S:aA) (jo:Nat) (x2 x6:TV),i+k=n ->S[j]?=some (.cells 0 false (cF n fun i=>.msl (g i) 0 0 m m 1))->(∀q,q<n->aC8 S (g q) (I q))->At 1 26 (bF I i) jo S ->∃(S':aA) (l:Nat) (H P:TV),lp' (lim K) t32L0 [.msl j 0 0 n n 1,acc jo (bF I i),x2,.msl j 0 0 n n 1,j_ n,j_ i,x6] S = .ret (.exit 0,[.msl j 0 0 n n 1,acc l (bF I n),H,.msl j 0 0 n n 1,j_ n,j_ n,P],S')
 |0,i,S,jo,x2,x6,h,hr,hs,ha=>by obtain rfl:i=n:=A_;refine⟨S,jo,x2,z_,aE K _ _ t32L0.eq_1 ?_⟩;simp(disch:=omega)only[go_sem]
 |k+1,i,S,jo,x2,x6,h,hr,hs,ha=>by
  have d:i<n:=A_;have Q:=r i d;have W:=jK (j:=j) (v:=0) (cap:=n) d;have Z:=dO (fun i=>TV.msl (g i) 0 0 m m 1) d;have z:=bQu .no (I i) Q.lt (by rw[Q.len];exact T);have p:=aWw (hs i d) m;rw[Q.len]at p;obtain⟨S1,V,f2,E,f4⟩:=aP6 (hs i d) 0 0 m m 1;have L:S1[j]?=some (.cells 0 false (cF n fun i=>.msl (g i) 0 0 m m 1)):=by rw[E j (B0 (w i d))];exact hr
  have D:∀q,q<n->aC8 S1 (g q) (I q):=fun q x=>by
   by_cases e:g q=g i
   .have o:=hs q x;have N:=hs i d;rw[e]at o |-;right;rw[f4];have:(I q).map uV=(I i).map uV:=by
     have F:∀A B:List Nat,A.map uI=B.map uI->A.map uV=B.map uV:=fun A B y=>by have:A=B:=(List.map_inj_right (fun a b u=>by simp[uI]at u;exact_mod_cast u)).1 y;rw[this]
     rcases o with a|a<;>rcases N with b|b<;>rw[a]at b<;>simp at b;.exact F _ _ (by simpa using b)
     .simpa using b
    rw[this]
   .unfold aC8;rw[E _ e];exact hs q x
  have f:At 1 26 (bF I i) jo S1:=fun Y=>by
   have:=ha Y;rw[E jo];.exact this
   .rintro rfl;rcases hs i d with b|b<;>rw[this]at b<;>simp at b
  have R:=bCk (b:=24) (c:=bCl I i) (t:=.full) f ⟨rfl,rfl⟩ (aC9 I i) (bR (by rw[pW];omega));have G:bF I i++[bCl I i]=bF I (i+1):=by simp[bF,N4]
  have s:=aC7 f (bCl I i);rw[G]at R s;have C:=nV f L B_;have J:∀q,q<n->aC8 (gS1 1 26 (bF I i) jo S1) (g q) (I q):=fun q x=>by
   rcases D q x with b|b;.exact .inl (nV f b B_)
   .exact .inr (nV f b B_)
  obtain⟨S',l,H,P,U⟩:=bCm hn T r w k (i+1) _ _ (.msl (g i) 0 0 m m 1) e_ A_ C J s;rw[show((i+1:Nat):Int)=(i:Int)+1 by omega]at U;refine⟨S',l,H,P,aE K _ _ t32L0.eq_1 ?_⟩;unfold bCl at R;simp(disch:=omega)only[go_sem,W,hr,Z,p,aD z,V,R,aC];exact X_ er U
theorem bCn{S:aA}{j n m:Nat}(f:n<=1000000)(c:m<=100000){g:Th_}{I:Te_}(h:RS S j n m g I)(k:j<6):∃(S':aA) (jo:Nat),(lim K).call 32 [.msl j 0 0 n n 1] S=.ret (acc jo (bF I n),S'):=by obtain⟨S',jo,l,o,a⟩:=bCm f c h.ok (fun i e=>by have:=h.ge i e;omega) n 0 S 0 u_ u_ A_ h.row (fun q d=>.inl (h.set q d)) (fun b=>absurd rfl b);rw[n0_,show bF I 0=[] from rfl,mD]at a;refine⟨S',jo,aI K S (fn:=t32) rfl rfl ?_⟩;simp(disch:=omega)only[t32,go_sem];rw[a];simp(disch:=omega)only[go_sem]
theorem aI0(S:aA)(jo:Nat)(l:M_)(n:Int):TM.resolve S (.tup [acc jo l,j_ n])=some (.tup [.iv (.sl (iJ l) l),j_ n]):=by rw[aBu];simp only[vQ,aIe];rfl
theorem bUb{f:VF}(e:32<=f.regs)(k:f.regs<=1000000)(s:f.ins.length<=1000000)(p:0<f.ins.length)(c:∀x∈f.ins,x.us.length<=999990/\cY x.tu x.us)(d:TM.Pure K 20 [.iv (.agg (iT f))] (j_ 0)): ∃(lb:Td_) (I O U D:Te_),TM.Pure K 21 [.iv (.agg (iT f))] (.tup [.iv (.sl (iJ (bF I f.ins.length)) (bF I f.ins.length)),j_ 0]) /\TM.Pure K 13 [.iv (.agg (iT f))] (.tup [.iv (.sl (iJ (bF O f.ins.length)) (bF O f.ins.length)),j_ 0])/\aIy lb f.ins U D I /\(∀i,i<f.ins.length->WOK ((f.regs+63) / 64) (I i)/\WOK ((f.regs+63) / 64) (O i)) /\(∀L,dI lb L=dP f.ins L)/\(∀j r,j<f.ins.length->(bit (U j) r=true↔(r:Int)∈bB (f.ins.getD j default)/\r<f.regs))/\(∀j r,j<f.ins.length->(bit (D j) r=true↔(r:Int)∈aW (f.ins.getD j default)/\r<f.regs)) /\∀j,j<f.ins.length->(∀r,bit (I j) r=eqn lb f.ins U D I j r)/\∀r,bit (O j) r=aB1 lb f.ins I j r:=by
 obtain⟨S,lb,z,y,I,O,U,D,a,b,q,l,v,m,u⟩:=bQ1 e k s p c d;obtain⟨S1,o,t⟩:=bCn A_ A_ b.inn A_;obtain⟨S2,w,e2⟩:=bCn A_ A_ b.out A_;have h:=b.flw;refine⟨lb,I,O,U,D,?_,?_,q,fun i g=>⟨b.inn.ok i g,b.out.ok i g⟩,l,v,m,u⟩
 .refine TM.gO (S:=S1) (aI K _ (fn:=t21) rfl rfl ?_) (aI0 S1 o _ 0);rw[oT]at a |-;generalize f.ins.length=n at *
  simp(disch:=omega)only[t21,go_sem,a,h,t]
 .refine TM.gO (S:=S2) (aI K _ (fn:=t13) rfl rfl ?_) (aI0 S2 w _ 0);rw[oT]at a |-;generalize f.ins.length=n at *
  simp(disch:=omega)only[t13,go_sem,a,h,e2]
end Go.Proofs.YtehlgnfhkidgoaaGreatDoor
