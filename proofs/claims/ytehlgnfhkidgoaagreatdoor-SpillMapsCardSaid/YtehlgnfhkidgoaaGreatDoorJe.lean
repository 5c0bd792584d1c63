/- Some texts of the proof, joined. Condition: none. -/
import Derived.Test.YtehlgnfhkidgoaaGreatDoorJd
set_option linter.unusedSectionVars false
set_option maxRecDepth 100000
set_option maxHeartbeats 64000000
set_option linter.unusedSimpArgs false
set_option linter.unusedVariables false
namespace Go.Proofs.YtehlgnfhkidgoaaGreatDoor
open Go Go.TM
def gv(r:Int)(t1:Tag)(E:List (Int×Int))(t2:Tag)(M:List (Int×Int)):IV:=.agg [.int .i64 r,.sl t1 (E.map iM),.sl t2 (M.map iM)]
def qQ(r:Int)(t1:Tag)(E:List (Int×Int))(t2:Tag)(M:List (Int×Int)):List TV:=[.iv (.int .i64 r),.iv (.sl t1 (E.map iM)),.iv (.sl t2 (M.map iM))]
theorem bUc{α:Type}(l m:List (List α)):bC (l++m)=bC l++bC m:=by
 induction l with
 |nil=>rfl
 |cons a r ih=>simp only[List.cons_append,TM.bC,ih,A9]
theorem bLe(x:TV)(n:Nat):bC (List.replicate n [x])=cF n fun _=>x:=by
 unfold cF;induction n with
 |zero=>rfl
 |succ n ih=>rw[List.replicate_succ',R2,E2,<-ih,bUc];simp[TM.bC]
structure Bd (S:aA) (n:Nat) (t1:Tag) (E:List (Int×Int)) (t2:Tag) (M:List (Int×Int)) (r:Nat) (nm om:Nat->Nat):Prop where
 blk:S[1]?=some (.cells 106 false [.iv (.int .i64 n),.iv (.sl t1 (E.map iM)),.iv (.sl t2 (M.map iM)),.msl 6 (r-1) 0 r r 1,.msl 7 (r-1) 0 r r 1,.msl 8 (r-1) 0 r r 1,.msl 0 0 0 n n 1])
 out:S[0]?=some (.cells 0 false (cF n fun _=>vI 0))
 near:S[6]?=some (.cells (r-1) true (cF r fun k=>.map (nm k)))
 own:S[7]?=some (.cells (r-1) true (cF r fun k=>.map (om k)))
 to:S[8]?=some (.cells (r-1) true (cF r fun k=>nI k))
 nms:∀k,k<r->S[nm k]?=some (.mp [] 0)
 oms:∀k,k<r->S[om k]?=some (.mp [] 0)
 ninj:∀r' s,r'<r->s<r->nm r'=nm s->r'=s
 oinj:∀r' s,r'<r->s<r->om r'=om s->r'=s
 dis:∀r' s,r'<r->s<r->nm r'≠om s
theorem Bd.pt{S:aA}{n:Nat}{t1:Tag}{E:Tb_}{t2:Tag}{M:Tb_}{nm b:Th_}(h:Bd S n t1 E t2 M n nm b):PT S ⟨1,6,n-1,7,n-1,8,n-1,0,nm,b⟩ ⟨n,t1,E,t2,M,fun _ _=>false,fun _ _=>false,fun r=>r,fun _=>0⟩ :=
 ⟨h.blk,h.near,h.own,h.to,h.out,fun r a=>⟨[],0,h.nms r a,gE.nil 0,fun t=>by simp[cG,dK]⟩,fun r a=>⟨[],0,h.oms r a,gE.nil 0,fun t=>by simp[cG,dK]⟩,h.ninj,h.oinj,h.dis,by simp⟩
theorem aDq{mu:Bool}{b bytes el:Nat}{S:aA}{v n:Nat}{f:Nat->TV}{x:TV}(h:S[b]?=some (.cells v true (cF n f)))(g:dU S x=some [f n])(d:lenOf S x=some 1)(e:bJ (f n)=false)(a:eA (n+1) bytes=true): bA mu 1 bytes el S (.msl b v 0 n n 1) x=some (.msl b (v+1) 0 (n+1) (n+1) 1,S.set b (.cells (v+1) true (cF (n+1) f))):=by have c:sub (cF n f) 0 n=some (cF n f):=mC (by simp[aC5]);simp[bA,g,d,h,e,a,c,bQ9,show ¬n+1<=n by omega]
theorem uN{mu:Bool}{bytes el:Nat}{S:aA}{f:Nat->TV}{x:TV}(g:dU S x=some [f 0])(c:lenOf S x=some 1)(d:bJ (f 0)=false)(a:eA 1 bytes=true)(b:mu=true\/toIVs [f 0]=none): bA mu 1 bytes el S k_ x=some (.msl S.length 0 0 1 1 1,S++[.cells 0 true (cF 1 f)]):=by
 have e:cF 1 f=[f 0]:=rfl;rcases b with rfl|b;.simp[bA,g,c,d,a,e,TM.oL,TM.bC]
 .cases mu with
  |true=>simp[bA,g,c,d,a,e,TM.oL,TM.bC]
  |false=>simp[bA,g,c,d,a,e,b,TM.oL,TM.bC]
def jG(S:aA):aA:=S++[aG.mp [] 0]++[aG.cells 0 false (bC [[TV.map S.length]])]
theorem pT(S:aA):(jG S).length=S.length+2:=by simp[jG]
theorem kH(S:aA):bL [] S (jG S):=(bL.app [] S [aG.mp [] 0]).trans (bL.app [] _ [aG.cells 0 false (bC [[TV.map S.length]])])
theorem aCg(S:aA):(jG S)[S.length]?=some (.mp [] 0):=by simp[jG]
theorem xK(S:aA):(jG S)[S.length+1]?=some (.cells 0 false (bC [[TV.map S.length]])):=by simp[jG]
theorem uO{S:aA}{j:Nat}{y:TV}(h:S[j]?=some (.cells 0 false (bC [[y]]))):dU S (.msl j 0 0 1 1 1)=some [y]:=by simp[dU,h,sub,TM.bC]
theorem jB{S S':aA}{i j:Nat}{X b:aG}(h:S.set i X=S')(a:i≠j)(c:S[j]?=some b):S'[j]?=some b:=by rw[<-h,aB a];exact c
theorem bDp{n:Nat}{t1:Tag}{E:Tb_}{t2:Tag}{M:Tb_}(hn:n<=1000000)(x0 t x2 x5 x9 x10 x11 x12 x13:TV):∀(k r:Nat) (S:aA) (nm f:Th_) (x4 x8:TV),r+k=n->1<=r->Bd S n t1 E t2 M r nm f ->∃y H S' g m,lp' (lim K) t66L1 [x0,t,x2,.ptr 1 106 0,x4,x5,j_ n,j_ r,x8,x9,x10,x11,x12,x13] S = .ret (.exit 0,[x0,t,x2,.ptr 1 106 0,y,x5,j_ n,j_ n,H,x9,x10,x11,x12,x13],S')/\Bd S' n t1 E t2 M n g m
 |0,r,S,nm,f,x4,x8,h,G,hB=>by obtain rfl:r=n:=A_;refine⟨x4,z_,S,nm,f,aE K _ _ t66L1.eq_1 ?_,hB⟩;simp(disch:=omega)only[go_sem]
 |k+1,r,S,nm,f,x4,x8,h,G,hB=>by
  have h4:=aN hB.to;have P:=kH S;have l:=P.trans (kH (jG S));have v:=hB.blk;have b2:=P.get _ _ B_ v;have b4:=l.get _ _ B_ v;have h5:=pT S;have m1:=(kH (jG S)).get _ _ B_ (aCg S);have m2:=aCg (jG S);have l1:=(kH (jG S)).get _ _ B_ (xK S);have l2:=xK (jG S);have A:∀k,k<r->nm k<S.length:=fun k o=>aN (hB.nms k o);have w:∀k,k<r->f k<S.length:=fun k o=>aN (hB.oms k o);have f6:cF r (fun k=>.map (nm k))=cF r (fun k=>.map (upd nm r S.length k)):=aMf fun i p=>by rw[dB _ _ A_]
  have W:cF r (fun k=>.map (f k))=cF r (fun k=>.map (upd f r (jG S).length k)):=aMf fun i p=>by rw[dB _ _ A_]
  have U:=l.get _ _ B_ hB.near;have T:=l.get _ _ B_ hB.own;have n8:=l.get _ _ B_ hB.to;rw[f6]at U;rw[W]at T;generalize hS4:jG (jG S)=S4 at *
  have q:=aDq (mu:=false) (bytes:=8) (el:=81) (x:=.msl (S++[aG.mp [] 0]).length 0 0 1 1 1) U (by rw[bU];exact uO (by rw[<-l1];simp)) rfl rfl (bR A_);generalize hS5:S4.set 6 (.cells (r-1+1) true (cF (r+1) fun k=>.map (upd nm r S.length k)))=S5 at *
  have L:=jB hS5 C_ b4;have C:=jB hS5 C_ T;have u:=jB hS5 A_ l2;have e2:=aDq (mu:=false) (bytes:=8) (el:=81) (x:=.msl (jG S++[aG.mp [] 0]).length 0 0 1 1 1) C (by rw[bU];exact uO (by rw[<-u];simp)) rfl rfl (bR A_);generalize hS6:S5.set 7 (.cells (r-1+1) true (cF (r+1) fun k=>.map (upd f r (jG S).length k)))=S6 at *
  have Q:=jB hS6 C_ L;have z:=jB hS6 C_ (jB hS5 C_ n8);have e3:=aDq (mu:=true) (bytes:=8) (el:=3) (x:=.iv (.sl .full [[.int .i64 (r:Int)]])) z rfl rfl rfl (bR A_);generalize hS7:S6.set 8 (.cells (r-1+1) true (cF (r+1) fun k=>nI k))=S7 at *
  have s:=jB hS7 C_ Q;have J:∀b,(S7.set 1 b)[1]?=some b:=fun b=>aM (aN s) b;have Y:∀b c,((S7.set 1 b).set 1 c)[1]?=some c:=fun b c=>aM (by simpa using aN s) c;have V:∀b c,(S7.set 1 b).set 1 c=S7.set 1 c:=fun b c=>B_;have I:r-1+1=r:=A_;rw[I]at q e2 e3 hS5 hS6 hS7;have F:Bd (S7.set 1 (.cells 106 false [j_ n,.iv (.sl t1 (E.map iM)),.iv (.sl t2 (M.map iM)),.msl 6 r 0 (r+1) (r+1) 1,.msl 7 r 0 (r+1) (r+1) 1,.msl 8 r 0 (r+1) (r+1) 1,.msl 0 0 0 n n 1])) n t1 E t2 M (r+1) (upd nm r S.length) (upd f r (jG S).length):=by
   have h0:S4.length=S.length+4:=by rw[<-hS4,pT,pT]
   have d:∀i b,S4[i]?=some b->i≠6->i≠7->i≠8->i≠1->∀c,(S7.set 1 c)[i]?=some b:=fun i b Z h6 h7 h8 G c=>by rw[aB (B0 G),<-hS7,aB (B0 h8),<-hS6,aB (B0 h7),<-hS5,aB (B0 h6)];exact Z
   refine⟨J _,?_,?_,?_,?_,fun k o=>?_,fun k o=>?_,fun i j p N e=>?_,fun i j p N e=>?_,fun i j p N e=>?_⟩;.exact d _ _ (l.get _ _ B_ hB.out) C_ C_ C_ C_ _
   .rw[aB C_,<-hS7,aB C_,<-hS6,aB C_,<-hS5,aM A_];rfl
   .rw[aB C_,<-hS7,aB C_,<-hS6,aM (by rw[<-hS5];simp;omega)];rfl
   .rw[aB C_,<-hS7,aM (by rw[<-hS6,<-hS5];simp;omega)];rfl
   .by_cases e:k=r;.subst e;rw[bU];exact d _ _ m1 A_ A_ A_ A_ _
    .have a:=hB.nms k A_;rw[dB _ _ e];exact d _ _ (l.get _ _ B_ a) (bN a hB.near B_) (bN a hB.own B_) (bN a hB.to B_) (bN a hB.blk B_) _
   .by_cases e:k=r;.subst e;rw[bU];exact d _ _ m2 A_ A_ A_ A_ _
    .have a:=hB.oms k A_;rw[dB _ _ e];exact d _ _ (l.get _ _ B_ a) (bN a hB.near B_) (bN a hB.own B_) (bN a hB.to B_) (bN a hB.blk B_) _
   .unfold upd at e;split at e<;>split at e;.omega
    .have:=A j A_;omega
    .have:=A i A_;omega
    .exact hB.ninj i j A_ A_ e
   .unfold upd at e;split at e<;>split at e;.omega
    .have:=w j A_;omega
    .have:=w i A_;omega
    .exact hB.oinj i j A_ A_ e
   .unfold upd at e;split at e<;>split at e;.omega
    .have:=w j A_;omega
    .have:=A i A_;omega
    .exact hB.dis i j A_ A_ e
  obtain⟨y,H,S',g,m,R,D⟩:=bDp hn x0 t x2 x5 x9 x10 x11 x12 x13 k (r+1) _ _ _ (j_ r) e_ A_ A_ F;rw[show((r+1:Nat):Int)=(r:Int)+1 by omega]at R;refine⟨y,H,S',g,m,aE K _ _ t66L1.eq_1 ?_,D⟩;subst hS4;unfold jG at b2 b4 q e2;simp only[bCa]at b2 b4 q e2;simp(disch:=omega)only[go_sem,v,b2,b4,q,L,e2,Q,e3,s,J,Y,V,aC];exact X_ er R
theorem lT{S S':aA}{X:aG}{j:Nat}{b:aG}(h:S++[X]=S')(a:S[j]?=some b):S'[j]?=some b:=by rw[<-h,Y_ (aN a)];exact a
theorem aJs{S S':aA}{X:aG}(h:S++[X]=S'):S'[S.length]?=some X:=by rw[<-h];simp
theorem bRd{n:Nat}{t1:Tag}{E:Tb_}{t2:Tag}{M:Tb_}(P:n<=1000000)(I:1<=n)(x0 r x2 x5 x9 x10 x11 x12 x13 x4 x8:TV)(S:aA)(U:S.length=2) (b0:S[0]?=some (.cells 0 false (cF n fun _=>vI 0))) (w:S[1]?=some (.cells 106 false [j_ n,.iv (.sl t1 (E.map iM)),.iv (.sl t2 (M.map iM)),k_,k_,k_,.msl 0 0 0 n n 1])): ∃q v S' d l,lp' (lim K) t66L1 [x0,r,x2,.ptr 1 106 0,x4,x5,j_ n,j_ 0,x8,x9,x10,x11,x12,x13] S = .ret (.exit 0,[x0,r,x2,.ptr 1 106 0,q,x5,j_ n,j_ n,v,x9,x10,x11,x12,x13],S')/\Bd S' n t1 E t2 M n d l:=by
 have G:=kH S;have F:=G.trans (kH (jG S));have b2:=G.get _ _ B_ w;have b4:=F.get _ _ B_ w;have Y:=pT S;have g:(jG (jG S)).length=6:=by rw[pT,pT,U]
 have V:=(kH (jG S)).get _ _ B_ (aCg S);have m2:=aCg (jG S);have W:=(kH (jG S)).get _ _ B_ (xK S);have l2:=xK (jG S);have Q:=F.get _ _ B_ b0;generalize hS4:jG (jG S)=S4 at *
 have o:=uN (mu:=false) (bytes:=8) (el:=81) (S:=S4) (f:=fun _=>.map S.length) (x:=.msl (S++[aG.mp [] 0]).length 0 0 1 1 1) (uO (by rw[<-W];simp)) rfl rfl (bR A_) (.inr rfl);generalize hS5:S4++[.cells 0 true (cF 1 fun _=>.map S.length)]=S5 at *
 have a:S5.length=7:=by rw[<-hS5];simp[g]
 have z:=lT hS5 b4;have s:=lT hS5 l2;have e2:=uN (mu:=false) (bytes:=8) (el:=81) (S:=S5) (f:=fun _=>.map (jG S).length) (x:=.msl (jG S++[aG.mp [] 0]).length 0 0 1 1 1) (uO (by rw[<-s];simp)) rfl rfl (bR A_) (.inr rfl);generalize hS6:S5++[.cells 0 true (cF 1 fun _=>.map (jG S).length)]=S6 at *
 have m:S6.length=8:=by rw[<-hS6];simp[a]
 have J:=lT hS6 z;have e3:=uN (mu:=true) (bytes:=8) (el:=3) (S:=S6) (f:=fun k=>nI k) (x:=.iv (.sl .full [[.int .i64 (0:Int)]])) rfl rfl rfl (bR A_) (.inl rfl);generalize hS7:S6++[.cells 0 true (cF 1 fun k=>nI k)]=S7 at *
 have p:=lT hS7 J;rw[g]at o;rw[a]at e2;rw[m]at e3;have y:∀b,(S7.set 1 b)[1]?=some b:=fun b=>aM (aN p) b;have Z:∀b c,((S7.set 1 b).set 1 c)[1]?=some c:=fun b c=>aM (by simpa using aN p) c;have R:∀b c,(S7.set 1 b).set 1 c=S7.set 1 c:=fun b c=>B_;have u:Bd (S7.set 1 (.cells 106 false [j_ n,.iv (.sl t1 (E.map iM)),.iv (.sl t2 (M.map iM)),.msl 6 0 0 1 1 1,.msl 7 0 0 1 1 1,.msl 8 0 0 1 1 1,.msl 0 0 0 n n 1])) n t1 E t2 M 1 (fun _=>S.length) (fun _=>(jG S).length):=by
  have h:∀i b,S4[i]?=some b->i≠1->∀c,(S7.set 1 c)[i]?=some b:=fun i b hb I c=>by rw[aB (B0 I)];exact lT hS7 (lT hS6 (lT hS5 hb))
  have N:=aJs hS5;have A:=aJs hS6;have H:=aJs hS7;rw[g]at N;rw[a]at A;rw[m]at H;refine⟨y _,?_,?_,?_,?_,fun k T=>?_,fun k T=>?_,fun i j D C e=>A_,fun i j D C e=>A_,fun i j D C e=>A_⟩;.exact h _ _ Q C_ _
  .rw[aB C_];exact lT hS7 (lT hS6 N)
  .rw[aB C_];exact lT hS7 A
  .rw[aB C_];exact H
  .exact h _ _ V A_ _
  .exact h _ _ m2 A_ _
 obtain⟨q,v,S',d,l,L,t⟩:=bDp P x0 r x2 x5 x9 x10 x11 x12 x13 (n-1) 1 _ _ _ (j_ 0) e_ A_ A_ u;rw[show((1:Nat):Int)=1 from rfl]at L;refine⟨q,v,S',d,l,aE K _ _ t66L1.eq_1 ?_,t⟩;subst hS4;unfold jG at b2 b4 o e2;simp only[bCa]at b2 b4 o e2;simp(disch:=omega)only[go_sem,w,b2,b4,o,z,e2,J,e3,p,y,Z,R,aC];exact X_ er L
theorem PT.setM{S:aA}{a:Ad}{p:Pn}(h:PT S a p){r:Nat}(g:r<p.n){b:aG}{f:Tj_}(w:mE (S.set (a.om r) b) (a.om r) p.n f):PT (S.set (a.om r) b) a {p with own:=upd p.own r f}:=by
 have m:=h.nmo (h.omap r g);simp only[Ad.own,J_,D5,I4,H1]at m;obtain⟨u,o,q,t,v⟩:=m;refine⟨?_,?_,?_,?_,?_,fun s d=>?_,fun s d=>?_,h.ninj,h.oinj,h.dis,h.nd⟩;.rw[aB u];exact h.blk
 .rw[aB o];exact h.near
 .rw[aB q];exact h.own
 .rw[aB t];exact h.to
 .rw[aB v];exact h.out
 .obtain⟨l,c,i,k,h3⟩:=h.nmap s d;exact⟨l,c,by rw[aB (B0 (h.dis s r d g))];exact i,k,h3⟩
 .by_cases e:s=r;.subst e;simpa[bU] using w
  .have j:a.om r≠a.om s:=fun e2=>e (h.oinj _ _ g d e2).symm;obtain⟨l,c,i,k,h3⟩:=h.omap s d;simp only[dB _ _ e];exact⟨l,c,by rw[aB j];exact i,k,h3⟩
def isV(e:Int):Bool:=kG e||decide (32<=e)
def aJt(e:Int×Int)(r s:Nat):Bool:=isV e.1&&isV e.2&&(decide (e.1=r)&&decide (e.2=s)||decide (e.1=s)&&decide (e.2=r))
def wF(E:List (Int×Int))(r s:Nat):Bool:=E.any fun e=>aJt e r s
theorem aXi(E:Tb_)(e:Int×Int):wF (E++[e])=fun r s=>wF E r s||aJt e r s:=by funext r s;simp[wF]
theorem bDq(f:Ti_){x y:Nat}(h:x≠y){e:Int×Int}(i:e.1=x)(j:e.2=y)(g:isV e.1=true/\isV e.2=true):aXf f x y=fun r s=>f r s||aJt e r s:=by funext r s;rw[aUv f h,aJt,g.1,g.2,i,j];simp only[Bool.and_self,Q8];congr 1;by_cases a:r=x<;>by_cases b:s=y<;>by_cases c:r=y<;>by_cases d:s=x<;>simp[a,b,c,d]<;>omega
theorem bRe(f:Ti_){e:Int×Int}(a:(isV e.1&&isV e.2)=false):(fun r s=>f r s||aJt e r s)=f:=by funext r s;rw[aJt,a];simp
def aXj(n:Nat)(E:List (Int×Int)):Prop:=∀e∈E,∃x y:Nat,e.1=x/\e.2=y/\x<n/\y<n/\x≠y
theorem aU1{n:Nat}{tE:Tag}{E:Tb_}{tM:Tag}{M:Tb_}(W:n<=1000000)(hE:E.length<=1000000)(P:aXj n E)(x0 x1 x2 x4 x6 x7 x8:TV):∀(k i:Nat) (a:Ad) (f:Ti_) (S:aA) (x5 x12 x13:TV),i+k=E.length->PT S a ⟨n,tE,E,tM,M,f,f,fun r=>r,fun _=>0⟩->f=wF (E.take i) ->∃T u z S',lp' (lim K) t66L0 [x0,x1,x2,.ptr a.ip 106 0,x4,x5,x6,x7,x8,.iv (.sl tE (E.map iM)),j_ E.length,j_ i,x12,x13] S = .ret (.exit 2,[x0,x1,x2,.ptr a.ip 106 0,x4,T,x6,x7,x8,.iv (.sl tE (E.map iM)),j_ E.length,j_ E.length,u,z],S')/\PT S' a ⟨n,tE,E,tM,M,wF E,wF E,fun r=>r,fun _=>0⟩
 |0,i,a,f,S,x5,x12,x13,h,hP,hf=>by obtain rfl:i=E.length:=A_;rw[C0]at hf;subst hf;refine⟨x5,z_,x13,S,aE K _ _ t66L0.eq_1 ?_,hP⟩;simp(disch:=omega)only[go_sem]
 |k+1,i,a,f,S,x5,x12,x13,h,hP,hf=>by
  have J:i<E.length:=A_;have d:=gC (w:=2) (f:=iM) (fun _=>rfl) (t:=tE) (l:=E) (i:=(i:Int)) A_;rw[Int.toNat_natCast]at d;have L:E.getD i default∈E:=by simp only[List.getD,D_ J,Option.getD_some];exact B8 _
  have h5:E.take (i+1)=E.take i++[E.getD i default]:=by rw[G9];simp[List.getD,D_ J]
  generalize E.getD i default=e at *
  obtain⟨x,y,hx,hy,m,p,G⟩:=P e L;have R:=aXi (E.take i) e;rw[<-h5,<-hf]at R;have q:=aJo (x:Int);have o:=aJo (y:Int);rw[iM,hx,hy]at d;have g:=fun f' S' x5 x12 x13=>aU1 (tE:=tE) (tM:=tM) (M:=M) W hE P x0 x1 x2 x4 x6 x7 x8 k (i+1) a f' S' x5 x12 x13 A_;rw[show((i+1:Nat):Int)=(i:Int)+1 by omega]at g;cases hv:(isV e.1&&isV e.2)with
  |false =>
   rw[bRe f hv]at R;have g:=fun b=>g f S (.lb [j_ x,j_ y]) e_ (.iv (.bool b)) hP R.symm;rw[hx,hy]at hv;unfold isV at hv;obtain⟨T,u,z,S',g,F⟩:=g false;refine⟨T,u,z,S',aE K _ _ t66L0.eq_1 ?_,F⟩;cases h1:kG (x:Int)with
   |true =>
    rw[h1]at q hv;cases h2:kG (y:Int)with
    |true=>rw[h2]at hv;simp at hv
    |false =>
     rw[h2]at o hv;have s:¬(32:Int)<=y:=by simpa using hv
     simp(disch:=omega)only[go_sem,d,aD q,aD o,aC,P2];exact X_ er g
   |false =>
    rw[h1]at q hv;by_cases H:(32:Int)<=x
    .cases h2:kG (y:Int)with
     |true=>rw[h2]at hv;simp at hv;omega
     |false =>
      rw[h2]at o hv;have s:¬(32:Int)<=y:=by intro h3;simp at hv;omega
      simp(disch:=omega)only[go_sem,d,aD q,aD o,aC,P2];exact X_ er g
    .simp(disch:=omega)only[go_sem,d,aD q,aD o,aC,P2];exact X_ er g
  |true =>
   rw[P_]at hv;have hl:=bDq f G hx hy hv;rw[<-hl]at R;obtain⟨S1,A,C,h6⟩:=bDg hP (B9 W C_) m p G;obtain⟨l,c,Q,o2,o3⟩:=C.omap x m;have hm:=mE.put Q o2 o3 y p (B9 W C_) (IntKind.i64.wrap (lR l y+1));have D:=C.setM m hm;obtain⟨l',c',I,q2,q3⟩:=D.omap y p;simp only[dB _ _ (B0 G)]at q3;have h0:=mE.put I q2 q3 x m (B9 W C_) (IntKind.i64.wrap (lR l' x+1));have h4:=D.setM p h0;have N:=C.blk;have b2:=C.own;have b3:=D.blk;have b4:=D.own;have Y:=fS (j:=a.jo) (v:=a.vo) m;have Z:=fS (j:=a.jo) (v:=a.vo) p;have V:=dS (fun r=>TV.map (a.om r)) m;have U:=dS (fun r=>TV.map (a.om r)) p;simp only[dQ]at N b3;obtain⟨T,u,z,S',g,F⟩:=g (aXf f x y) _ (.lb [j_ x,j_ y]) e_ e_ h4 R.symm;refine⟨T,u,z,S',aE K _ _ t66L0.eq_1 ?_,F⟩;rw[hx,hy]at hv;unfold isV at hv;cases h1:kG (x:Int)with
   |true =>
    rw[h1]at q hv;cases h2:kG (y:Int)with
    |true =>rw[h2]at o;simp(disch:=omega)only[go_sem,d,aD q,aD o,aC,P2,A,N,b2,Y,Z,V,U,Q,b3,b4,I];exact X_ er g
    |false =>
     rw[h2]at o hv;have s:(32:Int)<=y:=by simpa using hv.2
     simp(disch:=omega)only[go_sem,d,aD q,aD o,aC,P2,A,N,b2,Y,Z,V,U,Q,b3,b4,I];exact X_ er g
   |false =>
    rw[h1]at q hv;have H:(32:Int)<=x:=by simpa using hv.1
    cases h2:kG (y:Int)with
    |true =>rw[h2]at o;simp(disch:=omega)only[go_sem,d,aD q,aD o,aC,P2,A,N,b2,Y,Z,V,U,Q,b3,b4,I];exact X_ er g
    |false =>
     rw[h2]at o hv;have s:(32:Int)<=y:=by simpa using hv.2
     simp(disch:=omega)only[go_sem,d,aD q,aD o,aC,P2,A,N,b2,Y,Z,V,U,Q,b3,b4,I];exact X_ er g
def pn0(n:Nat)(tE:Tag)(E:List (Int×Int))(tM:Tag)(M:List (Int×Int)):Pn:=⟨n,tE,E,tM,M,wF E,wF E,fun r=>r,fun _=>0⟩
theorem aU2{z:IV}{bytes m n:Nat}(a:eA n bytes=true):mkV [z] bytes m (j_ n) (j_ n)=some (.msl m 0 0 n n 1,.cells 0 false (cF n fun _=>.iv z)):=by have b:=bLe (.iv z) n;simp[mkV,TM.fB,a,b]
theorem bRf{n:Nat}{tE:Tag}{E:Tb_}{tM:Tag}{M:Tb_}(e:n<=1000000)(q:32<=n)(i:E.length<=1000000)(c:aXj n E): ∃S' a,(lim K).call 66 [.iv (gv n tE E tM M)] []=.ret (.ptr a.ip 106 0,S')/\PT S' a (pn0 n tE E tM M):=by obtain⟨j,l,S1,nm,f,d,h⟩:=bRd (t1:=tE) (E:=E) (t2:=tM) (M:=M) e A_ (.iv (gv n tE E tM M)) (.lb (qQ n tE E tM M)) (.iv .nilp) u_ u_ u_ u_ u_ u_ u_ u_ [.cells 0 false (cF n fun _=>vI 0),.cells 106 false [j_ n,.iv (.sl tE (E.map iM)),.iv (.sl tM (M.map iM)),k_,k_,k_,.msl 0 0 0 n n 1]] rfl rfl rfl;obtain⟨t,k,o,S2,l2,p⟩:=aU1 (tE:=tE) (tM:=tM) (M:=M) e i c (.iv (gv n tE E tM M)) (.lb (qQ n tE E tM M)) (.iv .nilp) j (j_ n) (j_ n) l E.length 0 ⟨1,6,n-1,7,n-1,8,n-1,0,nm,f⟩ (fun _ _=>false) S1 u_ u_ u_ A_ h.pt (by funext r s;simp[wF]);rw[n0_]at l2;refine⟨S2,⟨1,6,n-1,7,n-1,8,n-1,0,nm,f⟩,aI K _ (fn:=t66) rfl rfl ?_,p⟩;have g:=fun m=>aU2 (z:=.int .i64 0) (m:=m) (bR (n:=n) (b:=8) A_);unfold vI at d;unfold qQ gv at d l2;unfold gv;simp(disch:=omega)only[t66,go_sem,g];rw[d];simp(disch:=omega)only[go_sem,L_];rw[l2];simp(disch:=omega)only[go_sem]
theorem aU3{n:Nat}{x:Nat}(a:x<n)(h:isV (x:Int)=true):vtx n x:=by unfold isV kG at h;refine⟨a,?_⟩;simp at h;omega
theorem aMj(E:Tb_)(r s:Nat):wF E r s=wF E s r:=by unfold wF;congr 1;funext e;unfold aJt;congr 1;rw[Bool.or_comm]
theorem uP{n:Nat}{E:Tb_}(d:aXj n E){r s:Nat}(h:wF E r s=true):r≠s/\vtx n r/\vtx n s/\∃e∈E,e.1=r/\e.2=s\/e.1=s/\e.2=r:=by
 obtain⟨e,g,b⟩:=E8.1 h;obtain⟨x,y,i,k,c,j,a⟩:=d e g;unfold aJt at b;rw[i,k]at b;simp only[P_,D3,q_]at b;obtain⟨⟨p,h3⟩,f⟩:=b;have m:=aU3 c p;have l:=aU3 j h3;rcases f with⟨f,o⟩|⟨f,o⟩;.obtain rfl:x=r:=A_;obtain rfl:y=s:=A_;exact⟨a,m,l,e,g,.inl ⟨i,k⟩⟩
 .obtain rfl:x=s:=A_;obtain rfl:y=r:=A_;exact⟨B0 a,l,m,e,g,.inr ⟨i,k⟩⟩
theorem inv0{n:Nat}{tE:Tag}{E:Tb_}{tM:Tag}{M:Tb_}(a:aXj n E):Inv (pn0 n tE E tM M) (fun r=>r) (fun _=>0) :=
 ⟨⟨fun r _ h=>absurd rfl h,fun r _ _=>rfl⟩,fun r s _ _ h=>by rw[<-h];exact aMj E s r,fun r=>by
  cases h:(pn0 n tE E tM M).near r r with
  |false=>rfl
  |true=>exact absurd rfl (uP a h).1,fun r s _ _ h=>⟨rfl,(uP a h).2.1⟩,fun r s _ _ h=>h,fun _ _ _=>rfl,fun _ _ h=>h⟩
def vJ(lv:TV)(l:List Nat):Prop:=(∃t,lv=.iv (.sl t (cR l)))\/∃j,lv=.tsl j (cR l)
theorem vJ.acc(j:Nat)(l:Tc_):vJ (acc j (cR l)) l:=by
 by_cases h:cR l=[]
 .rw[h,mB];exact .inl ⟨.nil,by rw[h]⟩
 .rw[lO _ h];exact .inr ⟨j,rfl⟩
theorem uQ{t:Tag}{l:Tc_}{i:Nat}(h:i<l.length):indexAddrS 1 (.iv (.sl t (cR l))) (i:Int)=some (.iv (.cp [.int .i64 (l.getD i default:Nat)])):=by have:=gC (w:=1) (f:=fun m:Nat=>[IV.int .i64 (m:Int)]) (fun _=>rfl) (t:=t) (l:=l) (i:=(i:Int)) A_;rwa [Int.toNat_natCast]at this
theorem xL{j:Nat}{l:Tc_}{i:Nat}(h:i<l.length):indexAddrS 1 (.tsl j (cR l)) (i:Int)=some (.iv (.cp [.int .i64 (l.getD i default:Nat)])):=uQ (t:=.no) h
def bI(b:Bool):TV:=.iv (.bool b)
def aJu(p:Pn)(m:Nat)(c:Nat):Prop:=∃t,t<p.n/\p.own m t=true/\p.out t=c/\1<=c/\c<=24
def e40(a:Ad)(lv x2:TV)(T:Nat->Bool)(x4 x5 x6 x7 x8 x9 x10 x11 x12 x13 x14 x15:TV):List TV:=[.ptr a.ip 106 0,lv,x2,.lb (cF 25 fun c=>bI (T c)),x4,x5,x6,x7,x8,x9,x10,x11,x12,x13,x14,x15]
theorem aJv{a:Ad}{p:Pn}{lv:TV}{r:Nat}(hr:r<p.n){bi c:Nat}{l:Td_}(J:gE l c)(hf:∀t:Int,cG l t=true↔∃s:Nat,t=s/\s<p.n/\p.own r s=true)(x2 x4 x6 x7 x8 x9 x10 x14 x15:TV): ∀(k:Nat) (b:Tc_) (T:Tj_) (S:aA) (x5 x12 x13:TV),left l b<k->PT S a p->S[bi]?=some (.mit (some (a.om r)) c b c)->S[a.om r]?=some (.mp (mpR vI l) c) ->(lp' (lim K) t98L1 (e40 a lv x2 T x4 x5 x6 x7 x8 x9 x10 (.it bi) x12 x13 x14 x15) S).All fun q=>∃T' I g i,bL [bi] S q.2.2/\q.1=.exit 2 /\q.2.1=e40 a lv x2 T' x4 I x6 x7 x8 x9 x10 (.it bi) g i x14 x15/\∀c:Nat,T' c=true↔T c=true\/∃z∈l,z.1∉b/\p.out z.2.1.toNat=c/\1<=c/\c<=24
 |0,b,T,S,x5,x12,x13,hk,hP,hb,hm=>A_
 |k+1,b,T,S,x5,x12,x13,hk,hP,hb,hm=>by
  unfold e40;refine fE t98L1.eq_1 ?_;simp(disch:=omega)only[go_sem];refine jD hb hm J.born (O_ _) (fun E=>?_) (fun z C U=>?_);.simp(disch:=omega)only[go_sem];exact bE ⟨T,_,_,_,.refl _ _,rfl,rfl,fun c=>⟨.inl,fun h=>h.elim id fun⟨z,C,U,_⟩=>absurd (E z C) U⟩⟩
  .have h5:=vE C U;have V:bi≠a.om r:=bN hb hm B_;have m:=hP.setIt hb (.mit (some (a.om r)) c (b++[z.1]) c);have y:(S.set bi (.mit (some (a.om r)) c (b++[z.1]) c))[bi]?=_:=aM (aN hb) _;have u:(S.set bi (.mit (some (a.om r)) c (b++[z.1]) c))[a.om r]?=some (.mp (mpR vI l) c):=by rw[aB V];exact hm
   have W:=aAl y u C J.once;have L:bL [bi] S (S.set bi (.mit (some (a.om r)) c (b++[z.1]) c)):=bL.set _ B_ _;generalize S.set bi (.mit (some (a.om r)) c (b++[z.1]) c)=S1 at *
   obtain⟨t,Q,F,h4⟩:=wE hf C;have Z:=m.blk;have b2:=m.out;have i1:=fS (j:=a.ju) (v:=0) F;have R:=dS (fun r=>vI (p.out r)) F;have f:=aJo (p.out t);simp only[dQ]at Z;simp only[vI]at b2 R;rw[Q]at W;have d:∀(T1 T':Tj_),(∀c:Nat,T1 c=true↔T c=true\/p.out t=c/\1<=c/\c<=24)->(∀c:Nat,T' c=true↔T1 c=true\/∃w∈l,w.1∉b++[z.1]/\p.out w.2.1.toNat=c/\1<=c/\c<=24)->∀c:Nat,T' c=true↔T c=true\/∃z∈l,z.1∉b/\p.out z.2.1.toNat=c/\1<=c/\c<=24:=by
    intro T1 T' N h2 c;rw[h2 c,N c];constructor
    .rintro((h|h)|⟨w,P,D,h⟩);.exact .inl h
     .exact .inr ⟨z,C,U,by rw[Q,Int.toNat_natCast];exact h⟩
     .exact .inr ⟨w,P,fun e=>D (by simp[e]),h⟩
    .rintro(h|⟨w,P,D,h⟩);.exact .inl (.inl h)
     .by_cases e:w.1=z.1;.have:=aMh J.once P C e;subst this;rw[Q,Int.toNat_natCast]at h;exact .inl (.inr h)
      .exact .inr ⟨w,P,by simp[D,e],h⟩
   rw[Q];cases hc:kG (p.out t)with
   |false =>rw[hc]at f;have G:=aJv (lv:=lv) hr J hf x2 x4 x6 x7 x8 x9 x10 x14 x15 k (b++[z.1]) T S1 (j_ t) e_ z_ A_ m y u;unfold e40 at G;simp(disch:=omega)only[go_sem,W,Z,b2,i1,R,aD f];refine cQ (Out.all_mono ?_ G);rintro q ⟨T',I,g,i,Y,e1,e2,N⟩;refine⟨T',I,g,i,L.trans Y,e1,e2,d T T' (fun c=>⟨.inl,fun h=>h.elim id fun h=>?_⟩) N⟩;unfold kG at hc;simp at hc;omega
   |true =>
    rw[hc]at f;have h0:1<=p.out t/\p.out t<=24:=by unfold kG at hc;simpa using hc
    obtain⟨o,x⟩:∃o:Nat,p.out t=o:=⟨(p.out t).toNat,by omega⟩
    rw[x]at f R h0;have H:o<25:=A_;have A:=lC (fun c=>bI (T c)) (bI true) H;rw[nW bI]at A;have G:=aJv (lv:=lv) hr J hf x2 x4 x6 x7 x8 x9 x10 x14 x15 k (b++[z.1]) (upd T o true) S1 (j_ t) e_ e_ A_ m y u;unfold e40 at G;rw[show bI true=e_ from rfl]at A;simp(disch:=omega)only[go_sem,W,Z,b2,i1,R,aD f,A,Int.toNat_natCast,I6,A7];refine cQ (Out.all_mono ?_ G);rintro q ⟨T',I,g,i,Y,e1,e2,N⟩;refine⟨T',I,g,i,L.trans Y,e1,e2,d _ T' (fun c=>?_) N⟩;unfold upd;split;.rename_i e;subst e;simp[x];omega
    .rename_i e;rw[x];constructor;.exact .inl
     .rintro(h|⟨h,_⟩);.exact h
      .omega
theorem aU4{a:Ad}{p:Pn}{lv:TV}{l:Tc_}(y:vJ lv l)(H:l.length<=1000000)(D:∀m∈l,m<p.n)(x2 x6 x14 x15:TV): ∀(k i:Nat) (T:Tj_) (S:aA) (x4 x5 x10 x11 x12 x13:TV),i+k=l.length->PT S a p ->(lp' (lim K) t98L2 (e40 a lv x2 T x4 x5 x6 lv (j_ l.length) (j_ i) x10 x11 x12 x13 x14 x15) S).All fun q=>∃T' y4 y5 J h5 x A,bL [] S q.2.2/\q.1=.exit 0 /\q.2.1=e40 a lv x2 T' y4 y5 x6 lv (j_ l.length) (j_ l.length) J h5 x A x14 x15/\∀c:Nat,T' c=true↔T c=true\/∃m∈l.drop i,aJu p m c
 |0,i,T,S,x4,x5,x10,x11,x12,x13,h,hP=>by
  obtain rfl:i=l.length:=A_;unfold e40;refine fE t98L2.eq_1 ?_;rcases y with⟨t,rfl⟩|⟨j,rfl⟩;.simp(disch:=omega)only[go_sem];exact bE ⟨T,_,_,_,_,_,_,.refl _ _,rfl,rfl,fun c=>by rw[E0];simp⟩
  .simp(disch:=omega)only[go_sem];exact bE ⟨T,_,_,_,_,_,_,.refl _ _,rfl,rfl,fun c=>by rw[E0];simp⟩
 |k+1,i,T,S,x4,x5,x10,x11,x12,x13,h,hP=>by
  have b:i<l.length:=A_;have h6:l.drop i=l.getD i default::l.drop (i+1):=by rw[A6 b];simp[List.getD,D_ b]
  have h0:=fun t=>uQ (t:=t) b;have h7:=fun j=>xL (j:=j) b;have F:l.getD i default<p.n:=D _ (by simp only[List.getD,D_ b,Option.getD_some];exact B8 _);generalize l.getD i default=r at *
  obtain⟨lo,c,o1,o2,R⟩:=hP.omap r F;have U:=hP.blk;have b2:=hP.own;have i1:=fS (j:=a.jo) (v:=a.vo) F;have s1:=dS (fun r=>TV.map (a.om r)) F;simp only[dQ]at U;have rg:=kE o1;have k1:=bL.app [] S [aG.mit (some (a.om r)) c [] c];have l1:=aJv (lv:=lv) F o2 R x2 (j_ r) x6 lv (j_ l.length) (j_ i) e_ x14 x15 (left lo []+1) [] T (S++[.mit (some (a.om r)) c [] c]) x5 x12 x13 A_ (hP.keep k1) (cN _ _) (k1.get _ _ B_ o1);have G:=fun T' S' x4 x5 x10 x11 x12 x13=>aU4 (a:=a) y H D x2 x6 x14 x15 k (i+1) T' S' x4 x5 x10 x11 x12 x13 A_;rw[show((i+1:Nat):Int)=(i:Int)+1 by omega]at G;unfold e40 at G l1 |-;refine fE t98L2.eq_1 ?_;have fin:∀(T1 T':Tj_),(∀c:Nat,T1 c=true↔T c=true\/∃z∈lo,z.1∉([]:Tc_)/\p.out z.2.1.toNat=c/\1<=c/\c<=24)->(∀c:Nat,T' c=true↔T1 c=true\/∃m∈l.drop (i+1),aJu p m c)->∀c:Nat,T' c=true↔T c=true\/∃m∈l.drop i,aJu p m c:=by
   intro T1 T' E h2 c;rw[h2 c,E c,h6];have e:(∃z∈lo,z.1∉([]:Tc_)/\p.out z.2.1.toNat=c/\1<=c/\c<=24)↔aJu p r c:=by
    constructor;.rintro⟨z,Y,_,h3,V⟩;obtain⟨t,ht,g,d⟩:=wE R Y;rw[ht,Int.toNat_natCast]at h3;exact⟨t,g,d,h3,V⟩
    .rintro⟨t,g,d,h3,V⟩;obtain⟨z,Y,L⟩:=A0.1 (oJ.1 ((aDn R g).trans d));exact⟨z,Y,by simp,by rw[L,Int.toNat_natCast];exact h3,V⟩
   rw[e];simp only[J_,exists_eq_or_imp,Z8]
  rcases y with⟨t,rfl⟩|⟨j,rfl⟩;.simp(disch:=omega)only[go_sem,h0,U,b2,i1,s1,rg];refine mQ l1 ?_;rintro j e S1 ⟨T1,y5,x,A,f,C,e2,E⟩;dsimp only at C e2 f;subst C e2;simp(disch:=omega)only[go_sem,aC];refine cQ (Out.all_mono ?_ (G T1 S1 _ _ _ _ _ _ (hP.keep (mF f))));rintro q ⟨T',W,I,o,w,s,u,Q,N,Z,P⟩;exact⟨T',W,I,o,w,s,u,(mF f).trans Q,N,Z,fin T1 T' E P⟩
  .simp(disch:=omega)only[go_sem,h7,U,b2,i1,s1,rg];refine mQ l1 ?_;rintro j e S1 ⟨T1,y5,x,A,f,C,e2,E⟩;dsimp only at C e2 f;subst C e2;simp(disch:=omega)only[go_sem,aC];refine cQ (Out.all_mono ?_ (G T1 S1 _ _ _ _ _ _ (hP.keep (mF f))));rintro q ⟨T',W,I,o,w,s,u,Q,N,Z,P⟩;exact⟨T',W,I,o,w,s,u,(mF f).trans Q,N,Z,fin T1 T' E P⟩
theorem aJw{a:Ad}{lv:TV}(T:Tj_)(S:aA)(x4 x5 x7 x8 x9 x10 x11 x12 x13:TV):∀(k c:Nat) (x14 x15:TV),c+k=25 ->∃j v m f b,lp' (lim K) t98L0 (e40 a lv (j_ 0) T x4 x5 (j_ c) x7 x8 x9 x10 x11 x12 x13 x14 x15) S = .ret (j,e40 a lv (j_ v) T x4 x5 m x7 x8 x9 x10 x11 x12 x13 f b,S)/\(j=.exit 4/\(∀d,c<=d->d<=24->T d=true)\/j=.ret/\∃d:Nat,v=d/\c<=d/\d<=24/\T d=false)
 |0,c,x14,x15,h=>by obtain rfl:c=25:=A_;refine⟨.exit 4,0,j_ 25,z_,x15,?_,.inl ⟨rfl,fun d i n=>A_⟩⟩;unfold e40;refine aE K _ _ t98L0.eq_1 ?_;simp(disch:=omega)only[go_sem];rfl
 |k+1,c,x14,x15,h=>by
  have g:=dS (fun c=>bI (T c)) (show c<25 by omega);simp only[bI]at g;cases hT:T c with
  |false =>rw[hT]at g;refine⟨.ret,c,j_ c,e_,e_,?_,.inr ⟨rfl,c,rfl,O_ _,by omega,hT⟩⟩;unfold e40;simp only[bI];refine aE K _ _ t98L0.eq_1 ?_;simp(disch:=omega)only[go_sem,g,Int.toNat_natCast,I6,A7]
  |true =>
   rw[hT]at g;obtain⟨j,v,m,f,b,l,o⟩:=aJw T S x4 x5 x7 x8 x9 x10 x11 x12 x13 k (c+1) e_ z_ A_;rw[show((c+1:Nat):Int)=(c:Int)+1 by omega]at l;refine⟨j,v,m,f,b,?_,?_⟩;.unfold e40 at l |-;simp only[bI]at l |-;refine aE K _ _ t98L0.eq_1 ?_;simp(disch:=omega)only[go_sem,g,Int.toNat_natCast,I6,A7,aC];exact X_ er l
   .rcases o with⟨rfl,i⟩|⟨rfl,d,i,n,h3,p⟩
    .refine .inl ⟨rfl,fun d n h3=>?_⟩;by_cases e:d=c;.rw[e];exact hT
     .exact i d A_ h3
    .exact .inr ⟨rfl,d,i,by omega,h3,p⟩
def aDr(p:Pn)(l:List Nat)(v:Int):Prop:=v = -1/\(∀d:Nat,1<=d->d<=24->∃m∈l,aJu p m d)\/∃d:Nat,v=d/\1<=d/\d<=24/\∀m∈l,¬aJu p m d
theorem bDr{S:aA}{a:Ad}{p:Pn}(N:PT S a p){lv:TV}{l:Tc_}(q:vJ lv l)(z:l.length<=1000000)(F:∀m∈l,m<p.n): ((lim K).call 98 [.ptr a.ip 106 0,lv] S).All fun r=>∃v,r.1=j_ v/\bL [] S r.2/\aDr p l v:=by
 have y:=aU4 q z F (j_ 0) u_ u_ u_ l.length 0 (fun _=>false) S u_ u_ u_ u_ u_ u_ A_ N;rw[n0_,C4]at y;unfold e40 at y;rw[show cF 25 (fun c=>bI ((fun _=>false) c))=[z_,z_,z_,z_,z_,z_,z_,z_,z_,z_,z_,z_,z_,z_,z_,z_,z_,z_,z_,z_,z_,z_,z_,z_,z_] from rfl]at y;refine dJ K _ (fn:=t98) rfl rfl ?_;have f:∀(T:Tj_),(∀c:Nat,T c=true↔false=true\/∃m∈l,aJu p m c)->∀(j:aW) (v:Int),(j=.exit 4/\(∀d,1<=d->d<=24->T d=true)->aDr p l (-1))/\((j=.ret/\∃d:Nat,v=d/\1<=d/\d<=24/\T d=false)->aDr p l v):=by intro T L j v;refine⟨fun⟨_,h⟩=>.inl ⟨rfl,fun d J G=>by simpa using(L d).1 (h d J G)⟩,fun⟨_,d,J,G,h3,h4⟩=>.inr ⟨d,J,G,h3,fun m Q u=>?_⟩⟩;rw[(L d).2 (.inr ⟨m,Q,u⟩)]at h4;cases h4
 have U:rZ .sl S lv=some (j_ l.length):=by
  rcases q with⟨t,rfl⟩|⟨j,rfl⟩;.show some (TV.iv (IV.int .i64 ((cR l).length:Nat)))=_;rw[iT]
  .show some (TV.iv (IV.int .i64 ((cR l).length:Nat)))=_;rw[iT]
 rcases q with⟨t,rfl⟩|⟨j,rfl⟩
 .simp(disch:=omega)only[t98,go_sem,iT];refine dN y ?_;rintro j e S1 ⟨T,A,E,g,k,o,s,i,x,w,H⟩;dsimp only at x w i;subst x w;obtain⟨j,v,P,I,D,l2,b⟩:=aJw (a:=a) (lv:=.iv (.sl t (cR l))) T S1 A E (.iv (.sl t (cR l))) (j_ l.length) (j_ l.length) g k o s 24 1 u_ u_ A_;rw[show((1:Nat):Int)=1 from rfl]at l2;unfold e40 at l2;simp(disch:=omega)only[go_sem];rw[l2];have u:=f T H j v;rcases b with⟨rfl,b⟩|⟨rfl,b⟩;.simp(disch:=omega)only[go_sem];exact bE ⟨-1,rfl,i,u.1 ⟨rfl,b⟩⟩
  .simp(disch:=omega)only[go_sem];exact bE ⟨v,rfl,i,u.2 ⟨rfl,b⟩⟩
 .simp(disch:=omega)only[t98,go_sem,iT];refine dN y ?_;rintro R e S1 ⟨T,A,E,g,k,o,s,i,x,w,H⟩;dsimp only at x w i;subst x w;obtain⟨C,v,P,I,D,l2,b⟩:=aJw (a:=a) (lv:=.tsl j (cR l)) T S1 A E (.tsl j (cR l)) (j_ l.length) (j_ l.length) g k o s 24 1 u_ u_ A_;rw[show((1:Nat):Int)=1 from rfl]at l2;unfold e40 at l2;simp(disch:=omega)only[go_sem];rw[l2];have u:=f T H C v;rcases b with⟨rfl,b⟩|⟨rfl,b⟩;.simp(disch:=omega)only[go_sem];exact bE ⟨-1,rfl,i,u.1 ⟨rfl,b⟩⟩
  .simp(disch:=omega)only[go_sem];exact bE ⟨v,rfl,i,u.2 ⟨rfl,b⟩⟩
theorem aG9{a:Ad}(S:aA)(b:aG):KpX a.own S (S.set a.ju b):=KpX.keep (bL.set (I:=[a.ju]) _ B_ _) (by simp[Ad.own])
theorem aU5{a:Ad}{lv:TV}{l:Tc_}(f:vJ lv l)(s:l.length<=1000000)(c:Int)(A:c≠-1): ∀(k i:Nat) (p:Pn) (S:aA) (g x7 x8:TV),i+k=l.length->(∀m∈l,m<p.n)->PT S a p ->∃q w C S' b,lp' (lim K) t71L0 [.ptr a.ip 106 0,lv,j_ c,g,lv,j_ l.length,j_ i,x7,x8] S = .ret (.exit 0,[.ptr a.ip 106 0,lv,j_ c,q,lv,j_ l.length,j_ l.length,w,C],S')/\PT S' a {p with out:=b}/\KpX a.own S S'/\∀m,b m=if m∈l.drop i then c else p.out m
 |0,i,p,S,g,x7,x8,h,hln,hP=>by
  obtain rfl:i=l.length:=A_;refine⟨g,z_,x8,S,p.out,aE K _ _ t71L0.eq_1 ?_,hP,.refl _ _,fun m=>by rw[E0];simp⟩;rcases f with⟨t,rfl⟩|⟨j,rfl⟩;.simp(disch:=omega)only[go_sem]
  .simp(disch:=omega)only[go_sem]
 |k+1,i,p,S,g,x7,x8,h,hln,hP=>by
  have d:i<l.length:=A_;have z:l.drop i=l.getD i default::l.drop (i+1):=by rw[A6 d];simp[List.getD,D_ d]
  have y:=fun t=>uQ (t:=t) d;have E:=fun j=>xL (j:=j) d;have F:l.getD i default<p.n:=hln _ (by simp only[List.getD,D_ d,Option.getD_some];exact B8 _);generalize l.getD i default=r at *
  have x:=hP.setOut r c;have D:=hP.blk;have b2:=hP.out;have G:=fS (j:=a.ju) (v:=0) F;have u:=lC (fun r=>vI (p.out r)) (vI c) F;simp only[dQ]at D;obtain⟨q,w,C,S',b,o,I,H,h3⟩:=aU5 f s c A k (i+1) {p with out:=upd p.out r c} _ (j_ r) e_ z_ A_ hln x;rw[show((i+1:Nat):Int)=(i:Int)+1 by omega]at o;simp only[vI]at b2 u o;refine⟨q,w,C,S',b,aE K _ _ t71L0.eq_1 ?_,I,(aG9 _ _).trans H,fun m=>?_⟩
  .rcases f with⟨t,rfl⟩|⟨j,rfl⟩;.simp(disch:=omega)only[go_sem,y,D,b2,G,u,aC,A];exact X_ er o
   .simp(disch:=omega)only[go_sem,E,D,b2,G,u,aC,A];exact X_ er o
  .rw[h3 m,z];simp only[J_];by_cases e:m∈l.drop (i+1);.rw[K_ e,K_ (.inr e)]
   .rw[I_ e];by_cases e2:m=r;.subst e2;rw[bU,K_ (.inl rfl)]
    .rw[dB _ _ e2,I_ (by simp[e,e2])]
inductive zI (p:Pn):List Nat->(Nat->Int)->(Nat->Int)->Prop
 |nil (o:Nat->Int):zI p [] o o
 |cons {m:Nat} {l:List Nat} {o o':Nat->Int} {v:Int} (h:aDr {p with out:=o} [m] v) (g:zI p l (upd o m v) o'):zI p (m::l) o o'
theorem zI.re{p:Pn}{X:Tg_}{l:Tc_}{o o':Tg_}(h:zI {p with out:=X} l o o'):zI p l o o':=by
 induction h with
 |nil o=>exact .nil o
 |cons h g ih=>exact .cons h ih
theorem aU6{a:Ad}{lv:TV}{l:Tc_}(u:vJ lv l)(z:l.length<=1000000): ∀(k i:Nat) (p:Pn) (S:aA) (E x7 x8:TV),i+k=l.length->(∀m∈l,m<p.n)->PT S a p ->(lp' (lim K) t71L0 [.ptr a.ip 106 0,lv,j_ (-1),E,lv,j_ l.length,j_ i,x7,x8] S).All fun q=>∃g o w b,q.1=.exit 0 /\q.2.1=[.ptr a.ip 106 0,lv,j_ (-1),g,lv,j_ l.length,j_ l.length,o,w]/\PT q.2.2 a {p with out:=b}/\KpX a.own S q.2.2/\zI p (l.drop i) p.out b
 |0,i,p,S,E,x7,x8,h,hln,hP=>by
  obtain rfl:i=l.length:=A_;refine fE t71L0.eq_1 ?_;rcases u with⟨t,rfl⟩|⟨j,rfl⟩;.simp(disch:=omega)only[go_sem];exact bE ⟨_,_,_,p.out,rfl,rfl,hP,.refl _ _,by rw[E0];exact .nil _⟩
  .simp(disch:=omega)only[go_sem];exact bE ⟨_,_,_,p.out,rfl,rfl,hP,.refl _ _,by rw[E0];exact .nil _⟩
 |k+1,i,p,S,E,x7,x8,h,hln,hP=>by
  have d:i<l.length:=A_;have C:l.drop i=l.getD i default::l.drop (i+1):=by rw[A6 d];simp[List.getD,D_ d]
  have A:=fun t=>uQ (t:=t) d;have G:=fun j=>xL (j:=j) d;have D:l.getD i default<p.n:=hln _ (by simp only[List.getD,D_ d,Option.getD_some];exact B8 _);generalize l.getD i default=r at *
  have F:=hP.blk;simp only[dQ]at F;have H:=fS (j:=a.ju) (v:=0) D;have s:=bDr hP (lv:=.iv (.sl .full (cR [r]))) (.inl ⟨_,rfl⟩) B_ (by simpa using D);rw[show cR [r]=[[.int .i64 (r:Int)]] from rfl]at s;have fin:∀(S1:aA) (v:Int),bL [] S S1->aDr p [r] v->∀q:aW×Env×aA,(∃g o w b,q.1=.exit 0 /\
   q.2.1=[.ptr a.ip 106 0,lv,j_ (-1),g,lv,j_ l.length,j_ l.length,o,w]/\PT q.2.2 a {p with out:=b}/\KpX a.own (S1.set a.ju (.cells 0 false (cF p.n (upd (fun r=>vI (p.out r)) r (vI v))))) q.2.2/\zI {p with out:=upd p.out r v} (l.drop (i+1)) (upd p.out r v) b)->∃g o w b,q.1=.exit 0 /\
   q.2.1=[.ptr a.ip 106 0,lv,j_ (-1),g,lv,j_ l.length,j_ l.length,o,w]/\PT q.2.2 a {p with out:=b}/\KpX a.own S q.2.2/\zI p (l.drop i) p.out b:=by
   rintro S1 v c x q ⟨g,o,w,b,I,e2,N,J,h3⟩
   exact⟨g,o,w,b,I,e2,N,(KpX.keep c B_).trans ((aG9 _ _).trans J),by rw[C];exact .cons x h3.re⟩
  have e:=fun S1 v (c:bL [] S S1)=>aU6 u z k (i+1) {p with out:=upd p.out r v} _ (j_ r) e_ e_ A_ hln ((hP.keep c).setOut r v);have f:=fun v=>lC (fun r=>vI (p.out r)) (vI v) D;refine fE t71L0.eq_1 ?_;rcases u with⟨t,rfl⟩|⟨j,rfl⟩;.simp(disch:=omega)only[go_sem,A,F];refine kJ s ?_;rintro L S1 ⟨v,y,c,x⟩;dsimp only at y c;subst y;have b3:=(hP.keep c).blk;have b4:=(hP.keep c).out;have f:=f v;have e:=e S1 v c;rw[show((i+1:Nat):Int)=(i:Int)+1 by omega]at e;refine Out.all_mono (fin S1 v c x) ?_;simp only[dQ]at b3;simp only[vI]at b4 f e |-;simp(disch:=omega)only[go_sem,b3,b4,H,f,aC];exact cQ e
  .simp(disch:=omega)only[go_sem,G,F];refine kJ s ?_;rintro L S1 ⟨v,y,c,x⟩;dsimp only at y c;subst y;have b3:=(hP.keep c).blk;have b4:=(hP.keep c).out;have f:=f v;have e:=e S1 v c;rw[show((i+1:Nat):Int)=(i:Int)+1 by omega]at e;refine Out.all_mono (fin S1 v c x) ?_;simp only[dQ]at b3;simp only[vI]at b4 f e |-;simp(disch:=omega)only[go_sem,b3,b4,H,f,aC];exact cQ e
def qR(p:Pn)(l:List Nat)(out':Nat->Int):Prop :=
 (∃d:Nat,1<=d/\d<=24/\(∀m∈l,¬aJu p m d)/\∀m,out' m=if m∈l then(d:Int)else p.out m)\/(∀d:Nat,1<=d->d<=24->∃m∈l,aJu p m d)/\zI p l p.out out'
theorem bRg{S:aA}{a:Ad}{p:Pn}(C:PT S a p){lv:TV}{l:Tc_}(h:vJ lv l)(o:l.length<=1000000)(w:∀m∈l,m<p.n): ((lim K).call 71 [.ptr a.ip 106 0,lv] S).All fun r=>∃b,r.1=u_/\PT r.2 a {p with out:=b}/\KpG a S r.2/\qR p l b:=by
 have z:=bDr C h o w;refine dJ K _ (fn:=t71) rfl rfl ?_;have key:∀(S1:aA) (v:Int),bL [] S S1->aDr p l v->(lp' (lim K) t71L0 [.ptr a.ip 106 0,lv,j_ v,u_,lv,j_ l.length,j_ 0,u_,u_] S1).All fun q=>∃k u y b,q.1=.exit 0 /\
   q.2.1=[.ptr a.ip 106 0,lv,j_ v,k,lv,j_ l.length,j_ l.length,u,y]/\PT q.2.2 a {p with out:=b}/\KpG a S q.2.2/\qR p l b:=by
  intro S1 v c x
  rcases x with⟨rfl,x⟩|⟨d,rfl,G,E,h3⟩
  .have:=aU6 h o l.length 0 p S1 u_ u_ u_ A_ w (C.keep c)
   refine Out.all_mono ?_ this
   rintro q ⟨k,u,y,b,s,e2,f,g,i⟩
   exact⟨k,u,y,b,s,e2,f,((KpX.keep c B_).trans g).toG,.inr ⟨x,by rwa [C4]at i⟩⟩
  .obtain⟨k,u,y,S',b,D,f,g,i⟩:=aU5 h o d A_ l.length 0 p S1 u_ u_ u_ A_ w (C.keep c)
   rw[n0_]at D
   rw[D]
   rw[C4]at i
   exact bE ⟨k,u,y,b,rfl,rfl,f,((KpX.keep c B_).trans g).toG,.inl ⟨d,G,E,h3,i⟩⟩
 rcases h with⟨t,rfl⟩|⟨j,rfl⟩;.simp(disch:=omega)only[t71,go_sem];refine fI z ?_;rintro F S1 ⟨v,A,c,x⟩;dsimp only at A c;subst A;simp(disch:=omega)only[go_sem,iT];refine dN (key S1 v c x) ?_;rintro j e S2 ⟨k,u,y,b,s,e2,f,g,i⟩;dsimp only at s e2 f g;subst s e2;simp(disch:=omega)only[go_sem];exact bE ⟨b,rfl,f,g,i⟩
 .simp(disch:=omega)only[t71,go_sem];refine fI z ?_;rintro F S1 ⟨v,A,c,x⟩;dsimp only at A c;subst A;simp(disch:=omega)only[go_sem,iT];refine dN (key S1 v c x) ?_;rintro j e S2 ⟨k,u,y,b,s,e2,f,g,i⟩;dsimp only at s e2 f g;subst s e2;simp(disch:=omega)only[go_sem];exact bE ⟨b,rfl,f,g,i⟩
theorem aJx{L:Tc_}{J:Tn_}{i:Nat}(h:i<L.length):sub (L.map nI++J) i 1=some [nI (L.getD i default)]:=by simp only[sub,H_,L_,show i+1<=L.length+J.length by omega,↓reduceIte];rw[A6 (by simp;omega)];simp[Y7,h,List.getD,D_ h]
structure Dg (S:aA) (jb jd n:Nat) (dg:Nat->Int):Prop where
 box:S[jb]?=some (.cells 27 false [.msl jd 0 0 n n 1])
 row:S[jd]?=some (.cells 0 false (cF n fun r=>vI (dg r)))
theorem bRh{S:aA}{jb d n:Nat}{a:Tg_}(h:Dg S jb d n a){x:Nat}(c:x<n):(lim K).call 93 [j_ x,.ptr jb 27 0] S=.ret (.iv (.bool (decide (a x<24))),S):=by have f:=h.box;have b2:=h.row;have e:=fS (j:=d) (v:=0) c;have b:=dS (fun r=>vI (a r)) c;simp only[vI]at b2 b;refine aI K _ (fn:=t93) rfl rfl ?_;simp(disch:=omega)only[t93,go_sem,f,b2,e,b]
theorem bLf{jl v m cap i:Nat}(h:i<m):indexAddrS 1 (.msl jl v 0 m cap 1) (i:Int)=some (.ptr jl v i):=by rw[aLm A_,Int.toNat_natCast,A7]
theorem aU7{S:aA}{jb A n:Nat}{f:Tg_}(h:Dg S jb A n f){jl v:Nat}{L:Tc_}{J:Tn_}(g:S[jl]?=some (.cells v true (L.map nI++J)))(d:∀x∈L,x<n)(p:L.length<=1000000)(cap:Nat):∀(k i:Nat) (x2 m x6 x7:TV),i+k=L.length ->∃j l o t u s,lp' (lim K) t50L0 [.msl jl v 0 L.length cap 1,.fn 93 [] [.ptr jb 27 0],x2,m,j_ L.length,j_ i,x6,x7] S = .ret (j,[.msl jl v 0 L.length cap 1,.fn 93 [] [.ptr jb 27 0],l,o,j_ L.length,t,u,s],S) /\(j=.exit 0/\(∀q,i<=q->q<L.length->¬f (L.getD q default)<24)\/j=.ret/\∃q:Nat,l=j_ q/\q<L.length/\f (L.getD q default)<24)
 |0,i,x2,m,x6,x7,hk=>by obtain rfl:i=L.length:=A_;refine⟨.exit 0,x2,m,j_ L.length,z_,x7,aE K _ _ t50L0.eq_1 ?_,.inl ⟨rfl,fun q C w=>A_⟩⟩;simp(disch:=omega)only[go_sem]
 |k+1,i,x2,m,x6,x7,hk=>by
  have a:i<L.length:=A_;have y:=bLf (jl:=jl) (v:=v) (cap:=cap) a;have r:=aJx (J:=J) a;have D:L.getD i default<n:=d _ (by simp only[List.getD,D_ a,Option.getD_some];exact B8 _);have b:=bRh h D;simp only[nI]at g r;by_cases hd:f (L.getD i default)<24;.rw[V_ hd]at b;refine⟨.ret,j_ i,j_ i,j_ i,e_,e_,aE K _ _ t50L0.eq_1 ?_,.inr ⟨rfl,i,rfl,a,hd⟩⟩;simp(disch:=omega)only[go_sem,y,g,r,b]
  .rw[l_ hd]at b;obtain⟨j,l,o,t,u,s,z,c⟩:=aU7 h (J:=J) (by simpa only[nI] using g) d p cap k (i+1) x2 (j_ i) e_ z_ A_;rw[show((i+1:Nat):Int)=(i:Int)+1 by omega]at z;refine⟨j,l,o,t,u,s,aE K _ _ t50L0.eq_1 ?_,?_⟩;.simp(disch:=omega)only[go_sem,y,g,r,b,aC];exact X_ er z
   .rcases c with⟨rfl,c⟩|c
    .refine .inl ⟨rfl,fun q C w=>?_⟩;by_cases e:q=i;.rw[e];exact hd
     .exact c q A_ w
    .exact .inr c
theorem bLg{S:aA}{jb k n:Nat}{c:Tg_}(h:Dg S jb k n c){jl v:Nat}{L:Tc_}{J:Tn_}(g:S[jl]?=some (.cells v true (L.map nI++J)))(b:∀x∈L,x<n)(a:L.length<=1000000)(cap:Nat): ∃w:Int,(lim K).call 50 [.msl jl v 0 L.length cap 1,.fn 93 [] [.ptr jb 27 0]] S=.ret (j_ w,S)/\(w = -1/\(∀q,q<L.length->¬c (L.getD q default)<24)\/∃q:Nat,w=q/\q<L.length/\c (L.getD q default)<24):=by
 obtain⟨j,m,l,r,o,p,f,d⟩:=aU7 h g b a cap L.length 0 (j_ 0) u_ u_ u_ A_;rw[n0_]at f;rcases d with⟨rfl,d⟩|⟨rfl,q,rfl,i,e⟩;.refine⟨-1,aI K _ (fn:=t50) rfl rfl ?_,.inl ⟨rfl,fun q e=>d q A_ e⟩⟩;simp(disch:=omega)only[t50,go_sem];rw[f];simp(disch:=omega)only[go_sem]
 .refine⟨q,aI K _ (fn:=t50) rfl rfl ?_,.inr ⟨q,rfl,i,e⟩⟩;simp(disch:=omega)only[t50,go_sem];rw[f];simp(disch:=omega)only[go_sem]
theorem aU8(x:Int):Pure K 120 [j_ x] z_:=by refine aT t120 rfl rfl ?_;simp(disch:=omega)only[t120,go_sem]
theorem bRi(x y:Int):∃c:Int,Pure K 96 [j_ x,j_ y] (j_ c):=by
 have b:=aU8 x;have a:=aU8 y;by_cases h1:x<y;.refine⟨-1,aT t96 rfl rfl ?_⟩;simp(disch:=omega)only[t96,go_sem,aD b,aD a]
 .by_cases h2:y<x;.refine⟨1,aT t96 rfl rfl ?_⟩;simp(disch:=omega)only[t96,go_sem,aD b,aD a]
  .refine⟨0,aT t96 rfl rfl ?_⟩;simp(disch:=omega)only[t96,go_sem,aD b,aD a]
theorem bRj{S:aA}{jb d n:Nat}{a:Tg_}(h:Dg S jb d n a){x y:Nat}(g:x<n)(i:y<n):∃c:Int,(lim K).call 95 [j_ x,j_ y,.ptr jb 27 0] S=.ret (j_ c,S):=by have m:=h.box;have b2:=h.row;have l:=fS (j:=d) (v:=0) g;have e:=dS (fun r=>vI (a r)) g;have k:=fS (j:=d) (v:=0) i;have f:=dS (fun r=>vI (a r)) i;obtain⟨c,b⟩:=bRi (a x) (a y);simp only[vI]at b2 e f;refine⟨c,aI K _ (fn:=t95) rfl rfl ?_⟩;simp(disch:=omega)only[t95,go_sem,m,b2,l,e,k,f,aD b]
theorem pV{L:Tc_}{i:Nat}(h:i<L.length):L.getD i default∈L:=by simp only[List.getD,D_ h,Option.getD_some];exact B8 _
theorem aQl{S:aA}{jb u n:Nat}{t:Tg_}(h:Dg S jb u n t){jl v:Nat}{L:Tc_}{J:Tn_}(l:S[jl]?=some (.cells v true (L.map nI++J)))(a:∀x∈L,x<n)(f:L.length<=1000000)(cap:Nat)(x2 x5:TV):∀(k i m:Nat) (x6 x7:TV),i+k=L.length->m∈L ->∃e o g,lp' (lim K) t94L0 [.msl jl v 0 L.length cap 1,.fn 95 [] [.ptr jb 27 0],x2,j_ (m:Nat),j_ i,x5,x6,x7] S = .ret (.exit 0,[.msl jl v 0 L.length cap 1,.fn 95 [] [.ptr jb 27 0],x2,j_ (e:Nat),j_ L.length,x5,o,g],S)/\e∈L
 |0,i,m,x6,x7,hk,hm=>by obtain rfl:i=L.length:=A_;refine⟨m,z_,x7,aE K _ _ t94L0.eq_1 ?_,hm⟩;simp(disch:=omega)only[go_sem]
 |k+1,i,m,x6,x7,hk,hm=>by
  have d:i<L.length:=A_;have r:=bLf (jl:=jl) (v:=v) (cap:=cap) d;have q:=aJx (J:=J) d;have s:=pV d;obtain⟨c,j⟩:=bRj h (a _ s) (a _ hm);simp only[nI]at l q;by_cases hd:0<c;.obtain⟨e,o,g,p,b⟩:=aQl h (J:=J) (by simpa only[nI] using l) a f cap x2 x5 k (i+1) (L.getD i default) e_ e_ A_ s;rw[show((i+1:Nat):Int)=(i:Int)+1 by omega]at p;refine⟨e,o,g,aE K _ _ t94L0.eq_1 ?_,b⟩;simp(disch:=omega)only[go_sem,r,l,q,j,aC];exact X_ er p
  .obtain⟨e,o,g,p,b⟩:=aQl h (J:=J) (by simpa only[nI] using l) a f cap x2 x5 k (i+1) m e_ z_ A_ hm;rw[show((i+1:Nat):Int)=(i:Int)+1 by omega]at p;refine⟨e,o,g,aE K _ _ t94L0.eq_1 ?_,b⟩;simp(disch:=omega)only[go_sem,r,l,q,j,aC];exact X_ er p
theorem bRk{S:aA}{jb l n:Nat}{j:Tg_}(h:Dg S jb l n j){jl v:Nat}{L:Tc_}{J:Tn_}(c:S[jl]?=some (.cells v true (L.map nI++J)))(d:∀x∈L,x<n)(b:L.length<=1000000)(a:0<L.length)(cap:Nat): ∃m:Nat,(lim K).call 94 [.msl jl v 0 L.length cap 1,.fn 95 [] [.ptr jb 27 0]] S=.ret (j_ m,S)/\m∈L:=by have f:=bLf (jl:=jl) (v:=v) (cap:=cap) a;have e:=aJx (J:=J) a;obtain⟨m,o,p,g,i⟩:=aQl h c d b cap (j_ 0) z_ (L.length-1) 1 (L.getD 0 default) u_ u_ A_ (pV a);simp only[nI]at c e;rw[n0_]at f;rw[show((1:Nat):Int)=1 from rfl]at g;refine⟨m,aI K _ (fn:=t94) rfl rfl ?_,i⟩;have k:¬(L.length:Int)<1:=A_;simp(disch:=omega)only[t94,go_sem,f,c,e,k];rw[g];simp(disch:=omega)only[go_sem]
theorem bDs{t:Tag}{L:Tc_}(c:L.length<=1000000)(m:Nat):∀(k i:Nat) (x2 h x6 x7:TV),i+k=L.length->m∈L.drop i ->∃q b o f n,lp' (lim K) t74L0 [.iv (.sl t (cR L)),j_ m,x2,h,j_ L.length,j_ i,x6,x7] [] = .ret (.ret,[.iv (.sl t (cR L)),j_ m,j_ (q:Nat),b,j_ L.length,o,f,n],[])/\q<L.length
 |0,i,x2,h,x6,x7,hk,hm=>by rw[G6 A_]at hm;cases hm
 |k+1,i,x2,h,x6,x7,hk,hm=>by
  have a:i<L.length:=A_;have j:=uQ (t:=t) a;have d:L.drop i=L.getD i default::L.drop (i+1):=by rw[A6 a];simp[List.getD,D_ a]
  rw[d]at hm;by_cases hd:L.getD i default=m;.rw[hd]at j;refine⟨i,j_ i,j_ i,e_,e_,aE K _ _ t74L0.eq_1 ?_,a⟩;simp(disch:=omega)only[go_sem,j]
  .have g:m∈L.drop (i+1):=by
    rcases J_.1 hm with e|e;.exact absurd e.symm hd
    .exact e
   obtain⟨q,b,o,f,n,p,r⟩:=bDs (t:=t) c m k (i+1) x2 (j_ i) e_ z_ A_ g;rw[show((i+1:Nat):Int)=(i:Int)+1 by omega]at p;refine⟨q,b,o,f,n,aE K _ _ t74L0.eq_1 ?_,r⟩;have l:¬((m:Int)=(L.getD i default:Nat)):=A_;simp(disch:=omega)only[go_sem,j,l,aC];exact X_ er p
theorem bRl{t:Tag}{L:Tc_}(a:L.length<=1000000){m:Nat}(c:m∈L):∃q:Nat,Pure K 74 [.iv (.sl t (cR L)),j_ m] (j_ q)/\q<L.length:=by obtain⟨q,e,g,h,f,b,d⟩:=bDs (t:=t) a m L.length 0 (j_ 0) u_ u_ u_ A_ (by simpa using c);rw[n0_]at b;refine⟨q,TM.gQ (S:=[]) (r:=j_ q) (aI K _ (fn:=t74) rfl rfl ?_) (by rw[oH]),d⟩;simp(disch:=omega)only[t74,go_sem,iT];rw[b];simp(disch:=omega)only[go_sem]
theorem bLh{S:aA}{jl v:Nat}{L:Tc_}{J:Tn_}(c:S[jl]?=some (.cells v true (L.map nI++J)))(cap:Nat):cH S (.msl jl v 0 L.length cap 1)=some (cR L):=by
 have b:sub (L.map nI++J) 0 (L.length*1)=some (L.map nI):=by simp[sub,X2]
 have e2:toIVs (L.map nI)=some (L.map fun m:Nat=>IV.int .i64 (m:Int)):=by
  have:L.map nI=(L.map fun m:Nat=>IV.int .i64 (m:Int)).map .iv:=by rw[L7];rfl
  rw[this,fM]
 have e3:∀L:List Nat,cP 1 L.length (L.map fun m:Nat=>IV.int .i64 (m:Int))=cR L:=by
  intro L;induction L with
  |nil=>rfl
  |cons a r ih=>simp only[Q_,List.length_cons,cP,List.take_succ_cons,List.take_zero,J5,C4,ih];rfl
 simp only[cH,c,ne_eq,C9,↓reduceIte,b,e2,Option.map_some,e3]
theorem bLi{m cap a b c:Nat}(d:c<=cap)(e:b<=c)(h3:a<=b):fN m cap (some (a:Int)) (some (b:Int)) (some (c:Int))=some (a,b,c):=by simp[fN,lB d,lB e,lB h3]
theorem bLj{m cap a b:Nat}(c:b<=cap)(h3:a<=b):fN m cap (some (a:Int)) (some (b:Int)) none=some (a,b,cap):=by have:pY none cap cap=some cap:=rfl;simp[fN,this,lB c,lB h3]
theorem aCh{S:aA}{jl v m cap:Nat}{cs:Tn_}(f:S[jl]?=some (.cells v true cs))(lo a b:Option Int){l h c:Nat}(e:fN m cap lo a b=some (l,h,c)):fQ S (.sl 1) (.msl jl v 0 m cap 1) lo a b=some (.msl jl v (if c=l then 0 else 0+l*1) (h-l) (c-l) 1):=by
 have d:rU S jl v=true:=by simp[rU,f]
 simp[fQ,d,e]
theorem bRm(l:Tc_):(l.map nI).any bJ=false:=by rw[t_];intro x a;obtain⟨m,_,rfl⟩:=A0.1 a;simp[nI,bJ]
theorem aMk{L:Tc_}{J:Tn_}{i:Nat}(c:i<L.length):put (L.map nI++J) i ((L.drop (i+1)).map nI)=(L.eraseIdx i).map nI++(nI (L.getD (L.length-1) default)::J):=by
 unfold put;rw[K2 (by simp<;>omega),Q1,E2,List.map_take];simp only[A9];congr 2;have b:i+((L.drop (i+1)).map nI).length=L.length-1:=by simp;omega
 rw[b,K3 (by simp<;>omega),<-List.map_drop];have a:L.drop (L.length-1)=[L.getD (L.length-1) default]:=by rw[A6 A_,G6 A_];simp[List.getD,D_ (show L.length-1<L.length by omega)]
 rw[a];rfl
theorem bDt{S:aA}{jl v:Nat}{L:Tc_}{J:Tn_}(h:S[jl]?=some (.cells v true (L.map nI++J))){i:Nat}(n:i<L.length)(c':Nat): bA false 1 8 3 S (.msl jl v 0 (i-0) (L.length+J.length-0) 1) (.msl jl v (if L.length+J.length=i+1 then 0 else 0+(i+1)*1) (L.length-(i+1)) c' 1)=some (.msl jl v 0 (L.length-1) (L.length+J.length) 1,S.set jl (.cells v true ((L.eraseIdx i).map nI++(nI (L.getD (L.length-1) default)::J)))):=by
 have a:=aMk (J:=J) n;have j:dU S (.msl jl v (if L.length+J.length=i+1 then 0 else 0+(i+1)*1) (L.length-(i+1)) c' 1)=some ((L.drop (i+1)).map nI):=by
  simp only[dU,h,↓reduceIte,I6,A7];by_cases e:L.length+J.length=i+1;.rw[K_ e,show L.length-(i+1)=0 by omega,G6 A_];simp[sub]
  .rw[I_ e];simp only[sub,H_,L_,show i+1+(L.length-(i+1))<=L.length+J.length by omega,↓reduceIte];rw[K3 (by simp;omega),K2 B_,<-List.map_drop,K5 B_]
 have b:((L.drop (i+1)).map nI).length=L.length-(i+1):=B_;have d:lenOf S (.msl jl v (if L.length+J.length=i+1 then 0 else 0+(i+1)*1) (L.length-(i+1)) c' 1)=some (L.length-(i+1)):=rfl;generalize TV.msl jl v (if L.length+J.length=i+1 then 0 else 0+(i+1)*1) (L.length-(i+1)) c' 1=x at j d |-;simp only[bA,j,d,b,I6,ne_eq,C9,bRm,b_,or_self,↓reduceIte,Nat.sub_zero,A7];by_cases e:L.length-(i+1)=0
 .rw[K_ e];have g:i=L.length-1:=A_;have:L.drop (i+1)=[]:=G6 A_;rw[this]at a;have f:put (L.map nI++J) i (([]:Tc_).map nI)=L.map nI++J:=by simp only[put,C3,A4,List.length_nil,Nat.add_zero,F9]
  rw[f]at a;obtain⟨l,m⟩:=E_.1 h;rw[<-a,<-m,J8,<-g];rfl
 .rw[I_ e];simp only[h,show ¬(1≠1\/v≠v) by simp,↓reduceIte,show i+(L.length-(i+1))<=L.length+J.length by omega,H_,L_,a,show i+(L.length-(i+1))=L.length-1 by omega];have k:L.length-1<=L.length+J.length:=A_;simp[k,show L.length<=L.length+J.length+1 by omega]
theorem bRn{S:aA}{jl v:Nat}{L:Tc_}{J:Tn_}(d:S[jl]?=some (.cells v true (L.map nI++J)))(n:L.length<=1000000){i:Nat}(j:i<L.length): ∃J',(lim K).call 97 [.msl jl v 0 L.length (L.length+J.length) 1,j_ i,j_ (i+1:Nat)] S=.ret (.msl jl v 0 (L.length-1) (L.length+J.length) 1,S.set jl (.cells v true ((L.eraseIdx i).map nI++J')))/\J'.length=J.length+1:=by
 have t:=bLi (m:=L.length) (cap:=L.length+J.length) (a:=i) (b:=i+1) (c:=L.length) A_ A_ A_;have b2:=uF (m:=L.length) (cap:=L.length+J.length) (b:=i) A_;have b3:=pL (m:=L.length) (cap:=L.length+J.length) (a:=i+1) A_ A_;have k:=aCh d _ _ _ t;have q:=aCh d _ _ _ b2;have l:=aCh d _ _ _ b3;have o:=bDt d j (L.length+J.length-(i+1));have h:=aN d;have f:(S.set jl (.cells v true ((L.eraseIdx i).map nI++(nI (L.getD (L.length-1) default)::J))))[jl]?=some _:=aM h _;have p:=bLj (m:=L.length-1) (cap:=L.length+J.length) (a:=L.length-1) (b:=L.length) A_ A_;have u:=aCh f _ _ _ p;have s:∀g,lW [.int .i64 0] (S.set jl (.cells v true ((L.eraseIdx i).map nI++(nI (L.getD (L.length-1) default)::J)))) (.msl jl v (0+(L.length-1)*1) (L.length-(L.length-1)) g 1)=some (S.set jl (.cells v true ((L.eraseIdx i).map nI++(j_ 0::J)))):=by
  intro g;have r:L.length-(L.length-1)=1:=A_;have w:¬L.length+J.length=L.length-1:=A_;have e:((L.eraseIdx i).map nI).length=L.length-1:=by rw[L_,Q9,K_ j]
  have x:put ((L.eraseIdx i).map nI++(nI (L.getD (L.length-1) default)::J)) (L.length-1) [j_ 0]=(L.eraseIdx i).map nI++(j_ 0::J):=by
   unfold put;rw[<-e,K4,List.drop_append];.simp
   .rfl
  simp only[lW,f,r,w,↓reduceIte,I6,A7,List.length_cons,List.length_nil,Z7];have h3:L.length-1+1<=((L.eraseIdx i).map nI++(nI (L.getD (L.length-1) default)::J)).length:=by rw[H_,e];simp<;>omega
  simp only[h3,x,W9,↓reduceIte,TM.bC,List.replicate,Q_,C3,A4,Nat.one_ne_zero,H0]
 refine⟨j_ 0::J,aI K _ (fn:=t97) rfl rfl ?_,rfl⟩;rw[show((i+1:Nat):Int)=(i:Int)+1 by omega]at k l |-;simp(disch:=omega)only[t97,go_sem,k,q,l,o,u,fun env c=>aLr _ env _ _ _ (s c)]
theorem uR{S0 S:aA}(k:bL [] S0 S){i:Nat}(c:S0.length<=i)(b:aG):bL [] S0 (S.set i b) :=
 ⟨by have:=k.len;simpa using this,fun j x _ a=>by have:=aN a;rw[aB A_];exact k.get j x B_ a⟩
theorem bDu{S0 S:aA}(k:bL [] S0 S)(a:List aG):bL [] S0 (S++a):=k.trans (bL.app [] S a)
theorem aXk{S:aA}{b v:Nat}{L:Tc_}(r:Nat)(g:S[b]?=some (.cells v true (L.map nI)))(h:L.length<=1000000): bA true 1 8 3 S (.msl b v 0 L.length L.length 1) (.iv (.sl .full [[.int .i64 (r:Int)]]))=some (.msl b (v+1) 0 (L.length+1) (L.length+1) 1,S.set b (.cells (v+1) true ((L++[r]).map nI))):=by have c:sub (L.map nI) 0 L.length=some (L.map nI):=mC B_;have e:eA (L.length+1) 8=true:=bR A_;have f:dU S (.iv (.sl .full [[.int .i64 (r:Int)]]))=some [nI r]:=rfl;have a:lenOf S (.iv (.sl .full [[.int .i64 (r:Int)]]))=some 1:=rfl;have d:bJ (nI r)=false:=rfl;simp[bA,f,a,g,d,e,c,show ¬L.length+1<=L.length by omega]
structure Lf (S0 S:aA) (n:Nat) (L:List Nat) (dg:Nat->Int) (lv:TV):Prop where
 keep:bL [] S0 S
 gone:S[S0.length]?=some (.cells 0 false (cF n fun _=>bI false))
 deg:Dg S (S0.length+2) (S0.length+1) n dg
 lst:(L=[]/\lv=.iv (.sl .nil [])/\S.length=S0.length+3)\/(L≠[]/\∃v,lv=.msl (S0.length+3) v 0 L.length L.length 1/\S[S0.length+3]?=some (.cells v true (L.map nI)))
def dI(p:Pn)(i:Nat):List Nat:=((List.range p.n).drop i).filter fun r=>decide (p.to r=r)
theorem aJy{S0:aA}{a:Ad}{p:Pn}(q:PT S0 a p)(N:p.n<=1000000)(R x2 x7 x8 x9 x12 x13 x14 x15 x16:TV):∀(k i:Nat) (L:Tc_) (s:Tg_) (lv:TV) (S:aA) (x10 x11:TV),i+k=p.n->Lf S0 S p.n L s lv->L.length<=i ->∃h o S' g m,lp' (lim K) t70L2 [.ptr a.ip 106 0,R,x2,.msl S0.length 0 0 p.n p.n 1,.ptr (S0.length+2) 27 0,lv,j_ i,x7,x8,x9,x10,x11,x12,x13,x14,x15,x16] S = .ret (.exit 0,[.ptr a.ip 106 0,R,x2,.msl S0.length 0 0 p.n p.n 1,.ptr (S0.length+2) 27 0,g,j_ p.n,x7,x8,x9,h,o,x12,x13,x14,x15,x16],S') /\Lf S0 S' p.n (L++dI p i) m g
 |0,i,L,s,lv,S,x10,x11,hk,hB,hl=>by
  obtain rfl:i=p.n:=A_;have z:=(q.keep hB.keep).blk;simp only[dQ]at z;have e:dI p p.n=[]:=by unfold dI;rw[G6 B_];rfl
  refine⟨z_,x11,S,lv,s,aE K _ _ t70L2.eq_1 ?_,by rw[e,A4];exact hB⟩;simp(disch:=omega)only[go_sem,z]
 |k+1,i,L,s,lv,S,x10,x11,hk,hB,hl=>by
  have d:i<p.n:=A_;have Y:=q.keep hB.keep;have z:=Y.blk;have b2:=Y.to;have i1:=fS (j:=a.jt) (v:=a.vt) d;have J:=dS (fun r=>nI (p.to r)) d;simp only[dQ]at z;simp only[nI]at b2 J;have F:=aDp d;by_cases e:p.to i=i
  .have Z:dI p i=i::dI p (i+1):=by unfold dI;rw[F,E4,K_ (by simpa using e)]
   obtain⟨l,c,m1,m2,m3⟩:=Y.nmap i d;have hd:=sQ m2 m3;have h6:=aN hB.deg.box;obtain⟨S1,A,I,E,Q,h2,P,T,w,h5⟩:∃S1 A I,bA true 1 8 3 S lv (.iv (.sl .full [[.int .i64 (i:Int)]]))=some (A,S1)/\A=.msl (S0.length+3) I 0 (L.length+1) (L.length+1) 1/\S1[S0.length+3]?=some (.cells I true ((L++[i]).map nI))/\bL [] S0 S1/\S1[S0.length]?=some (.cells 0 false (cF p.n fun _=>bI false))/\Dg S1 (S0.length+2) (S0.length+1) p.n s/\S.length<=S1.length:=by
    rcases hB.lst with⟨rfl,rfl,H⟩|⟨h0,v,rfl,hS⟩
    .have E:=uN (mu:=true) (bytes:=8) (el:=3) (S:=S) (f:=fun _=>nI i) (x:=.iv (.sl .full [[.int .i64 (i:Int)]])) rfl rfl rfl (bR A_) (.inl rfl);rw[H]at E;have C:∀j b,S[j]?=some b->(S++[aG.cells 0 true (cF 1 fun _=>nI i)])[j]?=some b:=fun j b hb=>by rw[Y_ (aN hb)];exact hb
     refine⟨_,_,_,E,rfl,?_,bDu hB.keep _,C _ _ hB.gone,⟨C _ _ hB.deg.box,C _ _ hB.deg.row⟩,by simp⟩;rw[<-H];simp[cF]
    .have E:=aXk i hS A_;refine⟨_,_,_,E,rfl,aM (aN hS) _,uR hB.keep A_ _,by rw[aB A_];exact hB.gone,⟨by rw[aB A_];exact hB.deg.box,by rw[aB A_];exact hB.deg.row⟩,by simp⟩
   have G:∀j,mX j lv=lv:=by intro j;rcases hB.lst with⟨_,rfl,_⟩|⟨_,v,rfl,_⟩<;>rfl
   subst Q;have u:=q.keep P;have b3:=u.blk;have b4:=u.near;have b5:=w.box;have b6:=w.row;have i2:=fS (j:=a.jn) (v:=a.vn) d;have s2:=dS (fun r=>TV.map (a.nm r)) d;have i3:=fS (j:=S0.length+1) (v:=0) d;have V:=lC (fun r=>vI (s r)) (vI (deg p.n (p.near i):Nat)) d;obtain⟨l',c',h4,W,U⟩:=u.nmap i d;have t:=aMg h4;rw[sQ W U]at t;have h1:Lf S0 (S1.set (S0.length+1) (.cells 0 false (cF p.n fun r=>vI (upd s i (deg p.n (p.near i):Nat) r)))) p.n (L++[i]) (upd s i (deg p.n (p.near i):Nat)) (.msl (S0.length+3) I 0 (L.length+1) (L.length+1) 1) :=
    ⟨uR P A_ _,by rw[aB A_];exact T,⟨by rw[aB A_];exact w.box,aM A_ _⟩,.inr ⟨by simp,I,by simp,by rw[aB A_];exact h2⟩⟩
   obtain⟨h,o,S',g,m,y,D⟩:=aJy q N R x2 x7 x8 x9 x12 x13 x14 x15 x16 k (i+1) (L++[i]) _ _ _ e_ e_ A_ h1 (by simp;omega);rw[show((i+1:Nat):Int)=(i:Int)+1 by omega]at y;refine⟨h,o,S',g,m,aE K _ _ t70L2.eq_1 ?_,by rw[Z];simpa using D⟩;.rw[e]at J;rw[nW vI]at V;simp only[dQ]at b3;simp only[vI]at b6 V y;simp(disch:=omega)only[go_sem,z,b2,i1,J,G,E,b3,b4,b5,b6,i2,s2,i3,V,t,aC];exact X_ er y
  .have Z:dI p i=dI p (i+1):=by unfold dI;rw[F,E4,I_ (by simpa using e)]
   obtain⟨h,o,S',g,m,y,D⟩:=aJy q N R x2 x7 x8 x9 x12 x13 x14 x15 x16 k (i+1) L s lv S e_ z_ A_ hB A_;rw[show((i+1:Nat):Int)=(i:Int)+1 by omega]at y;refine⟨h,o,S',g,m,aE K _ _ t70L2.eq_1 ?_,by rw[Z];exact D⟩;have e':¬((p.to i:Int)=(i:Int)):=A_;rcases hB.lst with⟨_,rfl,_⟩|⟨_,v,rfl,_⟩;.simp(disch:=omega)only[go_sem,z,b2,i1,J,e',aC];exact X_ er y
   .simp(disch:=omega)only[go_sem,z,b2,i1,J,e',aC];exact X_ er y
structure Odr (S0 S:aA) (n:Nat) (L:List Nat) (J:List TV) (v:Nat) (out:List Nat) (jo:Nat) (dg:Nat->Int):Prop where
 keep:bL [] S0 S
 gone:S[S0.length]?=some (.cells 0 false (cF n fun r=>bI (decide (r∈out))))
 deg:Dg S (S0.length+2) (S0.length+1) n dg
 lst:S[S0.length+3]?=some (.cells v true (L.map nI++J))
 tok:At 1 3 (cR out) jo S
 jo:out≠[]->S0.length+4<=jo
def e21(a:Ad)(s0 n:Nat)(x1 xo lv x6 x7 x8 x9 x10 x11 x12 x13 x14 x15 x16:TV):List TV:=[.ptr a.ip 106 0,x1,xo,.msl s0 0 0 n n 1,.ptr (s0+2) 27 0,lv,x6,x7,x8,x9,x10,x11,x12,x13,x14,x15,x16]
theorem Odr.it{S0 S:aA}{n:Nat}{L:Tc_}{J:Tn_}{v:Nat}{out:Tc_}{jo:Nat}{d:Tg_}(h:Odr S0 S n L J v out jo d){bi:Nat}{m:Option Nat}{x:Nat}{y:Tc_}{z:Nat}(a:S[bi]?=some (.mit m x y z))(c:S0.length<=bi)(f:aG):Odr S0 (S.set bi f) n L J v out jo d :=
 ⟨uR h.keep c _,by rw[aB (bN a h.gone B_)];exact h.gone,⟨by rw[aB (bN a h.deg.box B_)];exact h.deg.box,by rw[aB (bN a h.deg.row B_)];exact h.deg.row⟩,by rw[aB (bN a h.lst B_)];exact h.lst,fun e=>by rw[aB (bN a (h.tok e) B_)];exact h.tok e,h.jo⟩
theorem Odr.setD{S0 S:aA}{n:Nat}{L:Tc_}{J:Tn_}{v:Nat}{out:Tc_}{jo:Nat}{a:Tg_}(h:Odr S0 S n L J v out jo a)(t:Nat)(w:Int):Odr S0 (S.set (S0.length+1) (.cells 0 false (cF n fun r=>vI (upd a t w r)))) n L J v out jo (upd a t w):=by have c:=aN h.deg.row;refine⟨uR h.keep A_ _,by rw[aB A_];exact h.gone,⟨by rw[aB A_];exact h.deg.box,aM c _⟩,by rw[aB A_];exact h.lst,fun b=>?_,h.jo⟩;have:=h.jo (fun e=>b (by rw[e];rfl));rw[aB A_];exact h.tok b
theorem aJz{S0:aA}{a:Ad}{p:Pn}(w:PT S0 a p)(u:p.n<=1000000){r:Nat}(V:r<p.n){bi c:Nat}(i:S0.length<=bi){l:Td_}(A:gE l c)(R:∀t:Int,cG l t=true↔∃s:Nat,t=s/\s<p.n/\p.near r s=true){L:Tc_}{J:Tn_}{v:Nat}{out:Tc_}{jo:Nat}(x y lv x6 x7 x8 x10 x11 x12 x13:TV): ∀(k:Nat) (b:Tc_) (d:Tg_) (S:aA) (x9 x15 x16:TV),left l b<k->Odr S0 S p.n L J v out jo d->S[bi]?=some (.mit (some (a.nm r)) c b c)->S[a.nm r]?=some (.mp (mpR vI l) c) ->(lp' (lim K) t70L0 (e21 a S0.length p.n x y lv x6 x7 x8 x9 x10 x11 x12 x13 (.it bi) x15 x16) S).All fun q=>∃P y9 N F,q.1=.exit 4/\q.2.1=e21 a S0.length p.n x y lv x6 x7 x8 y9 x10 x11 x12 x13 (.it bi) N F/\Odr S0 q.2.2 p.n L J v out jo P
 |0,b,d,S,x9,x15,x16,hk,hO,hb,hm=>A_
 |k+1,b,d,S,x9,x15,x16,hk,hO,hb,hm=>by
  unfold e21;refine fE t70L0.eq_1 ?_;simp(disch:=omega)only[go_sem];refine jD hb hm A.born (O_ _) (fun U=>?_) (fun z I hs=>?_);.simp(disch:=omega)only[go_sem];exact bE ⟨d,_,_,_,rfl,rfl,hO⟩
  .have h1:=vE I hs;have C:bi≠a.nm r:=bN hb hm B_;have f:=hO.it hb i (.mit (some (a.nm r)) c (b++[z.1]) c);have h:(S.set bi (.mit (some (a.nm r)) c (b++[z.1]) c))[bi]?=_:=aM (aN hb) _;have g:(S.set bi (.mit (some (a.nm r)) c (b++[z.1]) c))[a.nm r]?=some (.mp (mpR vI l) c):=by rw[aB C];exact hm
   have E:=aAl h g I A.once;generalize S.set bi (.mit (some (a.nm r)) c (b++[z.1]) c)=S1 at *
   obtain⟨t,Y,e,h0⟩:=wE R I;have H:=f.gone;have Z:=fS (j:=S0.length) (v:=0) e;have o:=dS (fun r=>bI (decide (r∈out))) e;simp only[bI]at H o;rw[Y]at E;rw[Y];by_cases hout:t∈out;.rw[V_ hout]at o;have m:=aJz w u V i A R x y lv x6 x7 x8 x10 x11 x12 x13 k (b++[z.1]) d S1 (j_ t) e_ z_ A_ f h g;unfold e21 at m;simp(disch:=omega)only[go_sem,E,H,Z,o];exact cQ m
   .rw[l_ hout]at o;have b2:=f.deg.box;have b3:=f.deg.row;have i2:=fS (j:=S0.length+1) (v:=0) e;have W:=dS (fun r=>vI (d r)) e;have G:=lC (fun r=>vI (d r)) (vI (IntKind.i64.wrap (d t-1))) e;have Q:=f.setD t (IntKind.i64.wrap (d t-1));rw[nW vI]at G;have D:(S1.set (S0.length+1) (.cells 0 false (cF p.n fun r=>vI (upd d t (IntKind.i64.wrap (d t-1)) r))))[a.nm r]?=some (.mp (mpR vI l) c):=by rw[aB (bN b3 g B_)];exact g
    have T:(S1.set (S0.length+1) (.cells 0 false (cF p.n fun r=>vI (upd d t (IntKind.i64.wrap (d t-1)) r))))[bi]?=some (.mit (some (a.nm r)) c (b++[z.1]) c):=by rw[aB (bN b3 h B_)];exact h
    have m:=aJz w u V i A R x y lv x6 x7 x8 x10 x11 x12 x13 k (b++[z.1]) _ _ (j_ t) e_ e_ A_ Q T D;unfold e21 at m;simp only[vI]at b3 W G m;simp(disch:=omega)only[go_sem,E,H,Z,o,b2,b3,i2,W,G];exact cQ m
structure OF (p:Pn) (L out:List Nat) (dg:Nat->Int):Prop where
 ndL:L.Nodup
 ndO:out.Nodup
 dis:∀t,t∈L->t∉out
 all:∀t,(t∈L\/t∈out)↔32<=t/\t<p.n/\p.to t=t
theorem OF.step{p:Pn}{ρ d:Th_}(E:Inv p ρ d)(s:p.n<=1000000){L out:Tc_}{o i:Tg_}(h:OF p L out o){q:Nat}(m:q<L.length):OF p (L.eraseIdx q) (out++[L.getD q default]) i:=by
 have j:=pV m;have f:=h.dis _ j;obtain⟨A,u,D⟩:=(h.all _).1 (.inl j);have c:L.getD q default=L[q]:=by simp[List.getD,D_ m]
 have l:L.take q++L[q]::L.drop (q+1)=L:=by rw[List.getElem_cons_drop,F9]
 have b:∀t,t∈L.eraseIdx q↔t∈L/\t≠L.getD q default:=by
  intro t;have nd:=h.ndL;rw[c,Q1,a_];rw[<-l,H9,C8]at nd;obtain⟨_,⟨z,_⟩,w⟩:=nd;have g:t∈L↔t∈L.take q\/t=L[q]\/t∈L.drop (q+1):=by rw[<-J_,<-a_,l]
  rw[g];constructor
  .rintro(a|a);.exact⟨.inl a,fun e=>w t a L[q] N5 e⟩
   .exact⟨.inr (.inr a),fun e=>z (by rw[<-e];exact a)⟩
  .rintro⟨a|a|a,C⟩;.exact .inl a
   .exact absurd a C
   .exact .inr a
 generalize L.getD q default=r at *
 refine⟨h.ndL.eraseIdx q,?_,fun t g=>?_,fun t=>?_⟩;.rw[H9];exact⟨h.ndO,by simp,fun x v y k e=>f (by simp at k;rw[<-k,<-e];exact v)⟩
 .have:=(b t).1 g;simp only[a_,U_,H1];exact⟨h.dis t this.1,this.2⟩
 .rw[<-h.all t,b t];simp only[a_,U_];constructor
  .rintro(a|a|a);.exact .inl a.1
   .exact .inr a
   .rw[a];exact .inl j
  .rintro(a|a)
   .by_cases e:t=r;.exact .inr (.inr e)
    .exact .inl ⟨a,e⟩
   .exact .inr (.inl a)
theorem bDv{S0:aA}{a:Ad}{p:Pn}{ρ d:Th_}(N:PT S0 a p)(hI:Inv p ρ d)(G:p.n<=1000000)(x1 x6:TV):
  ∀(k:Nat) (L:Tc_) (J:Tn_) (v:Nat) (out:Tc_) (jo:Nat) (s:Tg_) (S:aA) (x7 x8 x9 x10 x11 x12 x13 x14 x15 x16:TV),L.length=k->Odr S0 S p.n L J v out jo s->OF p L out s->L.length+out.length<=1000000 ->
  (lp' (lim K) t70L1 (e21 a S0.length p.n x1 (acc jo (cR out)) (.msl (S0.length+3) v 0 L.length (L.length+J.length) 1) x6 x7 x8 x9 x10 x11 x12 x13 x14 x15 x16) S).All fun q=>∃u h5 f y5 y7 y8 y9 hd he h6 H C,q.1=.exit 2 /\
   q.2.1=e21 a S0.length p.n x1 (acc h5 (cR u)) y5 x6 y7 y8 y9 x10 x11 hd he h6 H C/\bL [] S0 q.2.2/\OF p [] u f
 |0,L,J,v,out,jo,s,S,x7,x8,x9,x10,x11,x12,x13,x14,x15,x16,hk,hO,hF,hlen=>by
  obtain rfl:L=[]:=Z_ hk
  unfold e21
  refine fE t70L1.eq_1 ?_
  simp(disch:=omega)only[go_sem,List.length_nil]
  exact bE ⟨out,jo,s,_,_,_,_,_,_,_,_,_,rfl,rfl,hO.keep,hF⟩
 |k+1,L,J,v,out,jo,s,S,x7,x8,x9,x10,x11,x12,x13,x14,x15,x16,hk,hO,hF,hlen=>by
  have y:=hO.lst
  have T:∀x∈L,x<p.n:=fun x hx=>((hF.all x).1 (.inl hx)).2.1
  obtain⟨w,Z,hw⟩:=bLg hO.deg y T A_ (L.length+J.length)
  obtain⟨q,z,ha⟩:∃q,q<L.length/\(w=q\/w = -1/\∃m:Nat,(lim K).call 94 [.msl (S0.length+3) v 0 L.length (L.length+J.length) 1,.fn 95 [] [.ptr (S0.length+2) 27 0]] S=.ret (j_ m,S)/\Pure K 74 [.iv (.sl .no (cR L)),j_ m] (j_ q)):=by
   rcases hw with⟨rfl,hw⟩|⟨q,rfl,h1,h2⟩
   .obtain⟨m,F,hm⟩:=bRk hO.deg y T A_ A_ (L.length+J.length)
    obtain⟨q,A,z⟩:=bRl (t:=.no) (L:=L) A_ hm
    exact⟨q,z,.inr ⟨rfl,m,F,A⟩⟩
   .exact⟨q,h1,.inl rfl⟩
  have hm:=pV z
  obtain⟨hh,o,hl⟩:=(hF.all _).1 (.inl hm)
  have hg:=hF.dis _ hm
  have i1:=bLf (jl:=S0.length+3) (v:=v) (cap:=L.length+J.length) z
  have s1:=aJx (J:=J) z
  obtain⟨J',E,hj⟩:=bRn y A_ z
  have h8:=bLh y (L.length+J.length)
  have h9:=fun f=>@OF.step p ρ d hI G L out s f hF q z
  have hf:(L.eraseIdx q).length=L.length-1:=by rw[Q9,K_ z]
  generalize hr:L.getD q default=r at *
  -- the row without it
  have g0:=aN y
  have a1:(S.set (S0.length+3) (.cells v true ((L.eraseIdx q).map nI++J')))[S0.length]?=some (.cells 0 false (cF p.n fun r=>bI (decide (r∈out)))):=by rw[aB A_];exact hO.gone
  have i2:=fS (j:=S0.length) (v:=0) o
  have V:=lC (fun r=>bI (decide (r∈out))) (bI true) o
  rw[nW bI]at V
  have h7:(fun t=>bI (upd (fun t=>decide (t∈out)) r true t))=fun t=>bI (decide (t∈out++[r])):=by
   funext t
   by_cases e:t=r
   .subst e;simp[bU]
   .rw[dB _ _ e];simp[e]
  rw[h7]at V
  have h4:bL [] S0 ((S.set (S0.length+3) (.cells v true ((L.eraseIdx q).map nI++J'))).set S0.length (.cells 0 false (cF p.n fun t=>bI (decide (t∈out++[r]))))):=uR (uR hO.keep A_ _) (O_ _) _
  have a2:((S.set (S0.length+3) (.cells v true ((L.eraseIdx q).map nI++J'))).set S0.length (.cells 0 false (cF p.n fun t=>bI (decide (t∈out++[r])))))[S0.length+3]?=some (.cells v true ((L.eraseIdx q).map nI++J')):=by rw[aB A_,aM g0]
  have a3:((S.set (S0.length+3) (.cells v true ((L.eraseIdx q).map nI++J'))).set S0.length (.cells 0 false (cF p.n fun t=>bI (decide (t∈out++[r])))))[S0.length]?=some (.cells 0 false (cF p.n fun t=>bI (decide (t∈out++[r])))):=aM (by rw[F6];exact aN hO.gone) _
  have a4:Dg ((S.set (S0.length+3) (.cells v true ((L.eraseIdx q).map nI++J'))).set S0.length (.cells 0 false (cF p.n fun t=>bI (decide (t∈out++[r]))))) (S0.length+2) (S0.length+1) p.n s:=⟨by rw[aB A_,aB A_];exact hO.deg.box,by rw[aB A_,aB A_];exact hO.deg.row⟩
  have a5:At 1 3 (cR out) jo ((S.set (S0.length+3) (.cells v true ((L.eraseIdx q).map nI++J'))).set S0.length (.cells 0 false (cF p.n fun t=>bI (decide (t∈out++[r]))))):=fun ho=>by
   have:=hO.jo (fun e=>ho (by rw[e];rfl))
   rw[aB A_,aB A_];exact hO.tok ho
  have a6:((S.set (S0.length+3) (.cells v true ((L.eraseIdx q).map nI++J'))).set S0.length (.cells 0 false (cF p.n fun t=>bI (decide (t∈out++[r]))))).length=S.length:=B_
  generalize hS2:(S.set (S0.length+3) (.cells v true ((L.eraseIdx q).map nI++J'))).set S0.length (.cells 0 false (cF p.n fun t=>bI (decide (t∈out++[r]))))=S2 at *
  have e1:=bPr (b:=8) (c:=[.int .i64 (r:Int)]) (t:=.full) a5 ⟨rfl,rfl⟩ (aU0 out) (bR (by rw[iT];omega))
  have gk:=aUy 1 3 (cR out) jo S2
  have gt:=bPq a5 [.int .i64 (r:Int)]
  have gj:S0.length+4<=gI (cR out) jo S2:=by
   unfold gI
   split
   .omega
   .rename_i h0;exact hO.jo (fun e=>h0 (by rw[e];rfl))
  rw[aDo]at e1 gt
  have ht:∀i b,S2[i]?=some b->(∀n w e,b≠aG.tok n w e)->(gSc 1 3 (cR out) jo S2)[i]?=some b:=fun i b W hn=>gk.get i b (fun P=>by
   obtain⟨n,w,e,h1⟩:=aUz a5 i P
   rw[W]at h1;exact hn n w e (D6 h1)) W
  have g:Odr S0 (gSc 1 3 (cR out) jo S2) p.n (L.eraseIdx q) J' v (out++[r]) (gI (cR out) jo S2) s :=
   ⟨⟨by have:=h4.len;have:=gk.len;omega,fun i b _ W=>gk.get i b (fun P=>by
    unfold aBx at P
    split at P
    .cases P
    .rename_i h0
     simp at P
     have:=hO.jo (fun e=>h0 (by rw[e];rfl))
     have:=aN W
     omega) (h4.get i b B_ W)⟩,ht _ _ a3 B_,⟨ht _ _ a4.box B_,ht _ _ a4.row B_⟩,ht _ _ a2 B_,gt,fun _=>gj⟩
  generalize hS3:gSc 1 3 (cR out) jo S2=S3 at *
  generalize hj3:gI (cR out) jo S2=jo3 at *
  have D:=N.keep g.keep
  have b1:=D.blk
  have b2:=D.near
  have i3:=fS (j:=a.jn) (v:=a.vn) o
  have s3:=dS (fun r=>TV.map (a.nm r)) o
  simp only[dQ]at b1
  obtain⟨l,c,m1,m2,m3⟩:=D.nmap r o
  have rg:=kE m1
  have I:=bL.app [] S3 [aG.mit (some (a.nm r)) c [] c]
  have hc:Odr S0 (S3++[aG.mit (some (a.nm r)) c [] c]) p.n (L.eraseIdx q) J' v (out++[r]) jo3 s :=
   ⟨g.keep.trans I,I.get _ _ B_ g.gone,⟨I.get _ _ B_ g.deg.box,I.get _ _ B_ g.deg.row⟩,I.get _ _ B_ g.lst,fun ho=>I.get _ _ B_ (g.tok ho),g.jo⟩
  have l1:=fun x13=>aJz N G o (bi:=S3.length) (by have:=g.keep.len;omega) m2 m3 x1 (acc jo3 (cR (out++[r]))) (.msl (S0.length+3) v 0 (L.length-1) (L.length+J.length) 1) x6 (j_ q) (j_ r) x10 x11 e_ x13 (left l []+1) [] s _ x9 x15 x16 A_ hc (cN _ _) (I.get _ _ B_ m1)
  have fin:=fun f=>h9 f
  have U:=fun f S' x7 x8 x9 x12 x13 x14 x15 x16=>bDv N hI G x1 x6 k (L.eraseIdx q) J' v (out++[r]) jo3 f S' x7 x8 x9 x10 x11 x12 x13 x14 x15 x16 A_
  rw[hf]at U
  rw[show L.length-1+J'.length=L.length+J.length by omega]at U
  rw[show((q+1:Nat):Int)=(q:Int)+1 by omega]at E
  simp only[nI]at y s1
  simp only[bI]at a1 V hS2
  unfold e21 at l1 U |-
  refine fE t70L1.eq_1 ?_
  rcases ha with rfl|⟨rfl,m,F,A⟩
  .simp(disch:=omega)only[go_sem,Z,i1,y,s1,E,a1,i2,V,hS2,e1,b1,b2,i3,s3,rg,aC]
   refine mQ (l1 _) ?_
   rintro j e S' ⟨f,y9,H,C,Q,Y,R⟩
   dsimp only at Q Y R
   subst Q Y
   simp(disch:=omega)only[go_sem]
   refine cQ (Out.all_mono ?_ (U f S' _ _ _ _ _ _ _ _ R (fin f) (by rw[H_,List.length_singleton];omega)))
   exact fun _ h=>h
  .simp(disch:=omega)only[go_sem,Z,F,h8,aD A,i1,y,s1,E,a1,i2,V,hS2,e1,b1,b2,i3,s3,rg,aC]
   refine mQ (l1 _) ?_
   rintro j e S' ⟨f,y9,H,C,Q,Y,R⟩
   dsimp only at Q Y R
   subst Q Y
   simp(disch:=omega)only[go_sem]
   refine cQ (Out.all_mono ?_ (U f S' _ _ _ _ _ _ _ _ R (fin f) (by rw[H_,List.length_singleton];omega)))
   exact fun _ h=>h
structure bLk (p:Pn) (out:List Nat):Prop where
 nd:out.Nodup
 all:∀t,t∈out↔32<=t/\t<p.n/\p.to t=t
theorem aMl(p:Pn)(i:Nat):(dI p i).Nodup:=(Q3.sublist (V6 _ _)).filter _
theorem aXl{p:Pn}{i t:Nat}:t∈dI p i↔i<=t/\t<p.n/\p.to t=t:=by
 unfold dI;rw[D1,U9];simp only[F8,P0,q_];constructor;.rintro⟨⟨q,c,rfl⟩,h⟩;exact⟨by omega,by omega,h⟩
 .rintro⟨a,b,h3⟩;exact⟨⟨t-i,by omega,by omega⟩,h3⟩
theorem bRo{S0:aA}{a:Ad}{p:Pn}{ρ d:Th_}(f:PT S0 a p)(P:Inv p ρ d)(Q:p.n<=500000)(V:32<=p.n): ((lim K).call 70 [.ptr a.ip 106 0] S0).All fun r=>∃out jo,r.1=acc jo (cR out)/\bL [] S0 r.2/\bLk p out:=by
 have L:=f.blk;have Y:=bL.app [] S0 [aG.cells 0 false (cF p.n fun _=>bI false)];have b2:=(f.keep Y).blk;have o:=fun m=>aU2 (z:=.bool false) (m:=m) (bR (n:=p.n) (b:=1) A_);have w:=fun m=>aU2 (z:=.int .i64 0) (m:=m) (bR (n:=p.n) (b:=8) A_);have u:∀A:aG,(S0++[A]).length=S0.length+1:=fun A=>B_;have g:∀A B:aG,(S0++[A]++[B]).length=S0.length+2:=fun A B=>B_;have y:∀A B C:aG,(S0++[A]++[B]++[C])[S0.length+2]?=some C:=fun A B C=>by have:=cN (S0++[A]++[B]) C;rwa [g]at this
 have R:∀A B C D:aG,(S0++[A]++[B]++[C]).set (S0.length+2) D=S0++[A]++[B]++[D]:=fun A B C D=>by rw[<-g A B];simp
 have N:Lf S0 (S0++[.cells 0 false (cF p.n fun _=>bI false)]++[.cells 0 false (cF p.n fun _=>vI 0)]++[.cells 27 false [.msl (S0.length+1) 0 0 p.n p.n 1]]) p.n [] (fun _=>0) k_ :=
  ⟨((bL.app [] S0 _).trans (bL.app [] _ _)).trans (bL.app [] _ _),by simp,⟨y _ _ _,by simp⟩,.inl ⟨rfl,rfl,by simp⟩⟩
 obtain⟨i,k,S1,lv,l,s,c⟩:=aJy f A_ k_ k_ u_ u_ u_ u_ u_ u_ u_ u_ (p.n-32) 32 [] (fun _=>0) _ _ u_ u_ A_ N B_;rw[show((32:Nat):Int)=32 from rfl]at s;rw[List.nil_append]at c;simp only[vI,bI]at s;have q:OF p (dI p 32) [] l:=⟨aMl _ _,Y5,fun t _=>B_,fun t=>by simp[aXl]⟩
 refine dJ K _ (fn:=t70) rfl rfl ?_;simp only[dQ]at L b2;simp only[bI]at b2;simp(disch:=omega)only[t70,go_sem,L,o,b2,w,u,g,y,R];rw[s];rcases c.lst with⟨I,rfl,_⟩|⟨I,v,rfl,W⟩
 .rw[I]at q;simp(disch:=omega)only[go_sem];have l2:lp' (lim K) t70L1 [.ptr a.ip 106 0,k_,k_,.msl S0.length 0 0 p.n p.n 1,.ptr (S0.length+2) 27 0,k_,j_ p.n,u_,u_,u_,i,k,u_,u_,u_,u_,u_] S1=.ret (.exit 2,[.ptr a.ip 106 0,k_,k_,.msl S0.length 0 0 p.n p.n 1,.ptr (S0.length+2) 27 0,k_,j_ p.n,u_,u_,u_,i,k,z_,u_,u_,u_,u_],S1):=by refine aE K _ _ t70L1.eq_1 ?_;simp(disch:=omega)only[go_sem]
  rw[l2];simp(disch:=omega)only[go_sem];exact bE ⟨[],0,rfl,c.keep,⟨Y5,fun t=>by rw[<-q.all t];simp⟩⟩
 .have hO:Odr S0 S1 p.n (dI p 32) [] v [] 0 l:=⟨c.keep,by simpa using c.gone,c.deg,by simpa using W,At.nil,fun h=>absurd rfl h⟩
  have F:(dI p 32).length<=p.n:=by unfold dI;have h1:=D8 (fun r=>decide (p.to r=r)) ((List.range p.n).drop 32);simp at h1;omega
  have l2:=bDv f P A_ k_ (j_ p.n) (dI p 32).length (dI p 32) [] v [] 0 l S1 u_ u_ u_ i k u_ u_ u_ u_ u_ rfl hO q (by simp;omega);unfold e21 at l2;rw[show acc 0 (cR [])=k_ from rfl,List.length_nil,Nat.add_zero]at l2;simp(disch:=omega)only[go_sem];refine dN l2 ?_;rintro j e S2 ⟨out,jo,U,y5,y7,y8,y9,h4,h5,h2,T,Z,G,E,H,J⟩;dsimp only at G E H;subst G E;have x:∀j,mX j (acc jo (cR out))=acc jo (cR out):=fun j=>qH _ _ _;simp(disch:=omega)only[go_sem,x];exact bE ⟨out,jo,rfl,H,⟨J.ndO,fun t=>by rw[<-J.all t];simp⟩⟩
theorem go_exec_all{K:bD}{O:Orc}{c:aL}{env:Env}{S:aA}{P:aW×Env×aA->Prop}(h:(go' K O c [] env S).All P):(eV K O c env S).All P:=by
 unfold go' at h;simp only[go]at h;have a:=aKw h;have e:∀X:Out (aW×Env×aA),(X.bind fun r=>back K O [] r.1 r.2.1 r.2.2).All P->X.All P:=by
  intro X;induction X with
  |ret r=>exact id
  |fail s=>exact id
  |pick n k ih=>exact fun h i b=>ih i (h i b)
 exact e _ a
theorem bLl{K:bD}{i:Nat}{args:Tn_}{S S1:aA}{st:LoopState}{p p2:Option aW}{env env1 env2 e2:Env}{ps ps2:Tc_}{a b a2 b2:aL}{R:aA->Prop} (h:S[i]?=some (.lp st p env ps a b)) (k:qW env ps args=some env1) (m:go' K (lim K) a [] env1 S=.ret (.normal,env2,S1)) (l:S1[i]?=some (.lp .ready p2 e2 ps2 a2 b2)) (h3:(go' K (lim K) b [] env2 (S1.set i (.lp .busy p2 e2 ps2 a2 b2))).All fun r=>r.1=.normal/\∃st3 p3 e3 ps3 a3 b3,r.2.2[i]?=some (.lp st3 p3 e3 ps3 a3 b3)/\R (r.2.2.set i (.lp .ready none e3 ps3 a3 b3))): ((lim K).yld i args S).All fun r=>r.1=e_/\R r.2:=by refine aNq ?_;have g:=go_exec m;have e3:=go_exec_all h3;simp only[iA,h,k,g,Out.bind,l];refine aPb e3 ?_;rintro⟨j,e,S2⟩ ⟨d,st3,p3,e3,ps3,a3,b3,f,c⟩;dsimp only at d f c;subst d;simp only[f];exact⟨rfl,c⟩
theorem aMm{K:bD}{O:Orc}{i:Nat}{k:Kt}{M:To_}{n:Nat}{a:List Fr}{env:Env}{S:aA}{P:TV×aA->Prop}{R:aW×Env×aA->Prop}{X:Out (TV×aA)}(b:X.All P)(h:∀v S',P (v,S')->Out.All R (fL K O (.ret (v,S')) i k M n a env)):Out.All R (fL K O (aFf false S X) i k M n a env) :=
 bPa (P:=P) (aCv b fun v S' c=>by rw[aFi];exact c) h
inductive wG (p:Pn) (ρ:Nat->Nat):List Nat->(Nat->Int)->(Nat->Int)->Prop
 |nil (o:Nat->Int):wG p ρ [] o o
 |cons {r:Nat} {l:List Nat} {o o1 o':Nat->Int} (h:qR {p with out:=o} (bH p ρ r 32) o1) (g:wG p ρ l o1 o'):wG p ρ (r::l) o o'
def rfA:aL:=.region [⟨.mov (.loc 16),(some 6),none⟩]
def rfC:aL:=.block 5 (.draw [0,1,2] [(3,[0],[]),(4,[],[])] [⟨.load1 (.loc 3),none,none⟩,⟨.load1 (.loc 3),none,none⟩,⟨.mov (.loc 6),none,none⟩,⟨.call false false 68 [(.reg 1),(.reg 2)],none,none⟩,⟨.call false false 71 [(.reg 0),(.reg 3)],none,none⟩])
def e9(jp:Nat)(x0 x1 x2 x4 x5 x6 x7 x8 x9 x10 x11 x12 x13 x14 x15 x16:TV):List TV:=[x0,x1,x2,.ptr jp 102 0,x4,x5,x6,x7,x8,x9,x10,x11,x12,x13,x14,x15,x16]
theorem PT.busy{S:aA}{a:Ad}{p:Pn}(h:PT S a p){i:Nat}{st:LoopState}{q:Option aW}{e:Env}{ps:Tc_}{c b:aL}(d:S[i]?=some (.lp st q e ps c b))(f:aG):PT (S.set i f) a p :=
 h.setO d (by simp only[Ad.own,J_,D5,I4,H1];exact⟨bN d h.blk B_,bN d h.near B_,bN d h.own B_,bN d h.to B_,bN d h.out B_⟩) B_
theorem sS{p:Pn}{ρ:Th_}{r i m:Nat}:m∈bH p ρ r i↔i<=m/\m<p.n/\ρ m=r:=by
 unfold bH;rw[D1,U9];simp only[F8,P0,q_];constructor;.rintro⟨⟨q,c,rfl⟩,h⟩;exact⟨by omega,by omega,h⟩
 .rintro⟨a,b,h3⟩;exact⟨⟨m-i,by omega,by omega⟩,h3⟩
theorem aU9(p:Pn)(ρ:Th_)(r i:Nat):(bH p ρ r i).length<=p.n:=by unfold bH;have a:=D8 (fun m=>decide (ρ m=r)) ((List.range p.n).drop i);simp at a;omega
theorem bUd{S:aA}{a:Ad}{p:Pn}{ρ d:Th_}{o:Tg_}(hP:PT S a {p with out:=o})(U:Uf p ρ d)(h0:p.n<=500000)(G:32<=p.n){s jp jb:Nat}{B:aG}(x0 x2 x4 x5 x6 x7 x8 x9 x10 x11 x12 x13 x14 x15 x16:TV) (x:S[s]?=some (.lp .ready none (e9 jp x0 .hole x2 x4 x5 x6 x7 x8 x9 x10 x11 x12 x13 x14 x15 x16) [15,16] rfA rfC)) (W:S[jp]?=some (.cells 102 false [.ptr a.ip 106 0])) (P:jp∉a.own) (Y:S[jb]?=some B) (N:jb∉a.own) (D:∀es c,B≠.mp es c) (A:jb≠s) (i r:Nat): ((lim K).yld s [j_ i,j_ r] S).All fun q=>q.1=e_/\∃o',PT q.2 a {p with out:=o'}/\qR {p with out:=o} (bH p ρ r 32) o' /\q.2[s]?=some (.lp .ready none (e9 jp x0 .hole x2 x4 x5 x6 x7 x8 x9 x10 x11 x12 x13 x14 x15 x16) [15,16] rfA rfC)/\q.2[jp]?=some (.cells 102 false [.ptr a.ip 106 0])/\q.2[jb]?=some B:=by
 have l:=hP.busy x (.lp .busy none (e9 jp x0 .hole x2 x4 x5 x6 x7 x8 x9 x10 x11 x12 x13 x14 x15 x16) [15,16] rfA rfC);have w:s≠jp:=bN x W B_;have u:(S.set s (.lp .busy none (e9 jp x0 .hole x2 x4 x5 x6 x7 x8 x9 x10 x11 x12 x13 x14 x15 x16) [15,16] rfA rfC))[jp]?=some (.cells 102 false [.ptr a.ip 106 0]):=by rw[aB w];exact W
 have L:(S.set s (.lp .busy none (e9 jp x0 .hole x2 x4 x5 x6 x7 x8 x9 x10 x11 x12 x13 x14 x15 x16) [15,16] rfA rfC))[jb]?=some B:=by rw[aB (B0 A)];exact Y
 have z:(S.set s (.lp .busy none (e9 jp x0 .hole x2 x4 x5 x6 x7 x8 x9 x10 x11 x12 x13 x14 x15 x16) [15,16] rfA rfC))[s]?=some (.lp .busy none (e9 jp x0 .hole x2 x4 x5 x6 x7 x8 x9 x10 x11 x12 x13 x14 x15 x16) [15,16] rfA rfC):=aM (aN x) _;refine bLl (R:=fun S'=>∃o',PT S' a {p with out:=o'}/\qR {p with out:=o} (bH p ρ r 32) o'/\S'[s]?=some (.lp .ready none (e9 jp x0 .hole x2 x4 x5 x6 x7 x8 x9 x10 x11 x12 x13 x14 x15 x16) [15,16] rfA rfC)/\S'[jp]?=some (.cells 102 false [.ptr a.ip 106 0])/\S'[jb]?=some B) (st:=.ready) (p:=none) (args:=[j_ (i:Int),j_ (r:Int)]) (env:=e9 jp x0 .hole x2 x4 x5 x6 x7 x8 x9 x10 x11 x12 x13 x14 x15 x16) (env2:=e9 jp x0 .hole x2 x4 x5 (j_ r) x7 x8 x9 x10 x11 x12 x13 x14 (j_ i) (j_ r)) x (env1:=e9 jp x0 .hole x2 x4 x5 x6 x7 x8 x9 x10 x11 x12 x13 x14 (j_ i) (j_ r)) rfl ?_ x ?_;.unfold e9 rfA;simp(disch:=omega)only[go_sem]
 .generalize S.set s (.lp .busy none (e9 jp x0 .hole x2 x4 x5 x6 x7 x8 x9 x10 x11 x12 x13 x14 x15 x16) [15,16] rfA rfC)=S1 at *
  have E:Uf {p with out:=o} ρ d:=⟨U.up,U.fix⟩
  obtain⟨j,S2,H,t⟩:=bDo l E (by show p.n<=_;omega) G r;have F:=bRg (l.keep t) (vJ.acc j (bH {p with out:=o} ρ r 32)) (by have:=aU9 p ρ r 32;show(bH p ρ r 32).length<=_;omega) (fun m Z=>(sS.1 Z).2.1);have y:=t.get _ _ B_ u;have J:∀q,mX q (acc j (cR (bH {p with out:=o} ρ r 32)))=acc j (cR (bH {p with out:=o} ρ r 32)):=fun q=>qH _ _ _;have I:cA (acc j (cR (bH {p with out:=o} ρ r 32)))=false:=by unfold acc;split<;>rfl
  have key:∀r_1:aW×Env×aA,(∃o',PT r_1.2.2 a {p with out:=o'}/\KpG a S2 r_1.2.2/\qR {p with out:=o} (bH p ρ r 32) o')->r_1.1=.normal->r_1.1=aW.normal/\∃st3 p3 e3 ps3 a3 b3,r_1.2.2[s]?=some (.lp st3 p3 e3 ps3 a3 b3)/\∃o',PT (r_1.2.2.set s (.lp .ready none e3 ps3 a3 b3)) a {p with out:=o'}/\qR {p with out:=o} (bH p ρ r 32) o' /\
   (r_1.2.2.set s (.lp .ready none e3 ps3 a3 b3))[s]?=some (.lp .ready none (e9 jp x0 .hole x2 x4 x5 x6 x7 x8 x9 x10 x11 x12 x13 x14 x15 x16) [15,16] rfA rfC)/\(r_1.2.2.set s (.lp .ready none e3 ps3 a3 b3))[jp]?=some (.cells 102 false [.ptr a.ip 106 0])/\(r_1.2.2.set s (.lp .ready none e3 ps3 a3 b3))[jb]?=some B:=by
   rintro⟨j',e',S3⟩ ⟨o',C,k,h3⟩ T
   dsimp only at C k T |-
   have g:=k.get _ _ (t.get _ _ B_ z) (by have f:=t.get _ _ B_ z;have b:=l.keep t;simp only[Ad.own,J_,D5,I4,H1];exact⟨bN f b.blk B_,bN f b.near B_,bN f b.own B_,bN f b.to B_,bN f b.out B_⟩) B_
   refine⟨T,_,_,_,_,_,_,g,o',C.busy g _,h3,aM (aN g) _,?_,?_⟩
   .rw[aB w];exact k.get _ _ y P B_
   .rw[aB (B0 A)];exact k.get _ _ (t.get _ _ B_ L) N D
  refine Out.all_mono (Q:=fun q:aW×Env×aA=>(∃o',PT q.2.2 a {p with out:=o'}/\KpG a S2 q.2.2/\qR {p with out:=o} (bH p ρ r 32) o')/\q.1=.normal) (fun q h=>key q h.1 h.2) ?_;unfold e9 rfC;simp(disch:=omega)only[go_sem,u,H,y,J,I];refine aMm F ?_;rintro v S3 ⟨o',V,C,k,h3⟩;dsimp only at V C k;subst V;simp(disch:=omega)only[go_sem];exact bE ⟨⟨o',C,k,h3⟩,rfl⟩
theorem bDw{a:Ad}{p:Pn}{ρ d:Th_}(D:Uf p ρ d)(i:p.n<=500000)(f:32<=p.n){s jp jb jo:Nat}{out:Tc_}(u:out.length<=1000000)(m:jp∉a.own)(l:jb∉a.own)(t:jb≠s)(x0 x2 x4 x5 x6 x7 x8 x9 x10 x11 x12 x13 x14 x15 x16:TV): ∀(k:Nat) (o:Tg_) (S:aA) (g b:TV),k<=out.length->PT S a {p with out:=o}->S[s]?=some (.lp .ready none (e9 jp x0 .hole x2 x4 x5 x6 x7 x8 x9 x10 x11 x12 x13 x14 x15 x16) [15,16] rfA rfC)->S[jp]?=some (.cells 102 false [.ptr a.ip 106 0])->S[jb]?=some (.cells 27 false [acc jo (cR out)]) ->(lp' (lim K) t92L0 [.yld s,.ptr jb 27 0,j_ ((k:Int)-1),g,b] S).All fun q=>∃y w x o',q.1=.exit 0/\q.2.1=[.yld s,.ptr jb 27 0,y,w,x]/\PT q.2.2 a {p with out:=o'}/\wG p ρ (out.take k).reverse o o' /\q.2.2[s]?=some (.lp .ready none (e9 jp x0 .hole x2 x4 x5 x6 x7 x8 x9 x10 x11 x12 x13 x14 x15 x16) [15,16] rfA rfC)/\q.2.2[jp]?=some (.cells 102 false [.ptr a.ip 106 0])
 |0,o,S,g,b,hk,hP,hs,hp,hb=>by refine fE t92L0.eq_1 ?_;rw[show((0:Nat):Int)-1 = -1 from rfl];simp(disch:=omega)only[go_sem,P2];exact bE ⟨_,_,_,o,rfl,rfl,hP,.nil o,hs,hp⟩
 |k+1,o,S,g,b,hk,hP,hs,hp,hb=>by
  have c:k<out.length:=A_;have z:cR out≠[]:=by rw[Ne,bDn];intro e;rw[e]at c;simp at c
  have h:=hb;rw[lO _ z]at h;have V:=xL (j:=jo) c;have J:out.take (k+1)=out.take k++[out.getD k default]:=by rw[G9];simp[List.getD,D_ c]
  generalize out.getD k default=r at *
  have P:=bUd (x0:=x0) (x2:=x2) (x4:=x4) (x5:=x5) (x6:=x6) (x7:=x7) (x8:=x8) (x9:=x9) (x10:=x10) (x11:=x11) (x12:=x12) (x13:=x13) (x14:=x14) (x15:=x15) (x16:=x16) hP D i f hs hp m hb l B_ t k r;have N:=fun o' S' g b=>bDw (jo:=jo) D i f u m l t x0 x2 x4 x5 x6 x7 x8 x9 x10 x11 x12 x13 x14 x15 x16 k o' S' g b A_;have T:((k+1:Nat):Int)-1=(k:Int):=A_;rw[T];refine fE t92L0.eq_1 ?_;simp(disch:=omega)only[go_sem,P2,h,V];refine oX (cQ P) ?_;rintro v S1 ⟨F,Q,E,I,h3,A,C⟩;dsimp only at F E h3 A C;subst F;simp(disch:=omega)only[go_sem,aC];refine cQ (Out.all_mono ?_ (N Q S1 _ _ E h3 A C));rintro q ⟨y,w,x,o',R,e2,G,L,H,U⟩;refine⟨y,w,x,o',R,e2,G,?_,H,U⟩;rw[J,List.reverse_append,List.reverse_singleton,List.singleton_append];exact .cons I L
structure PI (p:Pn) (ρ:Nat->Nat) (D:List Nat) (o:Nat->Int):Prop where
 mach:∀m,m<32->o m=m
 low:∀m,32<=m->m<p.n->ρ m<32->o m=(ρ m:Nat)
 don:∀m,32<=m->m<p.n->32<=ρ m->ρ m∈D->o m = -1\/1<=o m/\o m<=24
 un:∀m,32<=m->m<p.n->32<=ρ m->ρ m∉D->o m=0
 edge:∀x y,x<p.n->y<p.n->p.own x y=true->o x=o y->o x<=0
 spill:∀m,32<=m->m<p.n->o m = -1->∀d:Nat,1<=d->d<=24->∃t,t<p.n/\p.own m t=true/\o t=d
structure Own (p:Pn):Prop where
 sym:∀r s,p.own r s=true->p.own s r=true
 irr:∀r,p.own r r=false
 vt:∀r s,p.own r s=true->vtx p.n r
theorem PI.one{p:Pn}{ρ:Th_}(F:Own p){o:Tg_}{m:Nat}(J:m<p.n)(H:o m=0){v:Int}(u:aDr {p with out:=o} [m] v) (k:∀x y,x<p.n->y<p.n->p.own x y=true->o x=o y->o x<=0) (h:∀m,32<=m->m<p.n->o m = -1->∀d:Nat,1<=d->d<=24->∃t,t<p.n/\p.own m t=true/\o t=d): (∀x y,x<p.n->y<p.n->p.own x y=true->upd o m v x=upd o m v y->upd o m v x<=0)/\(∀w,32<=w->w<p.n->upd o m v w = -1->∀d:Nat,1<=d->d<=24->∃t,t<p.n/\p.own w t=true/\upd o m v t=d)/\(v = -1\/1<=v/\v<=24):=by
 have g:∀(t:Nat) (d:Nat),1<=d->o t=d->upd o m v t=d:=fun t d L i=>by rw[dB _ _ (fun e=>by rw[e,H]at i;omega)];exact i
 rcases u with⟨rfl,u⟩|⟨d,rfl,I,G,u⟩
 .refine⟨fun x y z A a f=>?_,fun w D l c d b j=>?_,.inl rfl⟩
  .by_cases e:x=m;.rw[e,bU];decide
   .rw[dB _ _ e]at f |-;by_cases e2:y=m;.rw[e2,bU]at f;omega
    .rw[dB _ _ e2]at f;exact k x y z A a f
  .by_cases e:w=m;.subst e;obtain⟨N,s,t,i,h3,q,_⟩:=u d b j;simp at s;subst s;exact⟨t,i,h3,g t d b q⟩
   .rw[dB _ _ e]at c;obtain⟨t,i,h3,q⟩:=h w D l c d b j;exact⟨t,i,h3,g t d b q⟩
 .have r:∀t,t<p.n->p.own m t=true->o t≠d:=fun t i h3 q=>u m B_ ⟨t,i,h3,q,I,G⟩;refine⟨fun x y z A a f=>?_,fun w D l c E b j=>?_,.inr ⟨by omega,by omega⟩⟩
  .by_cases e:x=m
   .have C:y≠m:=fun e2=>by rw[e,e2,F.irr]at a;cases a
    rw[e,bU,dB _ _ C]at f;rw[e]at a;exact absurd f.symm (r y A a)
   .rw[dB _ _ e]at f |-;by_cases e2:y=m;.rw[e2,bU]at f;rw[e2]at a;exact absurd f (r x z (F.sym _ _ a))
    .rw[dB _ _ e2]at f;exact k x y z A a f
  .have e:w≠m:=fun e=>by rw[e,bU]at c;omega
   rw[dB _ _ e]at c;obtain⟨t,i,h3,q⟩:=h w D l c E b j;exact⟨t,i,h3,g t E b q⟩
theorem PI.seq{p:Pn}(s:Own p):∀ {l:Tc_} {o o':Tg_},zI p l o o'->l.Nodup->(∀m∈l,m<p.n/\o m=0) ->(∀x y,x<p.n->y<p.n->p.own x y=true->o x=o y->o x<=0)->(∀m,32<=m->m<p.n->o m = -1->∀d:Nat,1<=d->d<=24->∃t,t<p.n/\p.own m t=true/\o t=d) ->(∀x y,x<p.n->y<p.n->p.own x y=true->o' x=o' y->o' x<=0)/\(∀m,32<=m->m<p.n->o' m = -1->∀d:Nat,1<=d->d<=24->∃t,t<p.n/\p.own m t=true/\o' t=d)/\(∀m∈l,o' m = -1\/1<=o' m/\o' m<=24)/\∀m,m∉l->o' m=o m:=by
 intro l o o' h;induction h with
 |nil o=>exact fun _ _ c i=>⟨c,i,by simp,fun _ _=>rfl⟩
 |@cons m l o o' v hv g ih =>
  intro b j c i;rw[C8]at b;obtain⟨A,q⟩:=j m B_;obtain⟨u,e2,e3⟩:=PI.one (ρ:=fun x=>x) s A q hv c i;obtain⟨z,r,C,k⟩:=ih b.2 (fun w a=>⟨(j w (by simp[a])).1,by rw[dB _ _ (fun e=>b.1 (by rw[<-e];exact a))];exact(j w (by simp[a])).2⟩) u e2;refine⟨z,r,fun w a=>?_,fun w a=>?_⟩
  .rcases J_.1 a with rfl|f;.rw[k w b.1,bU];exact e3
   .exact C w f
  .simp only[J_,H1]at a;rw[k w a.2,dB _ _ a.1]
theorem aXm(p:Pn)(ρ:Th_)(r i:Nat):(bH p ρ r i).Nodup:=(Q3.sublist (V6 _ _)).filter _
theorem PI.step{p:Pn}{ρ d:Th_}(V:Inv p ρ d)(hO:Own p){l:Tc_}(hl:bLk p l){T D:Tc_}{r:Nat}(H:l=T.reverse++r::D){o G:Tg_}(h:PI p ρ D o)(hs:qR {p with out:=o} (bH p ρ r 32) G):PI p ρ (r::D) G:=by
 have L:=hl.nd;rw[H,H9,C8]at L;obtain⟨_,⟨W,_⟩,h9⟩:=L;obtain⟨E,Y,Z⟩:=(hl.all r).1 (by rw[H];simp);have h8:=V.uf.fix r Y Z;have s:∀m,m∈bH p ρ r 32↔32<=m/\m<p.n/\ρ m=r:=fun m=>sS;have h0:∀m,m∈bH p ρ r 32->o m=0:=fun m f=>by obtain⟨i,j,h3⟩:=(s m).1 f;exact h.un m i j (by rw[h3];exact E) (by rw[h3];exact W)
 rcases hs with⟨c,P,Q,I,N⟩|⟨h7,C⟩
 .have v:∀m,m∈bH p ρ r 32->G m=c:=fun m f=>by rw[N m,K_ f]
  have g:∀m,m∉bH p ρ r 32->G m=o m:=fun m f=>by rw[N m,I_ f]
  have q:∀m,m<32->m∉bH p ρ r 32:=fun m f i=>by have:=((s m).1 i).1;omega
  have F:∀t (k:Nat),1<=k->o t=k->G t=k:=fun t k hk U=>by rw[g t (fun f=>by rw[h0 t f]at U;omega)];exact U
  refine⟨fun m f=>?_,fun m i j h3=>?_,fun m i j h3 u=>?_,fun m i j h3 u=>?_,fun x y hx hy w A=>?_,fun m i j h3 k J h6=>?_⟩;.rw[g m (q m f)];exact h.mach m f
  .rw[g m (fun f=>by have:=((s m).1 f).2.2;omega)];exact h.low m i j h3
  .by_cases e:ρ m=r;.rw[v m ((s m).2 ⟨i,j,e⟩)];right;omega
   .rw[g m (fun f=>e ((s m).1 f).2.2)];exact h.don m i j h3 (by rcases J_.1 u with z|z;exact absurd z e;exact z)
  .simp only[J_,H1]at u;rw[g m (fun f=>u.1 ((s m).1 f).2.2)];exact h.un m i j h3 u.2
  .by_cases e1:x∈bH p ρ r 32
   .by_cases e2:y∈bH p ρ r 32;.have:=V.img x y hx hy w;rw[((s x).1 e1).2.2,((s y).1 e2).2.2,V.irr r]at this;cases this
    .rw[v x e1,g y e2]at A;exact absurd ⟨y,hy,w,A.symm,P,Q⟩ (I x e1)
   .by_cases e2:y∈bH p ρ r 32;.rw[g x e1,v y e2]at A;exact absurd ⟨x,hx,hO.sym _ _ w,A,P,Q⟩ (I y e2)
    .rw[g x e1]at A |-;rw[g y e2]at A;exact h.edge x y hx hy w A
  .have f:m∉bH p ρ r 32:=fun f=>by rw[v m f]at h3;omega
   rw[g m f]at h3;obtain⟨t,U,g1,g2⟩:=h.spill m i j h3 k J h6;exact⟨t,U,g1,F t k J g2⟩
 .obtain⟨f1,f2,f3,R⟩:=PI.seq hO (p:=p) (by have key:∀ {l:Tc_} {a b:Tg_},zI {p with out:=o} l a b->zI p l a b:=fun h=>h.re;exact key C) (aXm p ρ r 32) (fun m f=>⟨((s m).1 f).2.1,h0 m f⟩) h.edge h.spill;have q:∀m,m<32->m∉bH p ρ r 32:=fun m f i=>by have:=((s m).1 i).1;omega
  refine⟨fun m f=>?_,fun m i j h3=>?_,fun m i j h3 u=>?_,fun m i j h3 u=>?_,f1,f2⟩;.rw[R m (q m f)];exact h.mach m f
  .rw[R m (fun f=>by have:=((s m).1 f).2.2;omega)];exact h.low m i j h3
  .by_cases e:ρ m=r;.exact f3 m ((s m).2 ⟨i,j,e⟩)
   .rw[R m (fun f=>e ((s m).1 f).2.2)];exact h.don m i j h3 (by rcases J_.1 u with z|z;exact absurd z e;exact z)
  .simp only[J_,H1]at u;rw[R m (fun f=>u.1 ((s m).1 f).2.2)];exact h.un m i j h3 u.2
theorem PI.all{p:Pn}{ρ d:Th_}(c:Inv p ρ d)(f:Own p){l:Tc_}(i:bLk p l):∀ {T:Tc_} {o o':Tg_},wG p ρ T o o'->∀D,l=T.reverse++D->PI p ρ D o->PI p ρ l o':=by
 intro T o o' h;induction h with
 |nil o=>intro D a b;rw[a];exact b
 |@cons r T o o1 o' hs g ih =>
  intro D a b;have e:l=T.reverse++r::D:=by rw[a];simp
  exact ih (r::D) e (b.step c f i e hs)
def vK(r:Int)(p:Int×Int):Bool:=decide (p.1<1)||(decide (p.2<1)||(decide (r<=p.1)||(decide (r<=p.2)||(p.1==p.2))))
theorem aHa(env:Env)(S:aA)(p:Int×Int):bP env S (.iv (.cp (iM p))) 2=some [j_ p.1,j_ p.2]:=rfl
set_option maxHeartbeats 4000000 in
theorem bDx(r:Int)(t1:Tag)(E:Tb_)(t2:Tag)(M:Tb_)(p:Int×Int):(lim K).call 85 [.iv (.agg [.int .i64 p.1,.int .i64 p.2]),.ptr 0 69 0] [.cells 69 false (qQ r t1 E t2 M)]=.ret (.iv (.bool (vK r p)),[.cells 69 false (qQ r t1 E t2 M)]):=by
 refine aI K _ (fn:=t85) rfl rfl ?_;simp(disch:=omega)only[t85,go_sem,qQ];repeat' (first|(first|refine aLc (fun h=>?_) (fun h=>?_)|refine aLd (fun h=>?_) (fun h=>?_)|refine aLe (fun h=>?_) (fun h=>?_)|refine aSr (fun h=>?_) (fun h=>?_))|simp(disch:=omega)only[go_sem])
 all_goals (congr 4;simp[vK, *])
theorem aVa(t:Tag)(l:Tb_)(A:l.length<=1000000)(f:Nat)(cap:Tn_)(q:Int×Int->Bool)(S:aA)(b:([TV.iv (.agg [.int .i64 0,.int .i64 0])]++cap).all kM=false)(c:cap.any cA=false) (z:∀p:Int×Int,p∈l->(lim K).call f ([]++[.iv (.agg [.int .i64 p.1,.int .i64 p.2])]++cap) S=.ret (.iv (.bool (q p)),S)) (v:TV):∀(k i:Nat) (s x6 x7:TV),i+k=l.length ->∃y d j m g,0<=y/\lp' (lim K) t118L0 [.iv (.sl t (l.map iM)),.fn f [] cap,v,s,j_ l.length,j_ i,x6,x7] S=.ret (if(l.drop i).any q then(.ret,[.iv (.sl t (l.map iM)),.fn f [] cap,j_ y,d,j_ l.length,j,m,g],S)else(.exit 0,[.iv (.sl t (l.map iM)),.fn f [] cap,v,d,j_ l.length,j,m,g],S))
 |0,i,s,x6,x7,h=>by obtain rfl:i=l.length:=A_;have e:(l.drop l.length).any q=false:=B_;refine⟨0,?_,?_,?_,?_,by omega,aE K _ _ t118L0.eq_1 ?_⟩;rotate_left 4;.simp(disch:=omega)only[go_sem,e];rfl
 |k+1,i,s,x6,x7,h=>by
  have x:l.drop i=l.getD i default::l.drop (i+1):=by rw[A6 A_];simp[List.getD,D_ (show i<l.length by omega)]
  have r:=gC (w:=2) (f:=iM) (fun _=>rfl) (t:=t) (l:=l) (i:=(i:Int)) A_;rw[Int.toNat_natCast]at r;have u:=aVa t l A f cap q S b c z v k (i+1);have a:=z (l.getD i default) (by simp only[List.getD,D_ (show i<l.length by omega),Option.getD_some];exact B8 _);have n:([]++[TV.iv (.agg [.int .i64 (l.getD i default).1,.int .i64 (l.getD i default).2])]++cap).all kM=false:=by simpa[kM] using b
  have o:([]++[TV.iv (.agg [.int .i64 (l.getD i default).1,.int .i64 (l.getD i default).2])]++cap).any cA=false:=by simpa[cA] using c
  generalize l.getD i default=p at *
  cases hp:q p
  .obtain⟨y,d,j,m,g,C,u⟩:=u (j_ i) e_ z_ A_;refine⟨y,d,j,m,g,C,aE K _ _ t118L0.eq_1 ?_⟩;rw[hp]at a;have e:(l.drop i).any q=(l.drop (i+1)).any q:=by rw[x,List.any_cons,hp,G8]
   rw[e];simp only[List.nil_append,List.cons_append]at n o a;simp(disch:=omega)only[go_sem,r,aHa,aC,n,o,a];exact X_ er u
  .refine⟨i,?_,?_,?_,?_,by omega,aE K _ _ t118L0.eq_1 ?_⟩;rotate_left 4
   .rw[hp]at a;have e:(l.drop i).any q=true:=by rw[x,List.any_cons,hp,G2]
    rw[e];simp only[List.nil_append,List.cons_append]at n o a;simp(disch:=omega)only[go_sem,r,aHa,aC,n,o,a];rfl
theorem bLm(t:Tag)(l:Tb_)(c:l.length<=1000000)(f:Nat)(cap:Tn_)(q:Int×Int->Bool)(S:aA)(a:([TV.iv (.agg [.int .i64 0,.int .i64 0])]++cap).all kM=false)(b:cap.any cA=false) (g:∀p:Int×Int,p∈l->(lim K).call f ([]++[.iv (.agg [.int .i64 p.1,.int .i64 p.2])]++cap) S=.ret (.iv (.bool (q p)),S)): ∃y:Int,(0<=y↔l.any q=true)/\(lim K).call 118 [.iv (.sl t (l.map iM)),.fn f [] cap] S=.ret (j_ y,S):=by
 obtain⟨y,h,k,i,j,d,e⟩:=aVa t l c f cap q S a b g (j_ 0) l.length 0 u_ u_ u_ A_;rw[n0_,C4]at e;cases ha:l.any q
 .refine⟨-1,by simp,aI K _ (fn:=t118) rfl rfl ?_⟩;rw[ha]at e;simp only[b_,↓reduceIte]at e;simp(disch:=omega)only[t118,go_sem,L_,e]
 .refine⟨y,by simp[d],aI K _ (fn:=t118) rfl rfl ?_⟩;rw[ha]at e;simp only[↓reduceIte]at e;simp(disch:=omega)only[t118,go_sem,L_,e]
theorem bDy(t:Tag)(l:Tb_)(g:l.length<=1000000)(f:Nat)(cap:Tn_)(q:Int×Int->Bool)(S:aA)(a:([TV.iv (.agg [.int .i64 0,.int .i64 0])]++cap).all kM=false)(c:cap.any cA=false) (d:∀p:Int×Int,p∈l->(lim K).call f ([]++[.iv (.agg [.int .i64 p.1,.int .i64 p.2])]++cap) S=.ret (.iv (.bool (q p)),S)): (lim K).call 86 [.iv (.sl t (l.map iM)),.fn f [] cap] S=.ret (.iv (.bool (l.any q)),S):=by
 obtain⟨y,b,e⟩:=bLm t l g f cap q S a c d;refine aI K _ (fn:=t86) rfl rfl ?_;simp(disch:=omega)only[t86,go_sem,e];congr 4;cases ha:l.any q
 .rw[ha]at b;simp at b |-;omega
 .rw[ha]at b;simp at b |-;omega
def may(r:Int)(E M:List (Int×Int)):Bool:=decide (32<=r)&&(!(E.any (vK r))&&!(M.any (vK r)))
theorem bRp(r:Int)(t1:Tag)(E:Tb_)(t2:Tag)(M:Tb_)(d:E.length<=1000000)(c:M.length<=1000000):Pure K 65 [.iv (gv r t1 E t2 M)] (.iv (.bool (may r E M))):=by
 have a:=bDy t1 E d 85 [.ptr 0 69 0] (vK r) [.cells 69 false (qQ r t1 E t2 M)] rfl rfl (fun p _=>bDx r t1 E t2 M p);have b:=bDy t2 M c 85 [.ptr 0 69 0] (vK r) [.cells 69 false (qQ r t1 E t2 M)] rfl rfl (fun p _=>bDx r t1 E t2 M p);refine aT t65 rfl rfl ?_;simp only[qQ]at a b;simp(disch:=omega)only[t65,go_sem,gv,a,b];repeat' (first|(first|refine aLc (fun h=>?_) (fun h=>?_)|refine aLd (fun h=>?_) (fun h=>?_)|refine aLe (fun h=>?_) (fun h=>?_)|refine aSr (fun h=>?_) (fun h=>?_))|simp(disch:=omega)only[go_sem,a,b])
 all_goals (simp[may, *])
theorem aVb{a:Ad}{lv:TV}{l:Tc_}(d:vJ lv l)(q:l.length<=1000000)(jp:Nat)(g:jp∉a.own)(r:Nat)(x0 A x2 x6 x7 x8 x9 x14 x15 x16:TV): ∀(k i:Nat) (p:Pn) (S:aA) (x5 x13:TV),i+k=l.length->(∀m∈l,m<p.n)->PT S a p->S[jp]?=some (.cells 102 false [.ptr a.ip 106 0]) ->∃x f S' b,lp' (lim K) t36L0 (e9 jp x0 A x2 (j_ r) x5 x6 x7 x8 x9 lv (j_ l.length) (j_ i) x13 x14 x15 x16) S = .ret (.exit 2,e9 jp x0 A x2 (j_ r) x x6 x7 x8 x9 lv (j_ l.length) (j_ l.length) f x14 x15 x16,S')/\PT S' a {p with out:=b}/\S'[jp]?=some (.cells 102 false [.ptr a.ip 106 0])/\∀m,b m=if m∈l.drop i then(r:Int)else p.out m
 |0,i,p,S,x5,x13,h,hln,hP,hp=>by
  obtain rfl:i=l.length:=A_;refine⟨x5,z_,S,p.out,?_,hP,hp,fun m=>by rw[E0];simp⟩;unfold e9;refine aE K _ _ t36L0.eq_1 ?_;rcases d with⟨t,rfl⟩|⟨j,rfl⟩;.simp(disch:=omega)only[go_sem]
  .simp(disch:=omega)only[go_sem]
 |k+1,i,p,S,x5,x13,h,hln,hP,hp=>by
  have c:i<l.length:=A_;have C:l.drop i=l.getD i default::l.drop (i+1):=by rw[A6 c];simp[List.getD,D_ c]
  have z:=fun t=>uQ (t:=t) c;have E:=fun j=>xL (j:=j) c;have F:l.getD i default<p.n:=hln _ (pV c);generalize l.getD i default=w at *
  have y:=hP.setOut w r;have D:=hP.blk;have b2:=hP.out;have G:=fS (j:=a.ju) (v:=0) F;have s:=lC (fun r=>vI (p.out r)) (vI r) F;simp only[dQ]at D;have u:(S.set a.ju (.cells 0 false (cF p.n (upd (fun r=>vI (p.out r)) w (vI r)))))[jp]?=some (.cells 102 false [.ptr a.ip 106 0]):=by rw[aB (fun e=>g (by rw[<-e];simp[Ad.own]))];exact hp
  obtain⟨x,f,S',b,o,I,H,h3⟩:=aVb d q jp g r x0 A x2 x6 x7 x8 x9 x14 x15 x16 k (i+1) {p with out:=upd p.out w r} _ (j_ w) e_ A_ hln y u;rw[show((i+1:Nat):Int)=(i:Int)+1 by omega]at o;simp only[vI]at b2 s o;refine⟨x,f,S',b,?_,I,H,fun m=>?_⟩
  .unfold e9 at o |-;refine aE K _ _ t36L0.eq_1 ?_;rcases d with⟨t,rfl⟩|⟨j,rfl⟩;.simp(disch:=omega)only[go_sem,hp,z,D,b2,G,s,aC];exact X_ er o
   .simp(disch:=omega)only[go_sem,hp,E,D,b2,G,s,aC];exact X_ er o
  .rw[h3 m,C];simp only[J_];by_cases e:m∈l.drop (i+1);.rw[K_ e,K_ (.inr e)]
   .rw[I_ e];by_cases e2:m=w;.subst e2;rw[bU,K_ (.inl rfl)]
    .rw[dB _ _ e2,I_ (by simp[e,e2])]
def O0(p:Pn)(ρ:Nat->Nat)(i:Nat)(o:Nat->Int):Prop:=∀m,o m=if m<32 then(if m<i then(m:Int)else 0)else if m<p.n/\ρ m<i then((ρ m:Nat):Int)else 0
theorem bDz{a:Ad}{p:Pn}{ρ d:Th_}(L:Inv p ρ d)(N:p.n<=500000)(y:32<=p.n)(jp:Nat)(s:jp∉a.own)(x0 D x2 x6 x7 x14 x15 x16:TV): ∀(k i:Nat) (o:Tg_) (S:aA) (x4 x5 x9 x10 x11 x12 x13:TV),i+k=32->PT S a {p with out:=o}->S[jp]?=some (.cells 102 false [.ptr a.ip 106 0])->O0 p ρ i o ->∃P R T f t u w S' o',lp' (lim K) t36L1 (e9 jp x0 D x2 x4 x5 x6 x7 (j_ i) x9 x10 x11 x12 x13 x14 x15 x16) S = .ret (.exit 0,e9 jp x0 D x2 P R x6 x7 (j_ 32) T f t u w x14 x15 x16,S')/\PT S' a {p with out:=o'}/\S'[jp]?=some (.cells 102 false [.ptr a.ip 106 0])/\O0 p ρ 32 o'
 |0,i,o,S,x4,x5,x9,x10,x11,x12,x13,h,hP,hp,ho=>by obtain rfl:i=32:=A_;refine⟨x4,x5,z_,x10,x11,x12,x13,S,o,?_,hP,hp,ho⟩;unfold e9;refine aE K _ _ t36L1.eq_1 ?_;rw[show((32:Nat):Int)=32 from rfl];simp(disch:=omega)only[go_sem]
 |k+1,i,o,S,x4,x5,x9,x10,x11,x12,x13,h,hP,hp,ho=>by
  have A:i<p.n:=A_;have z:=hP.setOut i i;have b1:=hP.blk;have b2:=hP.out;have i1:=fS (j:=a.ju) (v:=0) A;have s1:=lC (fun r=>vI (o r)) (vI i) A;simp only[dQ]at b1;have l:(S.set a.ju (.cells 0 false (cF p.n (upd (fun r=>vI (o r)) i (vI i)))))[jp]?=some (.cells 102 false [.ptr a.ip 106 0]):=by rw[aB (fun e=>s (by rw[<-e];simp[Ad.own]))];exact hp
  have W:Uf {p with out:=upd o i i} ρ d:=⟨L.uf.up,L.uf.fix⟩
  obtain⟨j,S2,G,Z⟩:=bDo z W (by show p.n<=_;omega) y i;have U:=Z.get _ _ B_ l;have h0:=aU9 p ρ i 32;obtain⟨R,w,S3,o3,V,h1,h2,h3⟩:=aVb (vJ.acc j (bH p ρ i 32)) A_ jp s i x0 D x2 x6 x7 (j_ i) e_ x14 x15 x16 (bH p ρ i 32).length 0 {p with out:=upd o i i} S2 x5 x13 A_ (fun m hm=>(sS.1 hm).2.1) (z.keep Z) U;rw[n0_]at V;rw[C4]at h3;have F:O0 p ρ (i+1) o3:=by
   intro m;rw[h3 m];by_cases e:m∈bH p ρ i 32;.obtain⟨c,C,E⟩:=sS.1 e;rw[K_ e,I_ A_,K_ ⟨C,by omega⟩,E]
   .rw[I_ e];show upd o i (i:Int) m=_;by_cases e2:m=i;.subst e2;rw[bU,K_ A_,K_ A_]
    .rw[dB _ _ e2,ho m];by_cases e3:m<32
     .rw[K_ e3,K_ e3];by_cases e4:m<i;.rw[K_ e4,K_ A_]
      .rw[I_ e4,I_ A_]
     .rw[I_ e3,I_ e3];have e5:(m<p.n/\ρ m<i)↔(m<p.n/\ρ m<i+1):=by
       constructor;.rintro⟨c,C⟩;exact⟨c,by omega⟩
       .rintro⟨c,C⟩;refine⟨c,?_⟩;have:ρ m≠i:=fun x=>e (sS.2 ⟨by omega,c,x⟩);omega
      by_cases x:m<p.n/\ρ m<i;.rw[K_ x,K_ (e5.1 x)]
      .rw[I_ x,I_ (fun g=>x (e5.2 g))]
  obtain⟨P,z5,T,f,t,u,Q,S',o',J,c,C,E⟩:=bDz L N y jp s x0 D x2 x6 x7 x14 x15 x16 k (i+1) o3 S3 (j_ i) R e_ (acc j (cR (bH p ρ i 32))) (.iv (.int .i64 (bH p ρ i 32).length)) (.iv (.int .i64 (bH p ρ i 32).length)) w A_ h1 h2 F;rw[show((i+1:Nat):Int)=(i:Int)+1 by omega]at J;refine⟨P,z5,T,f,t,u,Q,S',o',?_,c,C,E⟩;have I:∀q,mX q (acc j (cR (bH p ρ i 32)))=acc j (cR (bH p ρ i 32)):=fun q=>qH _ _ _;have H:cA (acc j (cR (bH p ρ i 32)))=false:=by unfold acc;split<;>rfl
  have Y:∀S,rZ .sl S (acc j (cR (bH p ρ i 32)))=some (.iv (.int .i64 (bH p ρ i 32).length)):=fun S=>by rw[aFn,iT]
  have b:(lim K).call 68 [.ptr a.ip 106 0,j_ i] (S.set a.ju (.cells 0 false (cF p.n (upd (fun r=>vI (o r)) i (vI i)))))=.ret (acc j (cR (bH p ρ i 32)),S2):=G;simp only[vI]at b2 s1 l b;unfold e9 at V J |-;refine aE K _ _ t36L1.eq_1 ?_;simp(disch:=omega)only[go_sem,hp,b1,b2,i1,s1,l,b,I,H,Y,aC];rw[V];simp(disch:=omega)only[go_sem,aC];exact X_ er J
structure bUe (n:Nat) (tE:Tag) (E:List (Int×Int)) (tM:Tag) (M:List (Int×Int)) (o:Nat->Int):Prop where
 mach:∀m,m<32->o m=m
 virt:∀m,32<=m->m<n->o m = -1\/1<=o m/\o m<=24
 edge:∀x y,x<n->y<n->wF E x y=true->o x=o y->o x = -1
 spill:∀m,32<=m->m<n->o m = -1->∀d:Nat,1<=d->d<=24->∃t,t<n/\wF E m t=true/\o t=d
theorem sT{K:bD}{O:Orc}{n:Nat}{env:Env}{b:List Fr}{rs:List mU}{P R:TV×aA->Prop}{X:Out (TV×aA)}(c:X.All P)(h:∀v S,P (v,S)->(jT rs (rfR K O n env b (.ret (v,S)))).All R):(jT rs (rfR K O n env b X)).All R:=by
 have e:∀Y:Out (TV×aA),Y.All P->(fin rs ((er Y).bind fun r=>rfB K O n env b r.2 (r.2[n]?))).All R:=by
  intro Y;induction Y with
  |ret r=>intro a;have:=h r.1 r.2 a;unfold jT rfR at this;exact this
  |fail s=>intro a;exact a.elim
  |pick m q ih=>intro a j d;exact ih j (a j d)
 unfold jT rfR;exact e X c
theorem bD0{S:aA}{j v n:Nat}{o:Tg_}(h:S[j]?=some (.cells v false (cF n fun r=>vI (o r)))):cH S (.msl j v 0 n n 1)=some (TM.one (.int .i64) ((List.range n).map o)):=by
 have c:sub (cF n fun r=>vI (o r)) 0 (n*1)=some (cF n fun r=>vI (o r)):=mC (by simp[aC5]);have e2:toIVs (cF n fun r=>vI (o r))=some ((List.range n).map fun r=>IV.int .i64 (o r)):=by
  have:(cF n fun r=>vI (o r))=((List.range n).map fun r=>IV.int .i64 (o r)).map .iv:=by rw[L7];rfl
  rw[this,fM]
 have e3:∀l:List Nat,cP 1 l.length (l.map fun r=>IV.int .i64 (o r))=TM.one (.int .i64) (l.map o):=by
  intro l;induction l with
  |nil=>rfl
  |cons a r ih=>simp only[Q_,List.length_cons,cP,List.take_succ_cons,List.take_zero,J5,C4,ih];rfl
 have b:=e3 (List.range n);rw[F8]at b;simp only[cH,h,ne_eq,C9,↓reduceIte,c,e2,Option.map_some,b]
theorem bD1{r:Int}{E M:Tb_}(h:may r E M=true):∃n:Nat,r=n/\32<=n/\aXj n E/\OkM n M:=by
 unfold may at h;simp only[P_,q_,D7]at h;obtain⟨d,a,h3⟩:=h;refine⟨r.toNat,by omega,by omega,fun e b=>?_,fun m c=>?_⟩;.have:=t_.1 a e b;simp[vK]at this;exact⟨e.1.toNat,e.2.toNat,by omega,by omega,by omega,by omega,by omega⟩
 .have:=t_.1 h3 m c;simp[vK]at this;exact⟨m.1.toNat,m.2.toNat,by omega,by omega,⟨by omega,by omega⟩,⟨by omega,by omega⟩⟩
theorem bRq{a:Ad}{p:Pn}{ρ d:Th_}(x:Uf p ρ d)(b:p.n<=500000)(g:32<=p.n){s jp jb jo:Nat}{out:Tc_}(k:out.length<=1000000)(f:jp∉a.own)(c:jb∉a.own)(h:jb≠s)(x0 x2 x4 x5 x6 x7 x8 x9 x10 x11 x12 x13 x14 x15 x16:TV)(o:Tg_)(S:aA)(z:PT S a {p with out:=o})(y:S[s]?=some (.lp .ready none (e9 jp x0 .hole x2 x4 x5 x6 x7 x8 x9 x10 x11 x12 x13 x14 x15 x16) [15,16] rfA rfC))(C:S[jp]?=some (.cells 102 false [.ptr a.ip 106 0]))(w:S[jb]?=some (.cells 27 false [acc jo (cR out)])): ((lim K).call 92 [.yld s,.ptr jb 27 0] S).All fun q=>q.1=u_/\∃o',PT q.2 a {p with out:=o'}/\wG p ρ out.reverse o o' /\q.2[s]?=some (.lp .ready none (e9 jp x0 .hole x2 x4 x5 x6 x7 x8 x9 x10 x11 x12 x13 x14 x15 x16) [15,16] rfA rfC)/\q.2[jp]?=some (.cells 102 false [.ptr a.ip 106 0]):=by
 have A:=bDw (jo:=jo) x b g k f c h x0 x2 x4 x5 x6 x7 x8 x9 x10 x11 x12 x13 x14 x15 x16 out.length o S u_ u_ (O_ _) z y C w;have l:∀S,rZ .sl S (acc jo (cR out))=some (j_ out.length):=fun S=>by rw[aFn,iT]
 have i:∀q,mX q (acc jo (cR out))=acc jo (cR out):=fun q=>qH _ _ _;refine dJ K _ (fn:=t92) rfl rfl ?_;simp(disch:=omega)only[t92,go_sem,w,l,i,aC];refine dN A ?_;rintro j e S1 ⟨F,D,E,o',t,e2,m,v,r,u⟩;dsimp only at t e2 m r u;subst t e2;rw[C0]at v;simp(disch:=omega)only[go_sem];exact bE ⟨rfl,o',m,v,r,u⟩
def bV3(r:Int)(tE:Tag)(E:List (Int×Int))(tM:Tag)(M:List (Int×Int))(v:TV):Prop :=
 (may r E M=false/\v=.iv (.sl .nil []))\/(may r E M=true/\∃(n:Nat) (o:Nat->Int),r=n/\32<=n/\v=.iv (.sl .no (TM.one (.int .i64) ((List.range n).map o)))/\bUe n tE E tM M o)
theorem bLn{n:Nat}{tE:Tag}{E:Tb_}{tM:Tag}{M:Tb_}(k:aXj n E){to:Th_}{near:Ti_}{ρ d:Th_}(i:Inv {pn0 n tE E tM M with to:=to,near:=near} ρ d) {l:Tc_} (I:bLk {pn0 n tE E tM M with to:=to,near:=near} l) {p o':Tg_} (P:O0 {pn0 n tE E tM M with to:=to,near:=near} ρ 32 p) (L:wG {pn0 n tE E tM M with to:=to,near:=near} ρ l.reverse p o'):bUe n tE E tM M o':=by
 have Q:Own {pn0 n tE E tM M with to:=to,near:=near}:=⟨fun r s h=>by rw[<-h];exact aMj E s r,fun r=>by
  cases h:({pn0 n tE E tM M with to:=to,near:=near}:Pn).own r r with
  |false=>rfl
  |true=>exact absurd rfl (uP k h).1,fun r s h=>(uP k h).2.1⟩
 have R:∀m,m<n->m<32->ρ m=m:=fun m u A=>i.uf.fix m u (i.mach m u A);have q:∀m,p m=if m<32 then(m:Int)else if m<n/\ρ m<32 then((ρ m:Nat):Int)else 0:=fun m=>by
  rw[P m];by_cases e:m<32;.rw[K_ e,K_ e,K_ e]
  .rw[I_ e,I_ e];rfl
 have F:PI {pn0 n tE E tM M with to:=to,near:=near} ρ [] p:=by
  refine⟨fun m u=>by rw[q,K_ u],fun m b a h3=>by rw[q,I_ A_,K_ ⟨a,h3⟩],fun m b a h3 J=>(by cases J),fun m b a h3 J=>by rw[q,I_ A_,I_ A_],fun x y g v f H=>?_,fun m b a h3=>?_⟩
  .have G:=i.img x y g v f;have w:x<n:=g;have C:y<n:=v;have key:∀z,z<n->0<p z->p z=(ρ z:Nat):=fun z N h=>by
    rw[q]at h |-;by_cases e:z<32;.rw[K_ e,R z N e]
    .rw[I_ e]at h |-;by_cases e2:z<n/\ρ z<32;.rw[K_ e2]
     .rw[I_ e2]at h;omega
   apply J7;intro t;have b:=key x w A_;have a:=key y C A_;have:ρ x=ρ y:=A_;rw[this,i.irr]at G;cases G
  .rw[q,I_ A_]at h3;split at h3<;>omega
 have j:=PI.all i Q I L [] B_ F;have c:∀m,32<=m->m<n->32<=ρ m->ρ m∈l:=fun m b a h3=>by have:=i.rt (r:=m) a;exact(I.all _).2 ⟨h3,this.1,this.2⟩
 refine⟨j.mach,fun m b a=>?_,fun x y g v f H=>?_,j.spill⟩
 .by_cases e:ρ m<32;.right;rw[j.low m b a e];have:=(i.low m a ⟨a,.inr b⟩).2;omega
  .exact j.don m b a A_ (c m b a A_)
 .have t:=j.edge x y g v f H;obtain⟨_,D,_,_⟩:=uP k f;rcases D.2 with h|h;.rw[j.mach x A_]at t;omega
  .by_cases e:ρ x<32;.have:=j.low x h g e;have:=(i.low x g ⟨g,.inr h⟩).2;omega
   .rcases j.don x h g A_ (c x h g A_)with b|b;.exact b
    .omega
theorem PT.lt{S:aA}{a:Ad}{p:Pn}(h:PT S a p):∀i∈a.own,i<S.length:=by
 intro i b;simp only[Ad.own,J_,D5,I4]at b;rcases b with rfl|rfl|rfl|rfl|rfl;.exact aN h.blk
 .exact aN h.near
 .exact aN h.own
 .exact aN h.to
 .exact aN h.out
theorem bD2(S:aA)(b a:aG):(S++[b]).set S.length a=S++[a]:=B_
theorem bRr(r:Int)(tE:Tag)(E:Tb_)(tM:Tag)(M:Tb_)(hr:r<=100000)(hE:E.length<=1000000)(hM:M.length<=1000000):fP K 36 [.iv (gv r tE E tM M)] (bV3 r tE E tM M):=by
 have c:=bRp r tE E tM M hE hM;unfold fP;refine dJ K _ (fn:=t36) rfl rfl ?_;cases hm:may r E M with
 |false =>rw[hm]at c;unfold gv at c |-;simp(disch:=omega)only[t36,go_sem,aD c];exact bE ⟨_,rfl,.inl ⟨hm,rfl⟩⟩
 |true =>
  rw[hm]at c;obtain⟨n,rfl,e,t,N⟩:=bD1 hm;have hn:n<=100000:=A_;obtain⟨S1,a,D,w⟩:=bRf (tE:=tE) (tM:=tM) (M:=M) (n:=n) A_ e hE t;have h6:=w.lt;have k:S1.length∉a.own:=fun h=>by have:=h6 _ h;omega
  have h5:=w.keep (bL.app [] S1 [aG.cells 102 false [.ptr a.ip 106 0]]);have I:=cN S1 (aG.cells 102 false [.ptr a.ip 106 0]);have R:=cN S1 (aG.cells 102 false [.iv .nilp]);have h0:=bD2 S1 (aG.cells 102 false [.iv .nilp]) (aG.cells 102 false [.ptr a.ip 106 0]);have Z:=bRc h5 (inv0 (tE:=tE) (tM:=tM) (M:=M) t) (by show n<=_;omega) hM N;generalize hS2:S1++[aG.cells 102 false [.ptr a.ip 106 0]]=S2 at *
  have hd:S1.length<S2.length:=by rw[<-hS2];simp
  unfold gv at c D |-;simp(disch:=omega)only[t36,go_sem,aD c,D,R,h0,hS2,I];refine fI Z ?_;rintro v S3 ⟨i,nm,to,near,ρ,d,k3,C,f,_,_⟩;dsimp only at i k3 C;subst i;have h7:=k3.get _ _ I k B_;obtain⟨y4,y5,y9,T,h8,h9,hb,S4,o1,l4,H,L,U⟩:=bDz (a:={a with nm:=nm}) (p:={pn0 n tE E tM M with to:=to,near:=near}) f (by show n<=_;omega) e S1.length k (.iv (.agg [.int .i64 n,.sl tE (E.map iM),.sl tM (M.map iM)])) (.lb [j_ n,.iv (.sl tE (E.map iM)),.iv (.sl tM (M.map iM))]) k_ u_ z_ u_ u_ u_ 32 0 (fun _=>0) S3 u_ u_ u_ u_ u_ u_ u_ A_ C h7 (fun m=>B_);rw[n0_]at l4;unfold e9 at l4;have hc:=bRo H ⟨⟨f.uf.up,f.uf.fix⟩,f.sym,f.irr,f.root,f.img,f.mach,f.low⟩ (by show n<=_;omega) e;simp(disch:=omega)only[go_sem];rw[l4];simp(disch:=omega)only[go_sem,L];refine fI hc ?_;rintro v S5 ⟨l,jo,i,k5,P⟩;dsimp only at i k5;subst i;have z:∀q,mX q (acc jo (cR l))=acc jo (cR l):=fun q=>qH _ _ _;have y:cA (acc jo (cR l))=false:=by unfold acc;split<;>rfl
  have h4:(lim K).call 69 [acc jo (cR l)] S5=.ret (.fn 92 [] [.ptr S5.length 27 0],S5++[.cells 27 false [acc jo (cR l)]]):=by refine aI K _ (fn:=t69) rfl rfl ?_;simp(disch:=omega)only[t69,go_sem,z,y]
  simp(disch:=omega)only[go_sem,z,y,h4];have G:=H.keep k5;have F:=G.lt;have k6:=(bL.app [] S5 [aG.cells 27 false [acc jo (cR l)]])
  have Y:=cN S5 (aG.cells 27 false [acc jo (cR l)]);generalize hS6:S5++[aG.cells 27 false [acc jo (cR l)]]=S6 at *
  have he:S6.length=S5.length+1:=by rw[<-hS6];simp
  have k7:=bL.app [] S6 [aG.lp LoopState.ready none (e9 S1.length (.iv (.agg [.int .i64 n,.sl tE (E.map iM),.sl tM (M.map iM)])) .hole k_ (noLb y4) (noLb y5) u_ z_ (j_ 32) (noLb y9) (noLb T) (noLb h8) (noLb h9) (noLb hb) (.fn 92 [] [.ptr S5.length 27 0]) u_ u_) [15,16] rfA rfC];have Q:l.length<=1000000:=by have h2:=aG8 P.nd (Q3.filter fun x=>decide (x∈l)) (fun x=>by rw[D1,C5];simp only[q_];exact⟨fun h=>⟨((P.all x).1 h).2.1,h⟩,fun h=>h.2⟩) (m:=(List.range n).filter fun x=>decide (x∈l));have h3:=D8 (fun x=>decide (x∈l)) (List.range n);simp only[F8]at h3;omega
  have u:=bRq (a:={a with nm:=nm}) (p:={pn0 n tE E tM M with to:=to,near:=near}) (jo:=jo) f.uf (by show n<=_;omega) e (s:=S6.length) (jp:=S1.length) (jb:=S5.length) Q k (fun h=>by have:=F _ h;omega) A_ _ _ _ _ _ _ _ _ _ _ _ _ _ _ _ o1 _ ((G.keep k6).keep k7) (cN _ _) (k7.get _ _ B_ (k6.get _ _ B_ (k5.get _ _ B_ L))) (k7.get _ _ B_ Y);unfold e9 rfA rfC at u;refine sT u ?_;rintro v S8 ⟨i,o',J,V,g,j⟩;dsimp only at i J g j;subst i;have ha:S6.length≠S1.length:=bN g j B_;have A:=fun b=>J.busy g b;have b1:=fun b=>(A b).blk;have W:=fun b:aG=>(aB ha b).trans j;have h1:=fun b=>bD0 (A b).out;simp only[dQ]at b1;simp(disch:=omega)only[go_sem,g,W,b1];refine bE ⟨_,?_,.inr ⟨hm,n,o',rfl,e,rfl,bLn t f ⟨P.nd,P.all⟩ U V⟩⟩;show TM.resolve _ (.msl a.ju 0 0 n n 1)=_;rw[aBp,show cH _ (.msl a.ju 0 0 n n 1)=_ from h1 _];rfl
theorem aJ0{rg:Int}{ins:List VI}(d:ins.any (qM rg ins)=false){i:Nat}(b:i<ins.length){r:Int}(c:r∈bS (ins.getD i default)):0<=r/\r<rg:=by
 have a:=t_.1 d (ins.getD i default) (by simp only[List.getD,D_ b,Option.getD_some];exact B8 _);generalize ins.getD i default=x at *
 unfold qM at a;have e:(bS x).any (nE rg)=false:=by
  cases h:(bS x).any (nE rg)with
  |false=>rfl
  |true=>rw[h]at a;simp at a
 have h3:=t_.1 e r c;unfold nE at h3;simp only[q_]at h3;omega
theorem bV4{rg:Int}{ins:List VI}(b:ins.any (qM rg ins)=false){i:Nat}(c:i<ins.length):0<=(ins.getD i default).a/\(ins.getD i default).a<rg:=aJ0 b c (by unfold bS;simp)
theorem bUf{rg:Int}{ins:List VI}(a:ins.any (qM rg ins)=false){i:Nat}(b:i<ins.length)(h:(ins.getD i default).op≠67\/0<=(ins.getD i default).d):0<=(ins.getD i default).d/\(ins.getD i default).d<rg:=aJ0 a b (by unfold bS;rw[K_ h];simp)
theorem bLo{rg:Int}(j:32<=rg){ins:List VI}(g:ins.any (qM rg ins)=false){i:Nat}(e:i<ins.length):∀d∈aY (ins.getD i default),1<=d/\d<rg:=by
 intro d b;have c:=bUf g e;generalize ins.getD i default=x at *
 unfold aY at b;split at b;.rename_i h;obtain⟨a,k⟩:=((jM _).mem d).1 b;rw[U_]at a;subst a;have:=c (.inl A_);omega
 .split at b
  .obtain⟨a,k⟩:=((jM _).mem d).1 b;rw[a_]at a;rcases a with a|a;.unfold dP at a;obtain⟨n,f,rfl⟩:=A0.1 a;rw[C5]at f;omega
   .simp only[J_,D5,I4]at a;rcases a with rfl|rfl;.omega
    .have:=c (.inr A_);omega
  .cases b
structure aDs (Q:List VI) (n:Nat) (o:Nat->Int):Prop where
 mach:∀m,m<32->o m=m
 virt:∀m,32<=m->m<n->o m = -1\/1<=o m/\o m<=24
 edge:∀x y:Nat,x<n->y<n->aF0 Q x y->o x=o y->o x = -1
 spill:∀m,32<=m->m<n->o m = -1->∀d:Nat,1<=d->d<=24->∃t:Nat,aF0 Q m t/\o t=d
theorem aXn{Q:List VI}{O:Te_}{rg:Int}(g:∀i,i<Q.length->∀x,x∈wlI 0 (O i)↔1<=x/\x<rg/\zB Q x i){x y:Int}:oZ Q (fun i=>wlI 0 (O i)) (prP x y)->aF0 Q x y:=by
 rintro⟨i,e,d,f,r,a,b,c,h⟩;refine⟨i,e,d,r,f,?_,b,c,h⟩;rcases a_.1 a with a|a;.exact .inr ((g i e r).1 a).2.2
 .exact .inl a
theorem aXo{Q:List VI}{O:Te_}{rg:Int}(l:∀i,i<Q.length->∀x,x∈wlI 0 (O i)↔1<=x/\x<rg/\zB Q x i){x y:Int}(j:1<=x/\x<rg)(f:1<=y/\y<rg)(h:aF0 Q x y):oZ Q (fun i=>wlI 0 (O i)) (prP x y):=by
 obtain⟨i,g,d,r,m,a,b,c,k⟩:=h;refine⟨i,g,d,m,r,?_,b,c,k⟩;rcases a with a|a;.exact G0 _ a
 .refine G4 _ ((l i g r).2 ?_);rcases aDi.1 k with⟨_,e⟩|⟨e,_⟩;.rw[<-e];exact⟨f.1,f.2,by rw[e];exact a⟩
  .rw[<-e];exact⟨j.1,j.2,by rw[e];exact a⟩
theorem aMn{r:Int}{L:Tb_}(h:∀p∈L,InP r p):L.any (vK r)=false:=by rw[t_];intro p a;have:=h p a;unfold InP at this;unfold vK;simp;omega
theorem bV5{Q:List VI}{n:Nat}(h0:32<=n)(hn:n<=1000){O:Te_}(U:∀i,i<Q.length->∀x,x∈wlI 0 (O i)↔1<=x/\x<n/\zB Q x i){E M:Tb_}(r:nF (oZ Q fun i=>wlI 0 (O i)) E)(I:nF (sL Q) M)(q:∀p,oZ Q (fun i=>wlI 0 (O i)) p->InP n p)(A:∀p,sL Q p->InP n p)(tE tM:Tag):
  fP K 36 [.iv (.agg [.int .i64 n,.sl tE (aAr E),.sl tM (aAr M)])] fun v=>∃o:Nat->Int,v=.iv (.sl .no (TM.one (.int .i64) ((List.range n).map o)))/\aDs Q n o:=by
 have c:=bRr n tE E tM M A_ (xJ (rg:=n) A_ r.inc fun p g=>q p ((r.mem p).1 g)) (xJ (rg:=n) A_ I.inc fun p g=>A p ((I.mem p).1 g))
 refine fP.mono c ?_
 have j:may n E M=true:=by
  unfold may
  rw[V_ A_,aMn fun p g=>q p ((r.mem p).1 g),aMn fun p g=>A p ((I.mem p).1 g)];rfl
 obtain⟨_,_,_,H,_⟩:=bD1 j
 rintro v (⟨h,_⟩|⟨_,G,o,h6,_,rfl,f⟩)
 .rw[j]at h;cases h
 obtain rfl:G=n:=A_
 refine⟨o,rfl,f.mach,f.virt,fun x y P L R k=>?_,fun m l J h3 d h4 W=>?_⟩
 ·-- machine's registers that are no colours meet none that has their number
  have h7:(x:Int)≠y:=by
   obtain⟨i,_,d,w,_,_,h8,_,g⟩:=R
   rcases aDi.1 g with⟨u,e2⟩|⟨u,e2⟩<;>omega
  have C:∀z:Nat,z<G->¬(1<=z/\z<=24\/32<=z)->z<32/\o z=z/\(z=0\/25<=z):=fun z V h=>⟨by omega,f.mach z A_,by omega⟩
  by_cases hcx:1<=x/\x<=24\/32<=x
  .by_cases hcy:1<=y/\y<=24\/32<=y
   .refine f.edge x y P L ?_ k
    have N:=aXo (rg:=G) U (x:=x) (y:=y) A_ A_ R
    have D:=(r.mem _).2 N
    refine E8.2 ⟨_,D,?_⟩
    unfold aJt prP
    have F:∀z:Nat,(1<=z/\z<=24\/32<=z)->isV z=true:=fun z V=>by
     have l:(1<=(z:Int)/\(z:Int)<=24)\/32<=(z:Int):=A_
     unfold isV kG
     rcases l with⟨l,J⟩|l
     .rw[V_ l,V_ J];rfl
     .rw[V_ l,M9]
    split
    .rw[F x hcx,F y hcy];simp
    .rw[F x hcx,F y hcy];simp
   .obtain⟨a,b,c⟩:=C y L hcy
    rw[b]at k
    by_cases h:x<32
    .rw[f.mach x h]at k;omega
    .have:=f.virt x A_ P;omega
  .obtain⟨a,b,c⟩:=C x P hcx
   rw[b]at k
   by_cases h:y<32
   .rw[f.mach y h]at k;omega
   .have:=f.virt y A_ L;omega
 .obtain⟨t,_,ha,ht⟩:=f.spill m l J h3 d h4 W
  refine⟨t,aXn (rg:=G) U ?_,ht⟩
  obtain⟨_,_,_,e,k,Z⟩:=uP H ha
  have T:=(r.mem e).1 k
  have Y:=q e T
  unfold InP at Y
  have:e=prP m t:=by
   unfold prP
   rcases Z with⟨u,e2⟩|⟨u,e2⟩
   .rw[K_ A_,<-u,<-e2]
   .rw[I_ A_,<-u,<-e2]
  rw[<-this];exact T
end Go.Proofs.YtehlgnfhkidgoaaGreatDoor
