/- Some texts of the proof, joined. Condition: none. -/
import Derived.Test.YtehlgnfhkidgoaaGreatDoorJd
import Derived.Test.YtehlgnfhkidgoaaGreatDoorJc
import Derived.Test.YtehlgnfhkidgoaaGreatDoorJb
set_option linter.unusedSectionVars false
set_option maxRecDepth 100000
set_option maxHeartbeats 64000000
set_option linter.unusedSimpArgs false
set_option linter.unusedVariables false
namespace Go.Proofs.YtehlgnfhkidgoaaGreatDoor
open Go Go.TM
theorem aUm{g:Nat}{a:IV}{v:TV}(h:TM.Pure K g [.iv a] v)(S:aA):cvA (lim K) true S g [.iv a]=.ret (v,S):=by simp only[go_sem,aD h]
theorem bC5(j:Nat)(E:List (Tag×List Int))(t:E.length<=1000000)(S:aA)(b:∀e∈E,cY e.1 e.2/\e.2.length<=1000000):∀(k i:Nat) (x2 g x6 x7:TV),i+k=E.length->(∀e∈E.take i,crM e.2=false) ->∃(f:aV) (h o p r m:TV),lp' (lim K) t51L0 [.tsl j (E.map mT),.fn 26 [] [],x2,g,j_ E.length,j_ i,x6,x7] S = .ret (f,[.tsl j (E.map mT),.fn 26 [] [],h,o,j_ E.length,p,r,m],S) /\(f=.exit 0/\(E.any fun e=>crM e.2)=false\/f=.ret/\(E.any fun e=>crM e.2)=true/\∃q:Nat,h=j_ q)
 |0,i,x2,g,x6,x7,hk,hq=>by
  obtain rfl:i=E.length:=A_;rw[C5]at hq;refine⟨.exit 0,x2,g,j_ E.length,z_,x7,aE K _ _ t51L0.eq_1 ?_,.inl ⟨rfl,?_⟩⟩;.simp(disch:=omega)only[go_sem]
  .rw[q_];intro x c;rw[hq x c];simp
 |k+1,i,x2,g,x6,x7,hk,hq=>by
  have a:i<E.length:=A_;have d:indexAddrS 1 (.tsl j (E.map mT)) (i:Int)=some (.iv (.cp [.sl E[i].1 (TM.one (.int .i64) E[i].2)])):=by show indexAddrS 1 (.iv (.sl .full (E.map mT))) (i:Int)=_;refine aO5 A_ ?_ rfl;rw[Int.toNat_natCast,l_,D_ a];rfl
  have l:=aUm (bRd E[i].1 E[i].2 (b _ (B8 a)).1 (b _ (B8 a)).2) S;have n:E.take (i+1)=E.take i++[E[i]]:=by rw[G4,D_ a];rfl
  cases hd:crM E[i].2 with
  |true =>rw[hd]at l;refine⟨.ret,j_ i,j_ i,j_ i,e_,e_,aE K _ _ t51L0.eq_1 ?_,.inr ⟨rfl,E5.2 ⟨_,B8 a,hd⟩,i,rfl⟩⟩;simp(disch:=omega)only[go_sem,d,l]
  |false =>
   rw[hd]at l;obtain⟨f,h,o,p,r,m,s,u⟩:=bC5 j E t S b k (i+1) x2 (j_ i) e_ z_ A_ (fun x c=>by
    rw[n,U_,S_]at c;rcases c with c|rfl;.exact hq x c
    .exact hd)
   rw[show((i+1:Nat):Int)=(i:Int)+1 by omega]at s;refine⟨f,h,o,p,r,m,aE K _ _ t51L0.eq_1 ?_,u⟩;simp(disch:=omega)only[go_sem,d,l,aC];exact X_ er s
theorem bC6(j:Nat)(E:List (Tag×List Int))(g:E.length<=1000000)(S:aA)(d:∀e∈E,cY e.1 e.2/\e.2.length<=1000000):(lim K).call 24 [.tsl j (E.map mT),.fn 26 [] []] S=.ret (.iv (.bool (E.any fun e=>crM e.2)),S):=by
 obtain⟨l,m,n,i,k,h,c,b⟩:=bC5 j E g S d E.length 0 (j_ 0) u_ u_ u_ A_ B_;rw[n0_]at c;have f:(E.map mT).length=E.length:=P_ _;rcases b with⟨rfl,b⟩|⟨rfl,b,q,rfl⟩<;>rw[b]
 .have a:(lim K).call 51 [.tsl j (E.map mT),.fn 26 [] []] S=.ret (j_ (-1),S):=by refine aI K S (fn:=t51) rfl rfl ?_;simp(disch:=omega)only[t51,go_sem,f];rw[c];simp(disch:=omega)only[go_sem]
  refine aI K S (fn:=t24) rfl rfl ?_;simp(disch:=omega)only[t24,go_sem,a]
 .have a:(lim K).call 51 [.tsl j (E.map mT),.fn 26 [] []] S=.ret (j_ q,S):=by refine aI K S (fn:=t51) rfl rfl ?_;simp(disch:=omega)only[t51,go_sem,f];rw[c];simp(disch:=omega)only[go_sem]
  refine aI K S (fn:=t24) rfl rfl ?_;simp(disch:=omega)only[t24,go_sem,a]
theorem bC7(ti:Tag)(ins:List VI)(A:ins.length<=1000000)(S:aA)(s:∀x∈ins,x.us.length<=1000000):∀(k i:Nat) (x2 h x6 x7:TV),i+k=ins.length->(∀x∈ins.take i,b28 x=false) ->∃(e:aV) (j o p r m:TV),lp' (lim K) t54L0 [.iv (.sl ti (ins.map aJ)),.fn 28 [] [],x2,h,j_ ins.length,j_ i,x6,x7] S = .ret (e,[.iv (.sl ti (ins.map aJ)),.fn 28 [] [],j,o,j_ ins.length,p,r,m],S) /\(e=.exit 0/\ins.any b28=false\/e=.ret/\ins.any b28=true/\∃q:Nat,j=j_ q)
 |0,i,x2,h,x6,x7,hk,hq=>by
  obtain rfl:i=ins.length:=A_;rw[C5]at hq;refine⟨.exit 0,x2,h,j_ ins.length,z_,x7,aE K _ _ t54L0.eq_1 ?_,.inl ⟨rfl,?_⟩⟩;.simp(disch:=omega)only[go_sem]
  .rw[q_];intro x u;rw[hq x u];simp
 |k+1,i,x2,h,x6,x7,hk,hq=>by
  have a:i<ins.length:=A_;have b:=jF (w:=8) (f:=aJ) iF (t:=ti) (l:=ins) (i:=(i:Int)) A_;rw[Int.toNat_natCast,dH]at b;have c:ins.getD i default∈ins:=by simp only[List.getD,D_ a,Option.getD_some];exact B8 a
  have d:=aUm (bRh (ins.getD i default) (s _ c)) S;rw[dH]at d;have n:ins.take (i+1)=ins.take i++[ins.getD i default]:=by rw[G4,D_ a];simp[List.getD,D_ a]
  generalize u:ins.getD i default=x at *
  cases hd:b28 x with
  |true =>rw[hd]at d;refine⟨.ret,j_ i,j_ i,j_ i,e_,e_,aE K _ _ t54L0.eq_1 ?_,.inr ⟨rfl,E5.2 ⟨_,c,hd⟩,i,rfl⟩⟩;simp(disch:=omega)only[go_sem,b,d]
  |false =>
   rw[hd]at d;obtain⟨e,j,o,p,r,m,v,z⟩:=bC7 ti ins A S s k (i+1) x2 (j_ i) e_ z_ A_ (fun y g=>by
    rw[n,U_,S_]at g;rcases g with g|rfl;.exact hq y g
    .exact hd)
   rw[show((i+1:Nat):Int)=(i:Int)+1 by omega]at v;refine⟨e,j,o,p,r,m,aE K _ _ t54L0.eq_1 ?_,z⟩;simp(disch:=omega)only[go_sem,b,d,aC];exact X_ er v
theorem bC8(ti:Tag)(ins:List VI)(e:ins.length<=1000000)(S:aA)(f:∀x∈ins,x.us.length<=1000000):(lim K).call 27 [.iv (.sl ti (ins.map aJ)),.fn 28 [] []] S=.ret (.iv (.bool (ins.any b28)),S):=by
 obtain⟨j,k,l,h,i,g,c,b⟩:=bC7 ti ins e S f ins.length 0 (j_ 0) u_ u_ u_ A_ B_;rw[n0_]at c;have d:(ins.map aJ).length=ins.length:=P_ _;rcases b with⟨rfl,b⟩|⟨rfl,b,q,rfl⟩<;>rw[b]
 .have a:(lim K).call 54 [.iv (.sl ti (ins.map aJ)),.fn 28 [] []] S=.ret (j_ (-1),S):=by refine aI K S (fn:=t54) rfl rfl ?_;simp(disch:=omega)only[t54,go_sem,d];rw[c];simp(disch:=omega)only[go_sem]
  refine aI K S (fn:=t27) rfl rfl ?_;simp(disch:=omega)only[t27,go_sem,a]
 .have a:(lim K).call 54 [.iv (.sl ti (ins.map aJ)),.fn 28 [] []] S=.ret (j_ q,S):=by refine aI K S (fn:=t54) rfl rfl ?_;simp(disch:=omega)only[t54,go_sem,d];rw[c];simp(disch:=omega)only[go_sem]
  refine aI K S (fn:=t27) rfl rfl ?_;simp(disch:=omega)only[t27,go_sem,a]
structure qB (f:VF):Prop where
 chk:vL f.regs f.sl f.nd f.pr f.ins=true
 sl0:f.sl=0
 crd:∀i,i<f.ins.length->∃Li Lo:List Int,(∀t,1<=t->t<=24->LvR f.ins t i->t∈Li)/\Li.length<=16/\(∀t,1<=t->t<=24->zH f.ins t i->t∈Lo)/\Lo.length<=16
 ins:∀x∈f.ins,b28 x=false
def nD(I:Nat->List Nat)(n:Nat):List (Tag×List Int):=(List.range n).map fun q=>(iJ (aZ (wlI 0 (I q))),wlI 0 (I q))
theorem xO(I:Te_)(n:Nat):bF I n=(nD I n).map mT:=by unfold bF nD;rw[L6];rfl
theorem aJj(l:Ta_):cY (iJ (aZ l)) l:=fun h=>by
 unfold iJ at h
 split at h
 .rename_i h0;exact aLu.1 h0
 .cases h
theorem bPx{W:Tc_}{P:Int->Prop}{rg:Int}(h:crM (wlI 0 W)=false)(a:∀x,x∈wlI 0 W↔1<=x/\x<rg/\P x)(d:32<=rg):(∀t,1<=t->t<=24->P t->t∈flp p24 (wlI 0 W))/\(flp p24 (wlI 0 W)).length<=16:=by
 refine⟨fun t c e b=>B5.2 ⟨(a t).2 ⟨c,by omega,b⟩,?_⟩,?_⟩;.unfold p24;rw[Z_ A_];rfl
 .unfold crM at h;have:=U5 h;omega
theorem bC9(f:VF)(J:f.regs<=100000)(W:f.ins.length<=100000)(o:∀x∈f.ins,x.us.length<=999990/\cY x.tu x.us):∃b,TM.Pure K 12 [.iv (.agg (iT f))] (.iv (.bool b))/\(b=true->qB f):=by
 have s:∀x∈f.ins,x.us.length<=1000000:=fun x C=>by have:=(o x C).1;omega
 have c:=aP7 f.fn f.regs f.sl f.nd f.pr f.rs f.ti f.ins A_ o;have P:=fun h=>aI6 (f:=f) J A_ o h;have G:∀h:vL f.regs f.sl f.nd f.pr f.ins=true,0<f.ins.length:=fun h=>by unfold vL at h;simp only[O_,p_]at h;exact h.1.2.2.2.2
 have F:=fun N U V T=>(⟨N,U,V,T⟩:qB f)
 obtain⟨fn,rg,sl,nd,pr,rs,ti,ins⟩:=f;dsimp only at *
 cases hc:vL rg sl nd pr ins with
 |false =>rw[hc,I_ C_]at c;refine⟨false,?_,fun h=>by cases h⟩;rw[oT];dsimp only;unfold kN at c;refine aT t12 rfl rfl ?_;simp(disch:=omega)only[t12,go_sem,aD c]
 |true =>
  rw[hc,K_ rfl]at c;obtain⟨I,O,d,j,l⟩:=P hc;have E:=G hc;rw[oT]at d j |-;dsimp only at d j |-;unfold kN at c;by_cases hs:sl=0
  .subst hs;have x0:indexAddrS 1 (.iv (.sl (iJ (bF I ins.length)) (bF I ins.length))) 0=some (.iv (.cp [.sl (iJ (aZ (wlI 0 (I 0)))) (TM.one (.int .i64) (wlI 0 (I 0)))])):=ixL (i:=0) E _;have r:=pW I ins.length;have m:=bC2 I O (n:=ins.length) A_ (iJ (bF I ins.length)) (iJ (bF O ins.length)) [];have k:=xM (S:=[]) (Slc.iv [] (iJ (aZ (wlI 0 (I 0)))) (wlI 0 (I 0))) (by have:=(l 0 E).1.1;omega) 23 [] rfl rfl p32 (fun x _=>xN (wJ x) []);have H:bF I ins.length++bF O ins.length=(nD I ins.length++nD O ins.length).map mT:=by rw[D0,xO,xO]
   have g:=bC6 0 (nD I ins.length++nD O ins.length) (by simp[nD];omega) [.tok (ins.length+ins.length) 1 26] (fun e u=>by
    rcases U_.1 u with u|u;all_goals
     obtain⟨q,Q,rfl⟩:=r_.1 u
     have z:=C2.1 Q
     have:=(l q z).1
     exact⟨aJj _,by dsimp only;omega⟩)
   rw[<-H]at g;have v:=fun S=>bC8 ti ins A_ S s;simp only[List.length_nil,List.nil_append]at m;have p:((ins.length:Int)>0)↔True:=by simp;omega
   cases q1:(wlI 0 (I 0)).any p32 with
   |true =>
    rw[q1]at k;refine⟨false,?_,fun h=>by cases h⟩;generalize bF I ins.length=A at *
    generalize bF O ins.length=B at *
    refine aT t12 rfl rfl ?_;simp(disch:=omega)only[t12,go_sem,aD c,aD d,aD j,r,p,x0,k]
   |false =>
    rw[q1]at k;cases q2:(nD I ins.length++nD O ins.length).any fun e=>crM e.2 with
    |true =>
     rw[q2]at g;refine⟨false,?_,fun h=>by cases h⟩;generalize bF I ins.length=A at *
     generalize bF O ins.length=B at *
     refine aT t12 rfl rfl ?_;simp(disch:=omega)only[t12,go_sem,aD c,aD d,aD j,r,p,x0,k,m,g]
    |false =>
     rw[q2]at g;refine⟨!ins.any b28,?_,fun h=>F hc rfl (fun i D=>?_) (fun x C=>?_)⟩
     .generalize bF I ins.length=A at *
      generalize bF O ins.length=B at *
      refine aT t12 rfl rfl ?_;simp(disch:=omega)only[t12,go_sem,aD c,aD d,aD j,r,p,x0,k,m,g,v]
     .have t:(32:Int)<=rg:=by unfold vL at hc;simp only[O_,p_]at hc;exact hc.1.1
      rw[R2,K8]at q2;obtain⟨_,y,w⟩:=l i D;have a:=q_.1 q2.1 _ (r_.2 ⟨i,C2.2 D,rfl⟩);have b:=q_.1 q2.2 _ (r_.2 ⟨i,C2.2 D,rfl⟩);obtain⟨R,p2⟩:=bPx (by simpa using a) y t;obtain⟨p3,L⟩:=bPx (by simpa using b) w t;exact⟨_,_,R,p2,p3,L⟩
     .simp only[D5]at h;simpa using q_.1 h x C
  .refine⟨false,?_,fun h=>by cases h⟩;refine aT t12 rfl rfl ?_;simp(disch:=omega)only[t12,go_sem,aD c,hs]
theorem aMc{α:Type}{p:α->Bool}{l:List α}(h:(l.filter p).length=1){c c':Nat}{x y:α}(g:l[c]?=some x)(a:l[c']?=some y)(i:p x=true)(f:p y=true)(d:c<c'):False:=by
 obtain⟨j,ex⟩:=E_.1 g;have e:l=l.take c++x::l.drop (c+1):=by rw[<-ex,<-A7 j,F3]
 rw[e,H5,E6,K_ i,H_,List.length_cons]at h;have b:y∈(l.drop (c+1)).filter p:=B5.2 ⟨List.mem_iff_getElem?.2 ⟨c'-(c+1),by rw[F9,show c+1+(c'-(c+1))=c' by omega];exact a⟩,f⟩;have:=X7 b;omega
section
variable {f:VF}(hb:qB f)
include hb
theorem pG:(32<=f.regs/\0<=f.nd/\0<=f.sl/\0<=f.pr/\0<f.ins.length)/\(∀x∈f.ins,qV f.regs f.ins x=false)/\aI5 f.ins=true:=by have c:=hb.chk;unfold vL at c;simp only[O_,p_,D5]at c;obtain⟨⟨h,g,i,j,d⟩,b,a⟩:=c;exact⟨⟨by omega,g,i,j,d⟩,fun x e=>by simpa using q_.1 b x e,a⟩
theorem aJk{x:VI}(c:x∈f.ins):nG x.op x.im=true/\(∀n∈bN x,0<=n/\n<f.regs)/\(fQ x=true->oQ f.ins x.lb=1):=by
 have h:=(pG hb).2.1 x c;unfold qV at h;simp only[K8,U0,Bool.and_eq_false_iff,P0,Decidable.not_not]at h;refine⟨h.1,fun n b=>?_,fun d=>?_⟩;.have:=q_.1 h.2.1 n b;unfold nH at this;simp at this;omega
 .rcases h.2.2 with a|a;.rw[d]at a;cases a
  .exact a
theorem zM{x:VI}(e:x∈f.ins):(∀u∈x.us,u<32)/\(x.op=67->x.d<32)/\x.op≠73/\x.op≠74/\x.mp=[]/\∀n∈x.d::x.a::x.b::x.us,bC3 n=true:=by
 have h:=hb.ins x e;unfold b28 at h;simp only[K8,P0]at h;obtain⟨⟨g,l⟩,o,k,p,j⟩:=h;refine⟨fun u i=>?_,fun m=>?_,o,k,a_ A_,fun n c=>?_⟩;.have:=q_.1 g u i;unfold p32 at this;simp at this;omega
 .by_cases h7:32<=x.d;.exact absurd ⟨m,h7⟩ l
  .omega
 .have:=q_.1 j n c;unfold bLk at this;simpa using this
theorem aCg:aL6 f.ins:=by
 have b:f.ins.any (qV f.regs f.ins)=false:=q_.2 fun x a=>by rw[(pG hb).2.1 x a];decide
 refine⟨fun x a=>⟨(zM hb a).2.2.1,(zM hb a).2.2.2.1⟩,fun x a=>(zM hb a).1,fun x a=>(zM hb a).2.1,fun x a h=>?_,fun c c' s j n v u=>?_⟩
 .obtain⟨i,r,rfl⟩:=H3 a;have e:f.ins.getD i default=f.ins[i]:=by rw[b_,D_ r];rfl
  obtain⟨q,l,_⟩:=aDd b r (by
   rw[e];unfold fQ;rcases h with h|h;.rw[V_ h];rfl
   .rw[V_ h,K9,F4])
  rw[e]at l;exact⟨q,l⟩
 .have t:fQ (f.ins.getD c default)=true:=by unfold fQ;rw[V_ n,K9]
  have d:=(aJk hb (bS s)).2.2 t;unfold oQ at d;have ex:f.ins[c]?=some (f.ins.getD c default):=by rw[b_,D_ s];rfl
  have k:f.ins[c']?=some (f.ins.getD c' default):=by rw[b_,D_ j];rfl
  have o:(decide ((f.ins.getD c default).op=65)&&decide ((f.ins.getD c default).lb=(f.ins.getD c default).lb))=true:=by rw[V_ n,V_ rfl];rfl
  have m:(decide ((f.ins.getD c' default).op=65)&&decide ((f.ins.getD c' default).lb=(f.ins.getD c default).lb))=true:=by rw[V_ v,V_ u.symm];rfl
  rcases L9 c c' with g|g|g;.exact(aMc (p:=fun x:VI=>decide (x.op=65)&&decide (x.lb=(f.ins.getD c default).lb)) A_ ex k o m g).elim
  .exact g
  .exact(aMc (p:=fun x:VI=>decide (x.op=65)&&decide (x.lb=(f.ins.getD c default).lb)) A_ k ex m o g).elim
theorem bPy:∀x∈f.ins,∀n,n∈bB x\/n∈aW x->n<f.regs:=fun x q n h=>by
 have i:=(aJk hb q).2.1
 have o:=(pG hb).1.1
 have r:x.a<f.regs:=(i x.a (by unfold bN;simp)).2
 have p:x.b<f.regs:=(i x.b (by unfold bN;simp)).2
 have j:∀u∈x.us,u<f.regs:=fun u j=>(i u (by unfold bN;simp[j])).2
 have k:0<x.d->x.d<f.regs:=fun s=>(i x.d (by unfold bN;rw[K_ (.inr A_)];simp)).2
 rcases h with h|h
 .unfold bB at h
  split at h
  .obtain⟨c,_⟩:=cT.1 h
   rcases J_.1 c with c|c
   .omega
   .rw[S_]at c;omega
  .split at h
   .obtain⟨c,_⟩:=cT.1 h
    rw[S_]at c;omega
   .split at h
    .obtain⟨c,_⟩:=cT.1 h
     rcases U_.1 c with c|c
     .exact j n c
     .rw[S_]at c;omega
    .cases h
 .unfold aW at h
  split at h
  .obtain⟨c,g⟩:=cT.1 h
   rw[S_]at c
   rw[c]at g |-;exact k g
  .split at h
   .obtain⟨c,g⟩:=cT.1 h
    rcases U_.1 c with c|c
    .unfold dN at c
     obtain⟨m,l,e⟩:=r_.1 c
     have:=C2.1 l
     omega
    .rcases J_.1 c with c|c
     .omega
     .rw[S_]at c
      rw[c]at g |-;exact k g
   .cases h
end
theorem aUn(σ:Ta_):∀(r:Int) (l:List VI),rwR σ r l=cnt σ r l l.length
 |r,[]=>rfl
 |r,x::l=>by rw[rwR,List.length_cons,cnt,aUn σ _ l]
theorem aDp(σ:Ta_):∀(r:Int) (l:List VI),r<=rwR σ r l/\rwR σ r l<=r+3*(l.length:Int)
 |r,[]=>by rw[rwR];simp
 |r,x::l=>by have b:=aDp σ (eH σ r x) l;have a:=aCf σ r x;rw[rwR,List.length_cons];omega
theorem lI(σ:Ta_):∀(r:Int) (l:List VI),l.length<=(bK σ r l).length/\(bK σ r l).length<=4*l.length
 |r,[]=>by simp[bK,rwM]
 |r,x::l=>by
  have a:=lI σ (eH σ r x) l;have c:=uO σ r x;have d:=jY σ r x;have b:=sT σ r x;unfold bK at a |-;rw[rwM,List.flatten_cons,H_,List.length_cons];have:(dR σ r x).length=(cE σ r x).length+1+(fE σ r x).length:=by unfold dR;simp;omega
  omega
theorem bDa(σ:Ta_)(L:Int):∀(r:Int) (l:List VI),(∀x∈l,x.op≠73/\x.op≠74)->oQ (plC σ r l) L=oQ l L
 |r,[],_=>rfl
 |r,x::l,h=>by
  have j:=bDa σ L (eH σ r x) l (fun y d=>h y (by simp[d]));have g:=h x B_;unfold oQ plC bK at *
  rw[rwM,List.flatten_cons,D0,H5,H_,E6];have a:((cE σ r x).map plI).filter (fun x=>decide (x.op=65)&&decide (x.lb=L))=[]:=by rw[H0];intro y d;obtain⟨z,i,rfl⟩:=r_.1 d;obtain⟨n,k,q,_,_,rfl⟩:=aL7 i;rw[(aJc q k).2.1];simp
  have f:((fE σ r x).map plI).filter (fun x=>decide (x.op=65)&&decide (x.lb=L))=[]:=by
   rcases lH σ r x with⟨e,_⟩|⟨q,k,e,_⟩;.rw[e];rfl
   .rw[e];have:plI (stI q k)=⟨64,0,q,0,0,0,.nil,[],.nil,[]⟩:=by unfold plI stI;simp
    simp[this]
  have b:plI (eP σ r x)=eP σ r x:=by unfold plI;rw[I_ (show ¬(eP σ r x).op=73 from g.1),I_ (show ¬(eP σ r x).op=74 from g.2)]
  have c:(((dR σ r x).map plI).filter (fun x=>decide (x.op=65)&&decide (x.lb=L))).length=if(decide (x.op=65)&&decide (x.lb=L))=true then 1 else 0:=by unfold dR;rw[D0,Q_,H5,a,E6,f,b];show(List.length (if(decide (x.op=65)&&decide (x.lb=L))=true then [eP σ r x]else []))=_;split<;>rfl
  rw[c];split;.rw[List.length_cons];omega
  .omega
section
variable {f:VF}(hb:qB f){σ:List Int}(hv:aDg σ)
include hb hv
theorem aJl{c e:Nat}(h:aF3 σ f.regs f.ins c e):cnt σ f.regs f.ins c+e<rwR σ f.regs f.ins:=by obtain⟨b,d⟩:=h;have a:=sS σ f.regs f.ins c b;rw[aUe]at a;have g:=aDl σ f.regs f.ins (c:=c+1) (c':=f.ins.length) A_ (L_ _);rw[aUn];omega
theorem bDb{c:Nat}(x:c<f.ins.length){n:Int}(g:n∈bN (eP σ (cnt σ f.regs f.ins c) (f.ins.getD c default))):0<=n/\n<rwR σ f.regs f.ins:=by
 have A:=bS x;have q:=(aJk hb A).2.1;have E:=(aDp σ f.regs f.ins).1;have D:=sP σ f.regs f.ins c;have z:=(pG hb).1.1;have s:∀m:Int,m∈bN (f.ins.getD c default)->0<=m/\m<rwR σ f.regs f.ins:=fun m l=>by have:=q m l;omega
 have p:∀m:Int,0<=m->m<f.regs->0<=low m/\low m<rwR σ f.regs f.ins:=fun m F G=>by unfold low;split<;>omega
 have v:=q (f.ins.getD c default).a (by unfold bN;simp);have o:=q (f.ins.getD c default).b (by unfold bN;simp);have r:∀e:Nat,e<(cE σ (cnt σ f.regs f.ins c) (f.ins.getD c default)).length+(fE σ (cnt σ f.regs f.ins c) (f.ins.getD c default)).length->0<=cnt σ f.regs f.ins c+e/\cnt σ f.regs f.ins c+e<rwR σ f.regs f.ins:=fun e y=>by have:=aJl hb hv (c:=c) (e:=e) ⟨x,y⟩;omega
 have t:n=(opA σ (cnt σ f.regs f.ins c) (f.ins.getD c default)).2.1\/n=(opB σ (cnt σ f.regs f.ins c) (f.ins.getD c default)).2.1\/n∈(f.ins.getD c default).us\/n=(opD σ (cnt σ f.regs f.ins c) (f.ins.getD c default)).1/\((f.ins.getD c default).op≠67\/0<=(opD σ (cnt σ f.regs f.ins c) (f.ins.getD c default)).1):=by
  unfold bN at g;rw[show(eP σ (cnt σ f.regs f.ins c) (f.ins.getD c default)).op=(f.ins.getD c default).op from rfl,show(eP σ (cnt σ f.regs f.ins c) (f.ins.getD c default)).d=(opD σ (cnt σ f.regs f.ins c) (f.ins.getD c default)).1 from rfl,show(eP σ (cnt σ f.regs f.ins c) (f.ins.getD c default)).a=(opA σ (cnt σ f.regs f.ins c) (f.ins.getD c default)).2.1 from rfl,show(eP σ (cnt σ f.regs f.ins c) (f.ins.getD c default)).b=(opB σ (cnt σ f.regs f.ins c) (f.ins.getD c default)).2.1 from rfl,show(eP σ (cnt σ f.regs f.ins c) (f.ins.getD c default)).us=(f.ins.getD c default).us from rfl]at g;rcases U_.1 g with g|g
  .rcases J_.1 g with g|g;.exact .inl g
   .rcases J_.1 g with g|g;.exact .inr (.inl g)
    .exact .inr (.inr (.inl g))
  .split at g;.rename_i h;exact .inr (.inr (.inr ⟨S_.1 g,h⟩))
   .cases g
 rcases t with e|e|e|⟨e,i⟩
 .rcases aJb σ (cnt σ f.regs f.ins c) (f.ins.getD c default)with⟨_,_,h3⟩|⟨j,hj,h3⟩|⟨_,h3⟩;.rw[e,h3];omega
  .rw[e,h3];exact r j A_
  .rw[e,h3];exact p _ v.1 v.2
 .rcases aUd σ (cnt σ f.regs f.ins c) (f.ins.getD c default)with⟨_,_,h3⟩|⟨j,hj,h3⟩|⟨_,h3⟩;.rw[e,h3];omega
  .rw[e,h3];exact r j A_
  .rw[e,h3];exact p _ o.1 o.2
 .exact s n (by unfold bN;exact G9 _ (L7 _ (L7 _ e)))
 .have C:=(jY σ (cnt σ f.regs f.ins c) (f.ins.getD c default)).1;have u:(f.ins.getD c default).op≠67\/0<=(f.ins.getD c default).d->0<=(f.ins.getD c default).d/\(f.ins.getD c default).d<f.regs:=fun h=>q _ (by unfold bN;rw[K_ h];simp);have mp:=r (cE σ (cnt σ f.regs f.ins c) (f.ins.getD c default)).length;rw[e];unfold fE at mp;unfold opD at i mp |-;by_cases l:(f.ins.getD c default).d∈aW (f.ins.getD c default)
  .rw[K_ l]at i mp |-;have w:0<(f.ins.getD c default).d:=by
    unfold aW at l;repeat' split at l
    .exact(cT.1 l).2
    .exact(cT.1 l).2
    .cases l
   cases hs:cC σ (f.ins.getD c default).d with
   |none=>have:=u (.inr A_);dsimp only;omega
   |some k =>rw[hs]at mp;dsimp only at mp |-;rw[C];exact mp B_
  .rw[I_ l]at i |-;dsimp only at i |-;by_cases h67:(f.ins.getD c default).op=67
   .rcases i with h|h;.exact absurd h67 h
    .by_cases w:0<=(f.ins.getD c default).d;.have:=u (.inr w);exact p _ this.1 this.2
     .unfold low at h;split at h<;>omega
   .have:=u (.inl h67);exact p _ this.1 this.2
theorem bDc:vL (rwR σ f.regs f.ins) f.sl f.nd f.pr (plC σ f.regs f.ins)=true:=by
 obtain⟨⟨R,L,U,W,Z⟩,_,b⟩:=pG hb;have v:=aCg hb;have P:=bPy hb;have hR:=(aDp σ f.regs f.ins).1;have d:(plC σ f.regs f.ins).length=(bK σ f.regs f.ins).length:=P_ _;have N:=(lI σ f.regs f.ins).1;unfold vL;simp only[O_,p_,D5];refine⟨⟨by omega,L,U,W,by omega⟩,?_,?_⟩
 .rw[q_];intro y I;obtain⟨k,H,rfl⟩:=H3 I;obtain⟨c,j,u,o,rfl⟩:=gG (by rw[<-d];exact H);have G:=sP σ f.regs f.ins c;have D:=bS u;have t:=aDi (σ:=σ) (r:=f.regs) u o;rw[b_,D_ H,Option.getD_some]at t;rw[t];have s:∀(op q a:Int),(op=69\/op=64)->0<=q/\q<rwR σ f.regs f.ins->0<=a/\a<rwR σ f.regs f.ins->¬qV (rwR σ f.regs f.ins) (plC σ f.regs f.ins) ⟨op,q,a,0,0,0,.nil,[],.nil,[]⟩=true:=fun op q a T F Y=>by
   have J:nG op 0=true:=by unfold nG;rw[V_ (p:=(26<=op/\op<=31)\/(64<=op/\op<=72)) A_,K9]
   have A:fQ ⟨op,q,a,0,0,0,.nil,[],.nil,[]⟩=false:=by unfold fQ;dsimp only;rw[Z_ A_,Z_ A_,Z_ A_];rfl
   have g:(bN ⟨op,q,a,0,0,0,.nil,[],.nil,[]⟩).any (nH (rwR σ f.regs f.ins))=false:=by rw[q_];intro n l;unfold bN at l;dsimp only at l;rw[K_ A_]at l;unfold nH;simp at l;rcases l with rfl|rfl|rfl<;>simp<;>omega
   unfold qV;rw[A,g];dsimp only;rw[J,K2];simp
  rcases oA (D_ o)with⟨hjp,_⟩|⟨hje,e⟩|⟨hje,q,w,hp,_,_,e⟩
  .obtain⟨n,k,_,_,e2⟩:=aUc (D_ hjp);have e3:(dR σ (cnt σ f.regs f.ins c) (f.ins.getD c default))[j]?=(cE σ (cnt σ f.regs f.ins c) (f.ins.getD c default))[j]? := by unfold dR;rw[W_ hjp]
   rw[D_ o,D_ hjp]at e3;rw[D9 e3,e2];have:=aJl hb hv (c:=c) (e:=j) ⟨u,by omega⟩;have i:plI (ldI (cnt σ f.regs f.ins c+j) k)=⟨69,cnt σ f.regs f.ins c+j,0,0,0,0,.nil,[],.nil,[]⟩:=by unfold plI ldI;simp
   rw[i];exact s 69 _ 0 (.inl rfl) A_ A_
  .rw[e,sQ v D];obtain⟨Q,b2,b3⟩:=aJk hb D;unfold qV;rw[show(eP σ (cnt σ f.regs f.ins c) (f.ins.getD c default)).op=(f.ins.getD c default).op from rfl,show(eP σ (cnt σ f.regs f.ins c) (f.ins.getD c default)).im=(f.ins.getD c default).im from rfl,show fQ (eP σ (cnt σ f.regs f.ins c) (f.ins.getD c default))=fQ (f.ins.getD c default) from rfl,show(eP σ (cnt σ f.regs f.ins c) (f.ins.getD c default)).lb=(f.ins.getD c default).lb from rfl,bDa σ _ _ _ v.ls,Q];have g:(bN (eP σ (cnt σ f.regs f.ins c) (f.ins.getD c default))).any (nH (rwR σ f.regs f.ins))=false:=by rw[q_];intro n l;have:=bDb hb hv u l;unfold nH;simp;omega
   rw[g];cases A:fQ (f.ins.getD c default)with
   |false=>rw[K2];simp
   |true=>rw[b3 A];decide
  .have F:=xK hp;rw[(jY σ (cnt σ f.regs f.ins c) (f.ins.getD c default)).1]at F;have:=aJl hb hv (c:=c) (e:=(cE σ (cnt σ f.regs f.ins c) (f.ins.getD c default)).length) ⟨u,by rw[hp];simp⟩;have i:plI (stI q w)=⟨64,0,q,0,0,0,.nil,[],.nil,[]⟩:=by unfold plI stI;simp
   rw[e,i];exact s 64 0 q (.inr rfl) A_ A_
 .obtain⟨m,E⟩:∃m,f.ins.length=m+1:=⟨f.ins.length-1,by omega⟩
  have h:m<f.ins.length:=A_;unfold aI5 at b |-;rw[E,N3,p_]at b;have z:=aL8 (σ:=σ) (r:=cnt σ f.regs f.ins m) (x:=f.ins.getD m default) A_;have C:(dR σ (cnt σ f.regs f.ins m) (f.ins.getD m default)).length=(cE σ (cnt σ f.regs f.ins m) (f.ins.getD m default)).length+1:=by unfold dR;rw[z];simp
  have V:=aDh (σ:=σ) (r:=f.regs) (ins:=f.ins) (c:=m) h;rw[<-E,aUb,C]at V;have o:(cE σ (cnt σ f.regs f.ins m) (f.ins.getD m default)).length<(dR σ (cnt σ f.regs f.ins m) (f.ins.getD m default)).length:=A_;have t:=aDi (σ:=σ) (r:=f.regs) h o;have e2:=aI8 σ (cnt σ f.regs f.ins m) (f.ins.getD m default);rw[D_ o]at e2;rw[D9 e2,sQ v (bS h)]at t;rw[d,show(bK σ f.regs f.ins).length-1=ofs σ f.regs f.ins m+(cE σ (cnt σ f.regs f.ins m) (f.ins.getD m default)).length by omega,t];exact V_ b
end
theorem aUo{x:VI}{O:Te_}{n i:Nat}(hi:i<n)(hO:(wlI 0 (O i)).length<=500){D:Ta_}(hD:D.length<=30)(J g:Tag)(x0 Y x2 V x5 x7 x13 x14 x15 x16 s u:TV):∀(k j:Nat) (S:aA) (l:Tf_) (c:Nat) (x11 x12 G m v o b e:TV),j+k=D.length->MpP S 0 l c ->∃(S':aA) (l':Tf_) (c':Nat) (hf A h8 hb hn h6 z y:TV),lp' (lim K) t34L1 [x0,Y,x2,V,.iv (.sl J (bF O n)),x5,.map 0,x7,j_ i,.lb ((aJ x).map .iv),.iv (.sl g (aZ D)),x11,x12,x13,x14,x15,x16,s,u,.iv (.sl g (aZ D)),j_ D.length,j_ j,G,m,v,o,b,e] S = .ret (.exit 2,[x0,Y,x2,V,.iv (.sl J (bF O n)),x5,.map 0,x7,j_ i,.lb ((aJ x).map .iv),.iv (.sl g (aZ D)),hf,A,x13,x14,x15,x16,s,u,.iv (.sl g (aZ D)),j_ D.length,j_ D.length,h8,hb,hn,h6,z,y],S')/\MpP S' 0 l' c'/\(∀p,eF l' p=true↔eF l p=true\/∃d∈D.drop j,aUh x d (wlI 0 (O i)++D) p)/\l'.length<=l.length+k*600/\bL [0] S S'
 |0,j,S,l,c,x11,x12,G,m,v,o,b,e,h,hm=>by
  obtain rfl:j=D.length:=A_;refine⟨S,l,c,x11,x12,z_,m,v,o,b,e,aE K _ _ t34L1.eq_1 ?_,hm,fun p=>?_,by omega,bL.refl _ _⟩;.simp(disch:=omega)only[go_sem]
  .rw[D7];exact⟨.inl,fun h=>by rcases h with h|⟨r,hr,_⟩;exact h;cases hr⟩
 |k+1,j,S,l,c,x11,x12,G,m,v,o,b,e,h,hm=>by
  have h0:j<D.length:=A_;have a:indexAddrS 1 (.iv (.sl g (aZ D))) (j:Int)=some (.iv (.cp [.int .i64 (D.getD j 0)])):=pO (f:=IV.int .i64) (t:=g) (l:=D) (i:=(j:Int)) A_;have R:=sU h0;have Z:indexAddrS 1 (.iv (.sl J (bF O n))) (i:Int)=some (.iv (.cp [.sl (iJ (aZ (wlI 0 (O i)))) (aZ (wlI 0 (O i)))])):=ixL (I:=O) (n:=n) hi J;let E:List (Tag×List Int):=[(iJ (aZ (wlI 0 (O i))),wlI 0 (O i)),(g,D)]
  have N:aDb E=wlI 0 (O i)++D:=by show wlI 0 (O i)++(D++[])=_;rw[A0]
  have w:vK E=(wlI 0 (O i)).length+D.length:=by show(wlI 0 (O i)).length+(D.length+0)=_;omega
  have H:=bCo E (by simp[E]) (by rw[w];omega) (by rw[w];omega) S;rw[N]at H;have h4:E.map mT=[[.sl (iJ (aZ (wlI 0 (O i)))) (aZ (wlI 0 (O i)))],[.sl g (aZ D)]]:=rfl;rw[h4]at H;have he:(wlI 0 (O i)++D).length<=1000:=by rw[H_];omega
  have ha:MpP (S++[.tok (wlI 0 (O i)++D).length 1 3]) 0 l c:=⟨aR hm.1 _,hm.2⟩
  obtain⟨S1,l1,c1,A,z,y,lp,h5,F,hc,U⟩:=aJf (x:=x) he (D.getD j 0) S.length x0 Y x2 V (.iv (.sl J (bF O n))) x5 x7 (j_ i) (.iv (.sl g (aZ D))) x13 x14 x15 x16 s u (.iv (.sl g (aZ D))) (j_ D.length) (j_ j) e_ (wlI 0 (O i)++D).length 0 _ l c x12 b e A_ ha;rw[n0_]at lp;rw[C4]at F;obtain⟨S',l',c',h7,hg,hh,hj,h9,h3,hp,hs,ih,ho,L,ht,Q⟩:=aUo (x:=x) hi hO hD J g x0 Y x2 V x5 x7 x13 x14 x15 x16 s u k (j+1) S1 l1 c1 (j_ (D.getD j 0)) A e_ (.tsl S.length (aZ (wlI 0 (O i)++D))) (.iv (.int .i64 (wlI 0 (O i)++D).length)) (.iv (.int .i64 (wlI 0 (O i)++D).length)) z y A_ h5;rw[show((j+1:Nat):Int)=(j:Int)+1 by omega]at ih;refine⟨S',l',c',h7,hg,hh,hj,h9,h3,hp,hs,aE K _ _ t34L1.eq_1 ?_,ho,fun p=>?_,?_,?_⟩
  .generalize D.getD j 0=d at *
   have T:=eG (wlI 0 (O i)++D);generalize hC:wlI 0 (O i)++D=C at *
   generalize bF O n=RL at *
   clear F L R;generalize wlI 0 (O i)=W at *
   simp(disch:=omega)only[go_sem,a,Z,H,T];rw[lp];simp(disch:=omega)only[go_sem,aC];exact X_ er ih
  .rw[L,F,R];constructor
   .rintro((a|a)|⟨d,P,a⟩);.exact .inl a
    .exact .inr ⟨_,N1,a⟩
    .exact .inr ⟨d,L7 _ P,a⟩
   .rintro(a|⟨d,P,a⟩);.exact .inl (.inl a)
    .rcases J_.1 P with rfl|P;.exact .inl (.inr a)
     .exact .inr ⟨d,P,a⟩
  .rw[H_]at hc;omega
  .refine⟨?_,fun q B hq hB=>Q.get q B hq (U.get q B hq (aR hB _))⟩;have a:=U.len;have h2:=Q.len;rw[H_]at a;omega
def bDd(x:VI)(p:Int×Int):Prop:=x.op=64/\x.a≠x.d/\x.a≠0/\x.d≠0/\p=prP x.a x.d
def mvS(S:aA)(x:VI)(m:List (Nat×(Int×Int)×Int))(cm:Nat):aA :=
 if x.op=64/\x.a≠x.d/\x.a≠0/\x.d≠0 then(S.set 1 (.mp (mpK en2 qT (fU m cm (prP x.a x.d) (zD m (prP x.a x.d)))) (aAr m cm (prP x.a x.d)))).set 1 (.mp (mpK en2 qT (fU m cm (prP x.a x.d) (IntKind.i64.wrap (zD m (prP x.a x.d)+1)))) (aAr m cm (prP x.a x.d)))else S
theorem bRi{S:aA}{x:VI}{m:Tf_}{c:Nat}(h:MpP S 1 m c):∃g i,MpP (mvS S x m c) 1 g i/\(∀p,eF g p=true↔eF m p=true\/bDd x p)/\g.length<=m.length+1/\∀q B,q≠1->S[q]?=some B->(mvS S x m c)[q]?=some B:=by
 unfold mvS;by_cases hc:x.op=64/\x.a≠x.d/\x.a≠0/\x.d≠0;.rw[K_ hc];refine⟨_,_,⟨aM (by simpa using aN h.1) _,h.2.put _ _⟩,fun p=>?_,aBz ..,fun q B j f=>by rw[aB (B0 j),aB (B0 j)];exact f⟩;rw[aPn,D3,p_];exact⟨fun b=>b.elim (fun e=>.inr ⟨hc.1,hc.2.1,hc.2.2.1,hc.2.2.2,e.symm⟩) .inl,fun b=>b.elim .inr (fun e=>.inl e.2.2.2.2.symm)⟩
 .rw[I_ hc];exact⟨m,c,h,fun p=>⟨.inl,fun b=>b.elim id (fun e=>absurd ⟨e.1,e.2.1,e.2.2.1,e.2.2.2.1⟩ hc)⟩,by omega,fun q B _ f=>f⟩
theorem aUp{ti:Tag}{ins:List VI}(hn:ins.length<=1000){O:Te_}(hO:∀i,i<ins.length->(wlI 0 (O i)).length<=500)(tO:Tag)(x0 x1 x2 x3 x5 x13:TV):∀(k i:Nat) (S:aA) (l:Tf_) (c:Nat) (m:Tf_) (Q:Nat) (x8 x9 x10 x11 x12 T E D H G y o v r s u:TV),i+k=ins.length->MpP S 0 l c->MpP S 1 m Q ->∃(S':aA) (l':Tf_) (c':Nat) (m':Tf_) (h7:Nat) (y8 y9 hk h5 Y hu hl ho gb hp Z h0 h8 U W R:TV),lp' (lim K) t34L2 [x0,x1,x2,x3,.iv (.sl tO (bF O ins.length)),x5,.map 0,.map 1,x8,x9,x10,x11,x12,x13,.iv (.sl ti (ins.map aJ)),j_ ins.length,j_ (i:Int),T,E,D,H,G,y,o,v,r,s,u] S = .ret (.exit 0,[x0,x1,x2,x3,.iv (.sl tO (bF O ins.length)),x5,.map 0,.map 1,y8,y9,hk,h5,Y,x13,.iv (.sl ti (ins.map aJ)),j_ ins.length,j_ ins.length,hu,hl,ho,gb,hp,Z,h0,h8,U,W,R],S')/\MpP S' 0 l' c'/\MpP S' 1 m' h7/\(∀p,eF l' p=true↔eF l p=true\/∃q,i<=q/\q<ins.length/\bCw (ins.getD q default) (wlI 0 (O q)) p)/\(∀p,eF m' p=true↔eF m p=true\/∃q,i<=q/\q<ins.length/\bDd (ins.getD q default) p)/\l'.length<=l.length+k*18000/\m'.length<=m.length+k
 |0,i,S,l,c,m,Q,x8,x9,x10,x11,x12,T,E,D,H,G,y,o,v,r,s,u,h,hm,hmm=>by obtain rfl:i=ins.length:=A_;refine⟨S,l,c,m,Q,x8,x9,x10,x11,x12,z_,E,D,H,G,y,o,v,r,s,u,aE K _ _ t34L2.eq_1 ?_,hm,hmm,fun p=>⟨.inl,fun h=>h.elim id (fun⟨q,n,I,_⟩=>A_)⟩,fun p=>⟨.inl,fun h=>h.elim id (fun⟨q,n,I,_⟩=>A_)⟩,by omega,by omega⟩;simp(disch:=omega)only[go_sem]
 |k+1,i,S,l,c,m,Q,x8,x9,x10,x11,x12,T,E,D,H,G,y,o,v,r,s,u,h,hm,hmm=>by
  have C:i<ins.length:=A_;have j:=jF (w:=8) (f:=aJ) iF (t:=ti) (l:=ins) (i:=(i:Int)) A_;rw[Int.toNat_natCast,dH]at j;obtain⟨t',_,h6⟩:=aP4 (ins.getD i default);rw[dH]at h6;have A:=eG (aW (ins.getD i default));have L:=zG (ins.getD i default);obtain⟨m1,hg,he,N,gk,gd⟩:=bRi (x:=ins.getD i default) hmm;have hh:MpP (mvS S (ins.getD i default) m Q) 0 l c:=⟨gd 0 _ C_ hm.1,hm.2⟩
  have P:=fun(x11 x12 y o v r s u:TV) (b18:Bool)=>aUo (x:=ins.getD i default) C (hO i C) L tO t' x0 x1 x2 x3 x5 (.map 1) x13 (.iv (.sl ti (ins.map aJ))) (j_ ins.length) (j_ (i:Int)) e_ (.iv (.bool b18)) (aW (ins.getD i default)).length 0 (mvS S (ins.getD i default) m Q) l c x11 x12 y o v r s u A_ hh;obtain⟨S1,l1,c1,h5,Y,Z,h0,h8,U,W,R,lp,hs,V,gj,ge⟩:=P x11 x12 y o v r s u (decide ((ins.getD i default).op=64/\(ins.getD i default).a≠(ins.getD i default).d/\(ins.getD i default).a≠0/\(ins.getD i default).d≠0));rw[n0_]at lp;rw[C4]at V;have ha:MpP S1 1 m1 hg:=⟨ge.get 1 _ B_ he.1,he.2⟩
  obtain⟨S',l',c',m',h7,z8,z9,g3,hv,g4,hr,g7,ga,gf,gg,g5,g8,hz,hq,g9,gi,z,hb,hf,hj,hi,g6,hw⟩:=aUp (ti:=ti) hn hO tO x0 x1 x2 x3 x5 x13 k (i+1) S1 l1 c1 m1 hg (j_ (i:Int)) (.lb ((aJ (ins.getD i default)).map .iv)) (.iv (.sl t' (aZ (aW (ins.getD i default))))) h5 Y e_ (.iv (.bool (decide ((ins.getD i default).op=64/\(ins.getD i default).a≠(ins.getD i default).d/\(ins.getD i default).a≠0/\(ins.getD i default).d≠0)))) (.iv (.sl t' (aZ (aW (ins.getD i default))))) (.iv (.int .i64 (aW (ins.getD i default)).length)) (.iv (.int .i64 (aW (ins.getD i default)).length)) Z h0 h8 U W R A_ hs ha;rw[show((i+1:Nat):Int)=(i:Int)+1 by omega,aY]at z;rw[aY]at lp;refine⟨S',l',c',m',h7,z8,z9,g3,hv,g4,hr,g7,ga,gf,gg,g5,g8,hz,hq,g9,gi,aE K _ _ t34L2.eq_1 ?_,hb,hf,fun p=>?_,fun p=>?_,?_,by omega⟩
  .clear V hj hi gj g6 hw N hh ha hb hf P;have g:TM.Pure K 43 [.iv (.agg [.int .i64 (ins.getD i default).op,.int .i64 (ins.getD i default).d,.int .i64 (ins.getD i default).a,.int .i64 (ins.getD i default).b,.int .i64 (ins.getD i default).im,.int .i64 (ins.getD i default).lb,.sl (ins.getD i default).tu (TM.one (.int .i64) (ins.getD i default).us),.sl (ins.getD i default).tm (TM.one (.int .i64) (ins.getD i default).mp)])] (.iv (.sl t' (aZ (aW (ins.getD i default))))):=h6;clear h6;have ht:=aQb (ins.getD i default).a (ins.getD i default).d;unfold mvS at lp;generalize aW (ins.getD i default)=DD at *
   generalize hx:ins.getD i default=x at *
   generalize bF O ins.length=RL at *
   by_cases hc:x.op=64/\x.a≠x.d/\x.a≠0/\x.d≠0
   .rw[K_ hc,V_ hc]at lp;rw[V_ hc]at z;obtain⟨F,p2,p3,p4⟩:=hc;obtain⟨h9,hy⟩:=hmm;have gc:=es2 hy (aAr m Q (prP x.a x.d));have gh:=aN h9;have g1:∀b,(S.set 1 b)[1]?=some b:=fun b=>aM gh b;have g2:=aG9 m Q (prP x.a x.d) (zD m (prP x.a x.d));generalize prP x.a x.d=pd at *
    obtain⟨pa,pb⟩:=pd;dsimp only at *
    rw[F]at lp z g j;simp(disch:=omega)only[go_sem,j,p2,p3,p4,aD ht,h9,g1,gc,g2,aD g,A,ne_eq,Q1,C8];rw[lp];simp(disch:=omega)only[go_sem,aC];exact X_ er z
   .rw[I_ hc,Z_ hc]at lp;rw[Z_ hc]at z;rcases(by omega:x.op≠64\/(x.op=64/\x.a=x.d)\/(x.op=64/\x.a≠x.d/\x.a=0)\/(x.op=64/\x.a≠x.d/\x.a≠0/\x.d=0))with F|⟨F,p2⟩|⟨F,p2,p3⟩|⟨F,p2,p3,p4⟩;.simp(disch:=omega)only[go_sem,j,F,aD g,A];rw[lp];simp(disch:=omega)only[go_sem,aC];exact X_ er z
    .rw[F,p2]at lp z g j;simp(disch:=omega)only[go_sem,j,aD g,A,ne_eq,Q1,C8];rw[lp];simp(disch:=omega)only[go_sem,aC];exact X_ er z
    .rw[p3]at p2;rw[F,p3]at lp z g j;simp(disch:=omega)only[go_sem,j,p2,aD g,A,ne_eq,Q1,C8];rw[lp];simp(disch:=omega)only[go_sem,aC];exact X_ er z
    .rw[p4]at p2;rw[F,p4]at lp z g j;simp(disch:=omega)only[go_sem,j,p2,p3,aD g,A,ne_eq,Q1,C8];rw[lp];simp(disch:=omega)only[go_sem,aC];exact X_ er z
  .rw[hj,V];constructor
   .rintro((n|⟨d,hd,n⟩)|⟨q,n,I,J⟩);.exact .inl n
    .exact .inr ⟨i,L_ _,C,d,hd,n⟩
    .exact .inr ⟨q,by omega,I,J⟩
   .rintro(n|⟨q,n,I,J⟩);.exact .inl (.inl n)
    .by_cases e:q=i;.subst e;obtain⟨d,hd,h4⟩:=J;exact .inl (.inr ⟨d,hd,h4⟩)
     .exact .inr ⟨q,by omega,I,J⟩
  .rw[hi,N];constructor
   .rintro((n|n)|⟨q,n,I,J⟩);.exact .inl n
    .exact .inr ⟨i,L_ _,C,n⟩
    .exact .inr ⟨q,by omega,I,J⟩
   .rintro(n|⟨q,n,I,J⟩);.exact .inl (.inl n)
    .by_cases e:q=i;.subst e;exact .inl (.inr J)
     .exact .inr ⟨q,by omega,I,J⟩
  .have:=D4 100 L;omega
def aAw(ks:List (Int×Int)):List (List IV):=ks.map fun p=>[.int .i64 p.1,.int .i64 p.2]
def aQc(ks:List (Int×Int)):Tag:=if ks=[]then .nil else .no
theorem aUq:∀a:List (Int×Int),cN 2 a.length ((gQ a).map (IV.int .i64))=aAw a
 |[]=>rfl
 |x::r=>by rw[List.length_cons,gQ,Q_,Q_,cN];simp only[List.take_succ_cons,List.take_zero,I7,C4,aUq r];rfl
theorem aQd{S:aA}{j:Nat}{a:Tb_}(h:S[j]?=some (.cells (a.length-1) true (mU a))):cH S (.msl j (a.length-1) 0 a.length a.length 2)=some (aAw a):=by
 have b:sub (mU a) 0 (a.length*2)=some (mU a):=mE (xL a);have c:toIVs (mU a)=some ((gQ a).map (IV.int .i64)):=by
  have:mU a=((gQ a).map (IV.int .i64)).map TV.iv:=by unfold mU;rw[L6];rfl
  rw[this,fL]
 simp only[cH,h,ne_eq,C8,I5,b,c,Option.map_some,aUq]
structure nK (Q:Int×Int->Prop) (E:List (Int×Int)):Prop where
 inc:E.Pairwise ltq
 mem:∀p,p∈E↔Q p
theorem aMd{l:Tf_}{c:Nat}(a:fD l c){Q:Int×Int->Prop}(h:∀p,eF l p=true↔Q p):nK Q (gR (l.map (·.2.1))) :=
 ⟨bCu a.keys,fun p=>by rw[(kF _).mem_iff,<-aFy];exact h p⟩
theorem bDe:∀(l:Tb_) (f e:Int),l.Pairwise ltq->(∀p∈l,f<=p.1*1000+p.2/\p.1*1000+p.2<e/\0<=p.2/\p.2<1000)->f<=e->(l.length:Int)<=e-f
 |[],f,e,_,_,h=>by simp;omega
 |p::r,f,e,h1,h2,h3=>by have a:=h2 p (N1 ..);have b:=bDe r (p.1*1000+p.2+1) e (E3.1 h1).2 (fun q g=>by have c:=(E3.1 h1).1 q g;have d:=h2 q (L7 _ g);unfold ltq at c;omega) A_;rw[List.length_cons];omega
theorem xP{rg:Int}(d:rg<=1000){E:Tb_}(c:E.Pairwise ltq)(b:∀p∈E,InP rg p):E.length<=1000000:=by have:=bDe E 0 1000000 c (fun p a=>by have:=b p a;unfold InP at this;omega) A_;omega
theorem bRj{fn rg sl nd pr:Int}{rs:Bool}{ti:Tag}{ins:List VI}(hn:ins.length<=1000)(n:rg<=1000){O:Te_}(hO:∀i,i<ins.length->(wlI 0 (O i)).length<=500)(F:∀p,pF ins (fun i=>wlI 0 (O i)) p->InP rg p)(y:∀p,sR ins p->InP rg p) (w:TM.Pure K 13 [.iv (.agg (kN fn rg sl nd pr rs ti ins))] (.tup [.iv (.sl (iJ (bF O ins.length)) (bF O ins.length)),j_ 0])): gP K 34 [.iv (.agg (kN fn rg sl nd pr rs ti ins))] fun v=>∃E M,v=.tup [.iv (.agg [.int .i64 rg,.sl (aQc E) (aAw E),.sl (aQc M) (aAw M)]),j_ 0]/\nK (pF ins fun i=>wlI 0 (O i)) E/\nK (sR ins) M:=by
 obtain⟨S',l',c',G,h5,y8,y9,L,h4,V,T,N,P,h7,Q,W,Z,h6,R,U,J,lp,g,d,x,C,h8,h0⟩:=aUp (ti:=ti) (ins:=ins) A_ hO (iJ (bF O ins.length)) (.iv (.agg (kN fn rg sl nd pr rs ti ins))) (.lb [j_ fn,j_ rg,j_ sl,j_ nd,j_ pr,.iv (.bool rs),.iv (.sl ti (ins.map aJ))]) (.lb [j_ 0,k_,k_]) (j_ 0) (j_ 0) z_ ins.length 0 [.mp [] 0,.mp [] 0] [] 0 [] 0 u_ u_ u_ u_ u_ u_ u_ u_ u_ u_ u_ u_ u_ u_ u_ u_ A_ ⟨rfl,fD.nil 0⟩ ⟨rfl,fD.nil 0⟩;rw[n0_]at lp;have u:nK (pF ins fun i=>wlI 0 (O i)) (gR (l'.map (·.2.1))):=aMd g.2 fun p=>by rw[x];exact⟨fun h=>h.elim (fun h=>by cases h) (fun⟨q,_,h2,h3⟩=>⟨q,h2,h3⟩),fun⟨q,h2,h3⟩=>.inr ⟨q,I8 _,h2,h3⟩⟩
 have D:nK (sR ins) (gR (G.map (·.2.1))):=aMd d.2 fun p=>by rw[C];exact⟨fun h=>h.elim (fun h=>by cases h) (fun⟨q,_,h2,h3⟩=>⟨q,h2,h3⟩),fun⟨q,h2,h3⟩=>.inr ⟨q,I8 _,h2,h3⟩⟩
 have o:(ins.map aJ).length=ins.length:=P_ _;have a:=xP n u.inc fun p z=>F p ((u.mem p).1 z);have b:=xP n D.inc fun p z=>y p ((D.mem p).1 z);rw[zL,P_]at a b;have Y:=bC0 g.2 a g.1;unfold gP;unfold kN at *
 refine dG K _ (fn:=t34) rfl rfl ?_;generalize hks1:l'.map (·.2.1)=k1 at *
 generalize hks2:G.map (·.2.1)=k2 at *
 simp(disch:=omega)only[t34,go_sem,aD w,o];rw[lp];simp(disch:=omega)only[go_sem];refine fG Y ?_;rintro v S1 ⟨a1,t,rfl,r1⟩;have j:=a1 1 _ (aN d.1) d.1;have A:=bC0 d.2 b j;rw[hks2]at A;generalize hq1:gR k1=q1 at *
 generalize hq2:gR k2=q2 at *
 have fin:∀(S2:aA) (e:Nat),aDo S2 t q1->aDo S2 e q2->∀r:TV×aA,(r.1=.tup [(if q1=[]/\q2=[]then .iv (.agg [.int .i64 rg,.sl .nil [],.sl .nil []])else .agg [j_ rg,zK t q1,zK e q2]),j_ 0]/\r.2=S2)->∃v,TM.resolve r.2 r.1=some v/\∃E M,v=.tup [.iv (.agg [.int .i64 rg,.sl (aQc E) (aAw E),.sl (aQc M) (aAw M)]),j_ 0]/\nK (pF ins fun i=>wlI 0 (O i)) E/\nK (sR ins) M:=by
  rintro S2 e s b2 ⟨r,_⟩ ⟨I,rfl⟩;dsimp only at I;subst I;refine⟨_,?_,q1,q2,rfl,u,D⟩;by_cases a:q1=[]
  .by_cases b:q2=[]
   .rw[K_ ⟨a,b⟩,a,b];rfl
   .have e2:=aQd (b2 b);rw[I_ (fun h=>b h.2),a,gH,dK _ b];unfold aQc;rw[I_ b];simp(disch:=omega)only[go_sem,e2];rfl
  .have H:=aQd (s a);by_cases b:q2=[]
   .rw[I_ (fun h=>a h.1),b,gH,dK _ a];unfold aQc;rw[I_ a];simp(disch:=omega)only[go_sem,H];rfl
   .have e2:=aQd (b2 b);rw[I_ (fun h=>a h.1),dK _ a,dK _ b];unfold aQc;rw[I_ a,I_ b];simp(disch:=omega)only[go_sem,H,e2]
 by_cases a:q1=[]
 .rw[a,gH];simp(disch:=omega)only[go_sem];refine fG A ?_;rintro v S2 ⟨a2,e,rfl,f⟩;dsimp only at a2 f;rw[hq2]at f |-;by_cases b:q2=[]
  .rw[b,gH];simp(disch:=omega)only[go_sem];refine bG (fin S2 e (fun h=>absurd a h) f _ ⟨?_,rfl⟩);rw[K_ ⟨a,b⟩]
  .rw[dK _ b];simp(disch:=omega)only[go_sem];refine bG (fin S2 e (fun h=>absurd a h) f _ ⟨?_,rfl⟩);rw[I_ (fun h=>b h.2),a,gH,dK _ b]
 .have s:=r1 a;rw[dK _ a];simp(disch:=omega)only[go_sem];refine fG A ?_;rintro v S2 ⟨a2,e,rfl,f⟩;dsimp only at a2 f;rw[hq2]at f |-;have k:aDo S2 t q1:=fun h=>a2 t _ (aN s) s;by_cases b:q2=[]
  .rw[b,gH];simp(disch:=omega)only[go_sem];refine bG (fin S2 e k f _ ⟨?_,rfl⟩);rw[I_ (fun h=>a h.1),b,gH,dK _ a]
  .rw[dK _ b];simp(disch:=omega)only[go_sem];refine bG (fin S2 e k f _ ⟨?_,rfl⟩);rw[I_ (fun h=>a h.1),dK _ a,dK _ b]
def iQ(p:Int×Int):List IV:=[.int .i64 p.1,.int .i64 p.2]
theorem bRk(n:Nat)(f:Nat->TV):cF n f++[f n]=cF (n+1) f:=by simp[cF,N4]
theorem aMe{n:Nat}{f g:Nat->TV}(h:∀i,i<n->f i=g i):cF n f=cF n g:=by apply R9;intro i a;exact h i (C2.1 a)
theorem fR{j v n:Nat}{r:Nat}(h:r<n):indexAddrS 1 (.msl j v 0 n n 1) (r:Int)=some (.ptr j v r):=by rw[aLk A_,Int.toNat_natCast,A9]
def nI(v:Nat):TV:=.iv (.int .i64 v)
def mF(S:aA)(i n:Nat)(f:Nat->Bool):Prop :=
 ∃l c,S[i]?=some (.mp (mpR vI l) c)/\gB l c/\∀t:Int,cB l t=true↔∃s:Nat,t=s/\s<n/\f s=true
structure Pn where
 n:Nat
 tE:Tag
 E:List (Int×Int)
 tM:Tag
 M:List (Int×Int)
 near:Nat->Nat->Bool
 own:Nat->Nat->Bool
 to:Nat->Nat
 out:Nat->Int
structure Ad where
 ip:Nat
 jn:Nat
 vn:Nat
 jo:Nat
 vo:Nat
 jt:Nat
 vt:Nat
 ju:Nat
 nm:Nat->Nat
 om:Nat->Nat
def dL(a:Ad)(p:Pn):List TV:=[.iv (.int .i64 p.n),.iv (.sl p.tE (p.E.map iQ)),.iv (.sl p.tM (p.M.map iQ)),.msl a.jn a.vn 0 p.n p.n 1,.msl a.jo a.vo 0 p.n p.n 1,.msl a.jt a.vt 0 p.n p.n 1,.msl a.ju 0 0 p.n p.n 1]
structure PT (S:aA) (a:Ad) (p:Pn):Prop where
 blk:S[a.ip]?=some (.cells 106 false (dL a p))
 near:S[a.jn]?=some (.cells a.vn true (cF p.n fun r=>.map (a.nm r)))
 own:S[a.jo]?=some (.cells a.vo true (cF p.n fun r=>.map (a.om r)))
 to:S[a.jt]?=some (.cells a.vt true (cF p.n fun r=>nI (p.to r)))
 out:S[a.ju]?=some (.cells 0 false (cF p.n fun r=>vI (p.out r)))
 nmap:∀r,r<p.n->mF S (a.nm r) p.n (p.near r)
 omap:∀r,r<p.n->mF S (a.om r) p.n (p.own r)
 ninj:∀r s,r<p.n->s<p.n->a.nm r=a.nm s->r=s
 oinj:∀r s,r<p.n->s<p.n->a.om r=a.om s->r=s
 dis:∀r s,r<p.n->s<p.n->a.nm r≠a.om s
 nd:[a.ip,a.jn,a.jo,a.jt,a.ju].Nodup
def Ad.own(a:Ad):List Nat:=[a.ip,a.jn,a.jo,a.jt,a.ju]
structure KpG (a:Ad) (S S':aA):Prop where
 len:S.length<=S'.length
 get:∀i b,S[i]?=some b->i∉a.own->(∀es c,b≠.mp es c)->S'[i]?=some b
theorem KpG.trans{a b:Ad}{S S' S'':aA}(h:KpG a S S')(g:KpG b S' S'')(e:b.own=a.own):KpG a S S'' :=
 ⟨C0 h.len g.len,fun i x f d c=>g.get i x (h.get i x f d c) (by rw[e];exact d) c⟩
theorem KpG.of{a:Ad}{S S':aA}(h:bL [] S S'):KpG a S S':=⟨h.len,fun i b c _ _=>h.get i b B_ c⟩
theorem mF.keep{S S':aA}{i n:Nat}{f:Tj_}{I:Tc_}(h:mF S i n f)(k:bL I S S')(d:i∉I):mF S' i n f:=by obtain⟨l,c,a,b,e⟩:=h;exact⟨l,c,k.get _ _ d a,b,e⟩
theorem PT.keep{S S':aA}{a:Ad}{p:Pn}(h:PT S a p)(k:bL [] S S'):PT S' a p :=
 ⟨k.get _ _ B_ h.blk,k.get _ _ B_ h.near,k.get _ _ B_ h.own,k.get _ _ B_ h.to,k.get _ _ B_ h.out,
  fun r b=>(h.nmap r b).keep k B_,fun r b=>(h.omap r b).keep k B_,h.ninj,h.oinj,h.dis,h.nd⟩
theorem bO{S:aA}{i j:Nat}{a b:aG}(h:S[i]?=some a)(g:S[j]?=some b)(c:a≠b):i≠j:=by rintro rfl;rw[h]at g;exact c (D9 g)
theorem PT.nmo{S:aA}{a:Ad}{p:Pn}(h:PT S a p){i n:Nat}{f:Tj_}(d:mF S i n f):i∉a.own:=by obtain⟨l,c,b,_,_⟩:=d;simp only[Ad.own,J_,D1,H2,G6];exact⟨bO b h.blk B_,bO b h.near B_,bO b h.own B_,bO b h.to B_,bO b h.out B_⟩
def deg(n:Nat)(f:Nat->Bool):Nat:=((List.range n).filter f).length
theorem aHa{α:Type}[DecidableEq α]{l m:List α}(a:l.Nodup)(b:m.Nodup)(h:∀x,x∈l↔x∈m):l.length=m.length :=
 ((U3 a b).2 h).length_eq
theorem sV{α:Type}{l:List (Nat×Int×α)}{c n:Nat}{f:Tj_}(j:gB l c)(i:∀t:Int,cB l t=true↔∃s:Nat,t=s/\s<n/\f s=true):l.length=deg n f:=by
 have d:(l.map (·.2.1)).length=(((List.range n).filter f).map fun s:Nat=>(s:Int)).length:=by
  refine aHa j.keys ?_ fun x=>?_;.exact V3 _ (fun a b h e=>h A_) (Q6.filter f)
  .rw[<-oP,i x];simp only[r_,B5,C2];constructor;.rintro⟨s,rfl,d,g⟩;exact⟨s,⟨d,g⟩,rfl⟩
   .rintro⟨s,⟨d,g⟩,rfl⟩;exact⟨s,rfl,d,g⟩
 simpa[deg] using d
theorem bLl(l:Td_)(c:Nat)(k:Int):lkB (.leaf .int) (.int .i64 0) true (some (.mp (mpR vI l) c)) (j_ k)=some (.tup [j_ (lT l k),.iv (.bool (cB l k))]):=by rw[aAo];simp only[lT,cB];cases dI l k<;>rfl
attribute [go_sem] dQ bLl bCq
theorem mF.put{S:aA}{i n:Nat}{f:Tj_}{l:Td_}{c:Nat}(d:S[i]?=some (.mp (mpR vI l) c))(j:gB l c)(m:∀t:Int,cB l t=true↔∃s:Nat,t=s/\s<n/\f s=true)(k:Nat)(g:k<n)(o:n<=1000000000)(v:Int): mF (S.set i (.mp (mpR vI (gT l c k v)) (rV l c k))) i n (upd f k true):=by
 refine⟨_,_,aM (aN d) _,j.put A_ v,fun t=>?_⟩;rw[bJh,D3,m t];constructor
 .rintro(h|⟨s,h,b,a⟩);.exact⟨k,by simpa using(I6 h).symm,g,bU ..⟩
  .refine⟨s,h,b,?_⟩;unfold upd;split;.rfl
   .exact a
 .rintro⟨s,h,b,a⟩;unfold upd at a;split at a;.rename_i e;left;simp[h,e]
  .right;exact⟨s,h,b,a⟩
def kH(c:Int):Bool:=decide (1<=c)&&decide (c<=24)
theorem aJm(c:Int):Pure K 87 [j_ c] (.iv (.bool (kH c))):=by
 refine aT t87 rfl rfl ?_;simp(disch:=omega)only[t87,go_sem];repeat' (first|(first|refine aLa (fun h=>?_) (fun h=>?_)|refine aLb (fun h=>?_) (fun h=>?_)|refine aLc (fun h=>?_) (fun h=>?_)|refine aSk (fun h=>?_) (fun h=>?_))|simp(disch:=omega)only[go_sem])
 all_goals (simp[kH, *])
def hiF(p:Pn)(r:Nat):Bool:=decide (r<32)||decide (24<=deg p.n (p.near r))
theorem aMf{S:aA}{j c:Nat}{l:Td_}(h:S[j]?=some (.mp (mpR vI l) c)):sI .mp S (.map j)=some (j_ l.length):=by show(if zS (.map j)=.mp then(lenOf S (.map j)).map fun(n:Nat)=>TV.iv (.int .i64 n)else none)=_;simp only[zS,lenOf,h,aLn,↓reduceIte,Option.map_some]
theorem aJn{S:aA}{a:Ad}{p:Pn}(h:PT S a p)(r:Nat)(e:r<p.n):(lim K).call 119 [.ptr a.ip 106 0,j_ r] S=.ret (.iv (.bool (hiF p r)),S):=by
 obtain⟨l,c,k,o,q⟩:=h.nmap r e;have b:=h.blk;have g:=h.near;have m:=sV o q;have d:=aMf k;have i:=fR (j:=a.jn) (v:=a.vn) e;have f:=dO (fun r=>TV.map (a.nm r)) e;rw[m]at d;unfold dL at b;refine aI K _ (fn:=t119) rfl rfl ?_;unfold hiF;by_cases h32:r<32;.simp(disch:=omega)only[t119,go_sem,h32,F4]
 .by_cases h24:24<=deg p.n (p.near r);.simp(disch:=omega)only[t119,go_sem,b,g,i,f,d,h24]
  .simp(disch:=omega)only[t119,go_sem,b,g,i,f,d,h24]
theorem PT.setN{S:aA}{a:Ad}{p:Pn}(h:PT S a p){r:Nat}(i:r<p.n){b:aG}{f:Tj_}(t:mF (S.set (a.nm r) b) (a.nm r) p.n f):PT (S.set (a.nm r) b) a {p with near:=upd p.near r f}:=by
 have o:=h.nmo (h.nmap r i);simp only[Ad.own,J_,D1,H2,G6]at o;obtain⟨w,u,q,v,x⟩:=o;refine⟨?_,?_,?_,?_,?_,fun s d=>?_,fun s d=>?_,h.ninj,h.oinj,h.dis,h.nd⟩;.rw[aB (B0 (B0 w))];exact h.blk
 .rw[aB (B0 (B0 u))];exact h.near
 .rw[aB (B0 (B0 q))];exact h.own
 .rw[aB (B0 (B0 v))];exact h.to
 .rw[aB (B0 (B0 x))];exact h.out
 .by_cases e:s=r;.subst e;simpa[bU] using t
  .have g:a.nm r≠a.nm s:=fun e2=>e (h.ninj _ _ i d e2).symm;obtain⟨l,c,j,k,m⟩:=h.nmap s d;simp only[cZ _ _ e];exact⟨l,c,by rw[aB g];exact j,k,m⟩
 .obtain⟨l,c,j,k,m⟩:=h.omap s d;exact⟨l,c,by rw[aB (h.dis r s i d)];exact j,k,m⟩
theorem PT.setO{S:aA}{a:Ad}{p:Pn}(h:PT S a p){i:Nat}{b o:aG}(j:S[i]?=some b)(m:i∉a.own)(k:∀es c,b≠.mp es c):PT (S.set i o) a p:=by
 simp only[Ad.own,J_,D1,H2,G6]at m;obtain⟨t,q,n,r,u⟩:=m;refine⟨?_,?_,?_,?_,?_,fun s e=>?_,fun s e=>?_,h.ninj,h.oinj,h.dis,h.nd⟩;.rw[aB t];exact h.blk
 .rw[aB q];exact h.near
 .rw[aB n];exact h.own
 .rw[aB r];exact h.to
 .rw[aB u];exact h.out
 .obtain⟨l,c,d,f,g⟩:=h.nmap s e;exact⟨l,c,by rw[aB (bO j d (k _ _))];exact d,f,g⟩
 .obtain⟨l,c,d,f,g⟩:=h.omap s e;exact⟨l,c,by rw[aB (bO j d (k _ _))];exact d,f,g⟩
theorem PT.nit{S:aA}{a:Ad}{p:Pn}(h:PT S a p){i:Nat}{m:Option Nat}{x:Nat}{y:Tc_}{z:Nat}(b:S[i]?=some (.mit m x y z)):i∉a.own:=by simp only[Ad.own,J_,D1,H2,G6];exact⟨bO b h.blk B_,bO b h.near B_,bO b h.own B_,bO b h.to B_,bO b h.out B_⟩
theorem PT.setIt{S:aA}{a:Ad}{p:Pn}(h:PT S a p){i:Nat}{m:Option Nat}{x:Nat}{y:Tc_}{z:Nat}(c:S[i]?=some (.mit m x y z))(d:aG):PT (S.set i d) a p :=
 h.setO c (h.nit c) B_
def aXd(f:Nat->Nat->Bool)(x y:Nat):Nat->Nat->Bool:=upd (upd f x (upd (f x) y true)) y (upd (f y) x true)
theorem aUr(f:Ti_){x y:Nat}(h:x≠y)(r t:Nat):aXd f x y r t=(f r t||(decide (r=x/\t=y)||decide (r=y/\t=x))):=by
 unfold aXd upd;by_cases h1:r=y
 .subst h1;by_cases h2:t=x;.simp[h2,B0 h]
  .simp[h2,B0 h]
 .by_cases h2:r=x
  .subst h2;by_cases h3:t=y;.simp[h1,h3]
   .simp[h1,h3]
  .simp[h1,h2]
theorem bDf{S:aA}{a:Ad}{p:Pn}(h:PT S a p)(t:p.n<=1000000000){x y:Nat}(d:x<p.n)(b:y<p.n)(f:x≠y): ∃S',(lim K).call 88 [.ptr a.ip 106 0,j_ x,j_ y] S=.ret (u_,S')/\PT S' a {p with near:=aXd p.near x y}/\bL [a.nm x,a.nm y] S S':=by obtain⟨l,c,u,F,G⟩:=h.nmap x d;have A:=mF.put u F G y b t (IntKind.i64.wrap (lT l y+1));have k:=h.setN d A;have w:a.nm x≠a.nm y:=fun e=>f (h.ninj _ _ d b e);obtain⟨l',c',g,m,i⟩:=k.nmap y b;simp only[cZ _ _ (B0 f)]at i;have q:=mF.put g m i x d t (IntKind.i64.wrap (lT l' x+1));have o:=k.setN b q;have s:=h.blk;have b2:=h.near;have b3:=k.blk;have b4:=k.near;have z:=fR (j:=a.jn) (v:=a.vn) d;have C:=fR (j:=a.jn) (v:=a.vn) b;have D:=dO (fun r=>TV.map (a.nm r)) d;have E:=dO (fun r=>TV.map (a.nm r)) b;refine⟨_,aI K _ (fn:=t88) rfl rfl ?_,o,(bL.set _ B_ _).trans (bL.set _ B_ _)⟩;simp only[dL]at s b3;simp(disch:=omega)only[t88,go_sem,s,b2,z,C,D,E,u,b3,b4,g]
structure Uf (p:Pn) (ρ d:Nat->Nat):Prop where
 up:∀r,r<p.n->p.to r≠r->p.to r<p.n/\ρ (p.to r)=ρ r/\d (p.to r)<d r
 fix:∀r,r<p.n->p.to r=r->ρ r=r
theorem Uf.root{p:Pn}{ρ d:Th_}(h:Uf p ρ d):∀(k r:Nat),d r<k->r<p.n->ρ r<p.n/\p.to (ρ r)=ρ r
 |0,r,hk,hr=>A_
 |k+1,r,hk,hr=>by
  by_cases e:p.to r=r;.rw[h.fix r hr e];exact⟨hr,e⟩
  .obtain⟨a,b,c⟩:=h.up r hr e;have:=h.root k (p.to r) A_ a;rw[b]at this;exact this
theorem bDg{S:aA}{a:Ad}{p:Pn}(h:PT S a p){ρ d:Th_}(f:Uf p ρ d)(x2:TV):∀(k r:Nat) (g:TV),d r<k->r<p.n ->∃i,lp' (lim K) t89L0 [.ptr a.ip 106 0,j_ r,x2,g] S=.ret (.exit 0,[.ptr a.ip 106 0,j_ (ρ r),x2,i],S)
 |0,r,g,hk,hr=>A_
 |k+1,r,g,hk,hr=>by
  have c:=h.blk;have b2:=h.to;have m:=fR (j:=a.jt) (v:=a.vt) hr;have b:=dO (fun r=>nI (p.to r)) hr;simp only[dL]at c;simp only[nI]at b2 b;by_cases e:p.to r=r;.rw[f.fix r hr e];rw[e]at b;refine⟨z_,aE K _ _ t89L0.eq_1 ?_⟩;simp(disch:=omega)only[go_sem,c,b2,m,b]
  .obtain⟨o,q,s⟩:=f.up r hr e;obtain⟨i,l⟩:=bDg h f x2 k (p.to r) e_ A_ o;rw[q]at l;have e':¬((p.to r:Int)=(r:Int)):=A_;refine⟨i,aE K _ _ t89L0.eq_1 ?_⟩;simp(disch:=omega)only[go_sem,c,b2,m,b,e'];exact X_ er l
theorem aQe{S:aA}{a:Ad}{p:Pn}(h:PT S a p){ρ d:Th_}(c:Uf p ρ d)(r:Nat)(e:r<p.n):(lim K).call 89 [.ptr a.ip 106 0,j_ r] S=.ret (j_ (ρ r),S):=by obtain⟨f,b⟩:=bDg h c (j_ 0) (d r+1) r u_ A_ e;refine aI K _ (fn:=t89) rfl rfl ?_;simp(disch:=omega)only[t89,go_sem];rw[b];simp(disch:=omega)only[go_sem]
theorem aDq{l:Td_}{n:Nat}{f:Tj_}(a:∀t:Int,cB l t=true↔∃s:Nat,t=s/\s<n/\f s=true){s:Nat}(b:s<n):cB l (s:Int)=f s:=by
 cases hf:f s with
 |true=>exact(a s).2 ⟨s,rfl,b,hf⟩
 |false =>
  cases hh:cB l (s:Int)with
  |false=>rfl
  |true =>obtain⟨s',e,_,h⟩:=(a s).1 hh;have:s=s':=A_;rw[<-this,hf]at h;cases h
theorem wK{l:Td_}{n:Nat}{f:Tj_}(b:∀t:Int,cB l t=true↔∃s:Nat,t=s/\s<n/\f s=true){x:Nat×Int×Int}(a:x∈l):∃s:Nat,x.2.1=s/\s<n/\f s=true :=
 (b _).1 (oP.2 (E9 (f:=fun y:Nat×Int×Int=>y.2.1) a))
theorem aMg{α:Type}{l:List (Nat×Int×α)}(d:(l.map (·.1)).Nodup){x y:Nat×Int×α}(i:x∈l)(g:y∈l)(h:x.1=y.1):x=y:=by
 induction l with
 |nil=>cases i
 |cons a r ih =>
  rw[Q_,C7]at d;have key:∀z∈r,z.1≠a.1:=fun z k e=>d.1 (by rw[<-e];exact E9 (f:=fun w:Nat×Int×α=>w.1) k);rcases J_.1 i with j|c
  .rcases J_.1 g with e2|b;.rw[j,e2]
   .exact absurd (h.symm.trans (by rw[j])) (key y b)
  .rcases J_.1 g with e2|b;.exact absurd (h.trans (by rw[e2])) (key x c)
   .exact ih d.2 c b
def lB(a:Ad)(x y:Nat)(r3 x4 x5 x6 x7 x8 x9 x10 x11 x12 x13 x14 x15 x16 x17 x18 x19:TV):List TV:=[.ptr a.ip 106 0,.iv (.int .i64 x),.iv (.int .i64 y),r3,x4,x5,x6,x7,x8,x9,x10,x11,x12,x13,x14,x15,x16,x17,x18,x19]
theorem aUs{a:Ad}{p:Pn}{x y:Nat}(H:x<p.n)(hy:y<p.n){bi c:Nat}{l:Td_}(V:gB l c)(W:∀t:Int,cB l t=true↔∃s:Nat,t=s/\s<p.n/\p.near y s=true)(x6 x7 x8 x9 x10 x14 x15 x16 h o m:TV): ∀(k:Nat) (b:Tc_) (S:aA) (x4 x5 x12 x13:TV),left l b<k->PT S a p->S[bi]?=some (.mit (some (a.nm y)) c b c)->S[a.nm y]?=some (.mp (mpR vI l) c) ->(lp' (lim K) t90L2 (lB a x y z_ x4 x5 x6 x7 x8 x9 x10 (.it bi) x12 x13 x14 x15 x16 h o m) S).All fun r=>∃u E e d,bL [bi] S r.2.2 /\r.2.1=lB a x y z_ u E x6 x7 x8 x9 x10 (.it bi) e d x14 x15 x16 h o m /\(r.1=.exit 0\/r.1=.ret)
 |0,b,S,x4,x5,x12,x13,hk,hP,hb,hm=>A_
 |k+1,b,S,x4,x5,x12,x13,hk,hP,hb,hm=>by
  unfold lB;refine fC t90L2.eq_1 ?_;simp(disch:=omega)only[go_sem];refine jJ hb hm V.born (L_ _) (fun Z=>?_) (fun z L hs=>?_);.simp(disch:=omega)only[go_sem];exact bG ⟨_,_,_,_,.refl _ _,rfl,.inl rfl⟩
  .have h0:=vJ L hs;have R:bi≠a.nm y:=bO hb hm B_;have f:=hP.setIt hb (.mit (some (a.nm y)) c (b++[z.1]) c);have F:(S.set bi (.mit (some (a.nm y)) c (b++[z.1]) c))[bi]?=_:=aM (aN hb) _;have w:(S.set bi (.mit (some (a.nm y)) c (b++[z.1]) c))[a.nm y]?=some (.mp (mpR vI l) c):=by rw[aB R];exact hm
   have G:=aAq F w L V.once;have i:bL [bi] S (S.set bi (.mit (some (a.nm y)) c (b++[z.1]) c)):=bL.set _ B_ _;generalize S.set bi (.mit (some (a.nm y)) c (b++[z.1]) c)=S1 at *
   obtain⟨t,Y,C,h2⟩:=wK W L;obtain⟨lx,cx,q,h3,J⟩:=f.nmap x H;have A:=aDq J C;have g:=aJn f t C;have I:=f.blk;have b2:=f.near;have P:=fR (j:=a.jn) (v:=a.vn) H;have T:=dO (fun r=>TV.map (a.nm r)) H;simp only[dL]at I;rw[Y]at G;have D:=aUs H hy V W x6 x7 x8 x9 x10 x14 x15 x16 h o m k (b++[z.1]) S1 (j_ t) (.iv (.bool (p.near x t))) e_ z_ A_ f F w;unfold lB at D;rw[Y];cases hnx:p.near x t with
   |true =>rw[hnx]at A D;simp(disch:=omega)only[go_sem,G,I,b2,P,T,q,A];refine cP (Out.all_mono ?_ D);rintro r ⟨u,E,e,d,Q,U,N⟩;exact⟨u,E,e,d,i.trans Q,U,N⟩
   |false =>
    rw[hnx]at A D;cases hhi:hiF p t with
    |true =>rw[hhi]at g;simp(disch:=omega)only[go_sem,G,I,b2,P,T,q,A,g];exact bG ⟨_,_,_,_,i,rfl,.inr rfl⟩
    |false =>rw[hhi]at g;simp(disch:=omega)only[go_sem,G,I,b2,P,T,q,A,g];refine cP (Out.all_mono ?_ D);rintro r ⟨u,E,e,d,Q,U,N⟩;exact⟨u,E,e,d,i.trans Q,U,N⟩
theorem aJo{a:Ad}{p:Pn}(C:p.n<=1000000000){x y:Nat}(R:x<p.n){bi c:Nat}{l:Td_}(E:gB l c)(H:∀t:Int,cB l t=true↔∃s:Nat,t=s/\s<p.n/\p.near x s=true)(D x4 x5 x8 x9 x10 x11 x12 x13 f i g:TV): ∀(k:Nat) (m:Nat) (b:Tc_) (S:aA) (x7 x15 x16:TV),left l b<k->m+left l b<=4000000000->PT S a p->S[bi]?=some (.mit (some (a.nm x)) c b c)->S[a.nm x]?=some (.mp (mpR vI l) c) ->(lp' (lim K) t90L1 (lB a x y D x4 x5 (j_ m) x7 x8 x9 x10 x11 x12 x13 (.it bi) x15 x16 f i g) S).All fun r=>∃(u:Nat) (w d e:TV),u<=m+left l b/\bL [bi] S r.2.2 /\r.2.1=lB a x y D x4 x5 (j_ u) w x8 x9 x10 x11 x12 x13 (.it bi) d e f i g/\r.1=.exit 2
 |0,m,b,S,x7,x15,x16,hk,hmm,hP,hb,hm=>A_
 |k+1,m,b,S,x7,x15,x16,hk,hmm,hP,hb,hm=>by
  unfold lB;refine fC t90L1.eq_1 ?_;simp(disch:=omega)only[go_sem];refine jJ hb hm E.born (L_ _) (fun U=>?_) (fun z G V=>?_);.simp(disch:=omega)only[go_sem];exact bG ⟨m,_,_,_,by omega,.refl _ _,rfl,rfl⟩
  .have W:=vJ G V;have P:bi≠a.nm x:=bO hb hm B_;have o:=hP.setIt hb (.mit (some (a.nm x)) c (b++[z.1]) c);have q:(S.set bi (.mit (some (a.nm x)) c (b++[z.1]) c))[bi]?=_:=aM (aN hb) _;have j:(S.set bi (.mit (some (a.nm x)) c (b++[z.1]) c))[a.nm x]?=some (.mp (mpR vI l) c):=by rw[aB P];exact hm
   have F:=aAq q j G E.once;have A:bL [bi] S (S.set bi (.mit (some (a.nm x)) c (b++[z.1]) c)):=bL.set _ B_ _;generalize S.set bi (.mit (some (a.nm x)) c (b++[z.1]) c)=S1 at *
   obtain⟨t,T,N,Y⟩:=wK H G;have h:=aJn o t N;rw[T]at F;rw[T];cases hhi:hiF p t with
   |true =>rw[hhi]at h;have v:=aJo C (y:=y) R E H D x4 x5 x8 x9 x10 x11 x12 x13 f i g k (m+1) (b++[z.1]) S1 (j_ t) e_ e_ A_ A_ o q j;rw[show((m+1:Nat):Int)=(m:Int)+1 by omega]at v;unfold lB at v;simp(disch:=omega)only[go_sem,F,h,aC];refine cP (Out.all_mono ?_ v);rintro r ⟨u,w,d,e,J,L,Q,I⟩;exact⟨u,w,d,e,by omega,A.trans L,Q,I⟩
   |false =>rw[hhi]at h;have v:=aJo C (y:=y) R E H D x4 x5 x8 x9 x10 x11 x12 x13 f i g k m (b++[z.1]) S1 (j_ t) e_ z_ A_ A_ o q j;unfold lB at v;simp(disch:=omega)only[go_sem,F,h,aC];refine cP (Out.all_mono ?_ v);rintro r ⟨u,w,d,e,J,L,Q,I⟩;exact⟨u,w,d,e,by omega,A.trans L,Q,I⟩
theorem aCh{a:Ad}{p:Pn}(C:p.n<=1000000000){x y:Nat}(H:x<p.n)(W:y<p.n){bi c:Nat}{l:Td_}(R:gB l c)(U:∀t:Int,cB l t=true↔∃s:Nat,t=s/\s<p.n/\p.near y s=true)(I x4 x5 x7 x10 x11 x12 x13 x14 x15 x16:TV): ∀(k:Nat) (m:Nat) (b:Tc_) (S:aA) (x8 x9 F D:TV),left l b<k->m+left l b<=4000000000->PT S a p->S[bi]?=some (.mit (some (a.nm y)) c b c)->S[a.nm y]?=some (.mp (mpR vI l) c) ->(lp' (lim K) t90L0 (lB a x y I x4 x5 (j_ m) x7 x8 x9 x10 x11 x12 x13 x14 x15 x16 (.it bi) F D) S).All fun r=>∃(q:Nat) (E w d e:TV),q<=m+left l b/\bL [bi] S r.2.2 /\r.2.1=lB a x y I x4 x5 (j_ q) x7 E w x10 x11 x12 x13 x14 x15 x16 (.it bi) d e/\r.1=.exit 4
 |0,m,b,S,x8,x9,F,D,hk,hmm,hP,hb,hm=>A_
 |k+1,m,b,S,x8,x9,F,D,hk,hmm,hP,hb,hm=>by
  unfold lB;refine fC t90L0.eq_1 ?_;simp(disch:=omega)only[go_sem];refine jJ hb hm R.born (L_ _) (fun h2=>?_) (fun z Z hs=>?_);.simp(disch:=omega)only[go_sem];exact bG ⟨m,_,_,_,_,by omega,.refl _ _,rfl,rfl⟩
  .have h3:=vJ Z hs;have h0:bi≠a.nm y:=bO hb hm B_;have f:=hP.setIt hb (.mit (some (a.nm y)) c (b++[z.1]) c);have o:(S.set bi (.mit (some (a.nm y)) c (b++[z.1]) c))[bi]?=_:=aM (aN hb) _;have g:(S.set bi (.mit (some (a.nm y)) c (b++[z.1]) c))[a.nm y]?=some (.mp (mpR vI l) c):=by rw[aB h0];exact hm
   have T:=aAq o g Z R.once;have A:bL [bi] S (S.set bi (.mit (some (a.nm y)) c (b++[z.1]) c)):=bL.set _ B_ _;generalize S.set bi (.mit (some (a.nm y)) c (b++[z.1]) c)=S1 at *
   obtain⟨t,ht,P,h4⟩:=wK U Z;obtain⟨lx,cx,G,h5,Y⟩:=f.nmap x H;have N:=aDq Y P;have h:=aJn f t P;have V:=f.blk;have b2:=f.near;have i1:=fR (j:=a.jn) (v:=a.vn) H;have s1:=dO (fun r=>TV.map (a.nm r)) H;simp only[dL]at V;rw[ht]at T;rw[ht];cases hnx:p.near x t with
   |true =>rw[hnx]at N;have i:=aCh C H W R U I x4 x5 x7 x10 x11 x12 x13 x14 x15 x16 k m (b++[z.1]) S1 (j_ t) e_ e_ z_ A_ A_ f o g;unfold lB at i;simp(disch:=omega)only[go_sem,T,V,b2,i1,s1,G,N];refine cP (Out.all_mono ?_ i);rintro r ⟨q,E,w,d,e,u,L,Q,J⟩;exact⟨q,E,w,d,e,by omega,A.trans L,Q,J⟩
   |false =>
    rw[hnx]at N;cases hhi:hiF p t with
    |true =>rw[hhi]at h;have i:=aCh C H W R U I x4 x5 x7 x10 x11 x12 x13 x14 x15 x16 k (m+1) (b++[z.1]) S1 (j_ t) z_ e_ e_ A_ A_ f o g;rw[show((m+1:Nat):Int)=(m:Int)+1 by omega]at i;unfold lB at i;simp(disch:=omega)only[go_sem,T,V,b2,i1,s1,G,N,h,aC];refine cP (Out.all_mono ?_ i);rintro r ⟨q,E,w,d,e,u,L,Q,J⟩;exact⟨q,E,w,d,e,by omega,A.trans L,Q,J⟩
    |false =>rw[hhi]at h;have i:=aCh C H W R U I x4 x5 x7 x10 x11 x12 x13 x14 x15 x16 k m (b++[z.1]) S1 (j_ t) z_ e_ z_ A_ A_ f o g;unfold lB at i;simp(disch:=omega)only[go_sem,T,V,b2,i1,s1,G,N,h];refine cP (Out.all_mono ?_ i);rintro r ⟨q,E,w,d,e,u,L,Q,J⟩;exact⟨q,E,w,d,e,by omega,A.trans L,Q,J⟩
theorem mG{S S':aA}{b:aG}(k:bL [S.length] (S++[b]) S'):bL [] S S' :=
 ⟨by have:=k.len;simp at this;omega,fun i x _ a=>k.get i x (by have:=aN a;simp;omega) (by rw[W_ (aN a)];exact a)⟩
theorem bDh(n:Nat)(f:Tj_):deg n f<=n:=by have:=E0 f (List.range n);simpa[deg] using this
theorem bRl{S:aA}{a:Ad}{p:Pn}(h:PT S a p)(h2:p.n<=1000000){x y:Nat}(o:x<p.n)(t:y<p.n): ((lim K).call 90 [.ptr a.ip 106 0,j_ x,j_ y] S).All fun r=>(∃b,r.1=.iv (.bool b))/\bL [] S r.2:=by
 obtain⟨F,g,k,m,i⟩:=h.nmap y t;obtain⟨P,E,C,z,u⟩:=h.nmap x o;have J:=h.blk;have b2:=h.near;have i1:=fR (j:=a.jn) (v:=a.vn) o;have s1:=dO (fun r=>TV.map (a.nm r)) o;have R:=fR (j:=a.jn) (v:=a.vn) t;have T:=dO (fun r=>TV.map (a.nm r)) t;simp only[dL]at J;refine dG K _ (fn:=t90) rfl rfl ?_;by_cases h32:x<32
 .have N:=kG k;have w:=bL.app [] S [aG.mit (some (a.nm y)) g [] g];have q:=aUs o t m i u_ u_ u_ u_ e_ u_ u_ u_ u_ u_ u_ (left F []+1) [] (S++[.mit (some (a.nm y)) g [] g]) u_ u_ u_ u_ A_ (h.keep w) (cM _ _) (w.get _ _ B_ k);unfold lB at q;simp(disch:=omega)only[t90,go_sem,h32,J,b2,R,T,N];refine dJ q ?_;rintro j e S' ⟨y4,y5,h4,h0,s,c,d⟩;dsimp only at c d s;subst c;rcases d with rfl|rfl;.simp(disch:=omega)only[go_sem];exact bG ⟨⟨_,rfl⟩,mG s⟩
  .simp(disch:=omega)only[go_sem];exact bG ⟨⟨_,rfl⟩,mG s⟩
 .have rx:=kG C;have dx:=sV z u;have dy:=sV m i;have Y:=bDh p.n (p.near x);have h3:=bDh p.n (p.near y);have ex:left P []<=P.length:=E0 ..;have ey:left F []<=F.length:=E0 ..;have w:=bL.app [] S [aG.mit (some (a.nm x)) E [] E];have q:=aJo A_ (y:=y) o z u z_ u_ u_ u_ u_ z_ u_ u_ u_ u_ u_ u_ (left P []+1) 0 [] (S++[.mit (some (a.nm x)) E [] E]) u_ u_ u_ A_ A_ (h.keep w) (cM _ _) (w.get _ _ B_ C);rw[n0_]at q;unfold lB at q;simp(disch:=omega)only[t90,go_sem,h32,J,b2,i1,s1,rx];refine dJ q ?_;rintro j e S1 ⟨m1,U,G,L,h5,s,c,d⟩;dsimp only at c d s;subst c d;have l:=mG s;have I:=h.keep l;have A:=I.blk;have H:=I.near;simp only[dL]at A;have f:=l.get _ _ B_ k;have N:=kG f;have Q:=bL.app [] S1 [aG.mit (some (a.nm y)) g [] g];have l2:=aCh A_ o t m i z_ u_ u_ U z_ u_ u_ u_ (.it S.length) G L (left F []+1) m1 [] (S1++[.mit (some (a.nm y)) g [] g]) u_ u_ u_ u_ A_ A_ (I.keep Q) (cM _ _) (Q.get _ _ B_ f);unfold lB at l2;simp(disch:=omega)only[go_sem,A,H,R,T,N];refine dJ l2 ?_;rintro j e S2 ⟨m2,y8,y9,V,W,Z,D,c,d⟩;dsimp only at c d D;subst c d;simp(disch:=omega)only[go_sem];exact bG ⟨⟨_,rfl⟩,l.trans (mG D)⟩
structure KpX (I:List Nat) (S S':aA):Prop where
 len:S.length<=S'.length
 get:∀i b,S[i]?=some b->i∉I->(∀es c,b≠.mp es c)->S'[i]?=some b
theorem KpX.trans{I:Tc_}{S S' S'':aA}(h:KpX I S S')(g:KpX I S' S''):KpX I S S'' :=
 ⟨C0 h.len g.len,fun i x c b a=>g.get i x (h.get i x c b a) b a⟩
theorem KpX.refl(I:Tc_)(S:aA):KpX I S S:=⟨L_ _,fun _ _ h _ _=>h⟩
theorem KpX.mono{I J:Tc_}{S S':aA}(h:KpX I S S')(d:∀i∈I,i∈J):KpX J S S':=⟨h.len,fun i b c f a=>h.get i b c (fun e=>f (d i e)) a⟩
theorem KpX.keep{I J:Tc_}{S S':aA}(k:bL I S S')(f:∀i∈I,i∈J\/∃es c,S[i]?=some (.mp es c)):KpX J S S' :=
 ⟨k.len,fun i b a g e=>k.get i b (fun j=>by
  rcases f i j with h|⟨es,c,d⟩;.exact g h
  .rw[a]at d;exact e es c (D9 d)) a⟩
theorem KpX.toG{a:Ad}{S S':aA}(h:KpX a.own S S'):KpG a S S':=⟨h.len,h.get⟩
theorem KpX.new{I:Tc_}{S S':aA}{b:aG}(k:KpX (S.length::I) (S++[b]) S'):KpX I S S' :=
 ⟨by have:=k.len;simp at this;omega,fun i x a d c=>k.get i x (by rw[W_ (aN a)];exact a) (by have:=aN a;simp only[J_,G6];exact⟨by omega,d⟩) c⟩
theorem oB{α a:Type}(g:α->a)(f:Nat->α)(i:Nat)(x:α):upd (fun r=>g (f r)) i (g x)=fun r=>g (upd f i x r):=by funext r;unfold upd;split<;>rfl
theorem PT.congr{S:aA}{a:Ad}{p:Pn}(h:PT S a p){f:Ti_}(i:∀r s,r<p.n->s<p.n->p.near r s=f r s):PT S a {p with near:=f} :=
 ⟨h.blk,h.near,h.own,h.to,h.out,fun r d=>by
  obtain⟨l,c,j,k,m⟩:=h.nmap r d;refine⟨l,c,j,k,fun t=>(m t).trans ⟨?_,?_⟩⟩;.rintro⟨s,e,b,g⟩;exact⟨s,e,b,by show f r s=true;rw[<-i r s d b];exact g⟩
  .rintro⟨s,e,b,g⟩;exact⟨s,e,b,by rw[i r s d b];exact g⟩,h.omap,h.ninj,h.oinj,h.dis,h.nd⟩
theorem PT.setTo{S:aA}{a:Ad}{p:Pn}(h:PT S a p)(y x:Nat):PT (S.set a.jt (.cells a.vt true (cF p.n (upd (fun r=>nI (p.to r)) y (nI x))))) a {p with to:=upd p.to y x}:=by
 have i:=h.nd;simp only[C7,J_,D1,H2,G6]at i;obtain⟨⟨q,v,k,o⟩,⟨w,m,t⟩,⟨j,u⟩,f,_⟩:=i;refine⟨?_,?_,?_,?_,?_,fun s d=>?_,fun s d=>?_,h.ninj,h.oinj,h.dis,h.nd⟩;.rw[aB (B0 k)];exact h.blk
 .rw[aB (B0 m)];exact h.near
 .rw[aB (B0 j)];exact h.own
 .rw[aM (aN h.to),oB nI]
 .rw[aB f];exact h.out
 .obtain⟨l,c,b,e,g⟩:=h.nmap s d;exact⟨l,c,by rw[aB (B0 (bO b h.to B_))];exact b,e,g⟩
 .obtain⟨l,c,b,e,g⟩:=h.omap s d;exact⟨l,c,by rw[aB (B0 (bO b h.to B_))];exact b,e,g⟩
theorem PT.setOut{S:aA}{a:Ad}{p:Pn}(h:PT S a p)(y:Nat)(x:Int):PT (S.set a.ju (.cells 0 false (cF p.n (upd (fun r=>vI (p.out r)) y (vI x))))) a {p with out:=upd p.out y x}:=by
 have i:=h.nd;simp only[C7,J_,D1,H2,G6]at i;obtain⟨⟨u,v,q,j⟩,⟨w,t,k⟩,⟨o,m⟩,f,_⟩:=i;refine⟨?_,?_,?_,?_,?_,fun s d=>?_,fun s d=>?_,h.ninj,h.oinj,h.dis,h.nd⟩;.rw[aB (B0 j)];exact h.blk
 .rw[aB (B0 k)];exact h.near
 .rw[aB (B0 m)];exact h.own
 .rw[aB (B0 f)];exact h.to
 .rw[aM (aN h.out),oB vI]
 .obtain⟨l,c,b,e,g⟩:=h.nmap s d;exact⟨l,c,by rw[aB (B0 (bO b h.out B_))];exact b,e,g⟩
 .obtain⟨l,c,b,e,g⟩:=h.omap s d;exact⟨l,c,by rw[aB (B0 (bO b h.out B_))];exact b,e,g⟩
theorem PT.newN{S:aA}{a:Ad}{p:Pn}(h:PT S a p)(y:Nat)(z:y<p.n):PT ((S++[aG.mp [] 0]).set a.jn (.cells a.vn true (cF p.n (upd (fun r=>TV.map (a.nm r)) y (.map S.length))))) {a with nm:=upd a.nm y S.length} {p with near:=upd p.near y fun _=>false}:=by
 have f:=h.keep (bL.app [] S [aG.mp [] 0]);have o:=h.nd;simp only[C7,J_,D1,H2,G6]at o;obtain⟨⟨u,F,D,C⟩,⟨x,q,v⟩,⟨A,E⟩,w,_⟩:=o;have i:∀r,r<p.n->a.nm r<S.length:=fun r g=>by obtain⟨l,c,b,_⟩:=h.nmap r g;exact aN b
 have k:∀r,r<p.n->a.om r<S.length:=fun r g=>by obtain⟨l,c,b,_⟩:=h.omap r g;exact aN b
 refine⟨?_,?_,?_,?_,?_,fun s d=>?_,fun s d=>?_,fun r s g d e=>?_,h.oinj,fun r s g d=>?_,h.nd⟩;.rw[aB (B0 u)];exact f.blk
 .rw[aM (aN f.near),oB TV.map]
 .rw[aB x];exact f.own
 .rw[aB q];exact f.to
 .rw[aB v];exact f.out
 .by_cases e:s=y
  .subst e;refine⟨[],0,?_,gB.nil 0,fun t=>?_⟩
   .have:a.jn≠S.length:=by have:=aN h.near;omega
    simp only[bU];rw[aB this];exact cM ..
   .simp[bU,cB,dI]
  .obtain⟨l,c,b,j,m⟩:=f.nmap s d;simp only[cZ _ _ e];exact⟨l,c,by rw[aB (B0 (bO b f.near B_))];exact b,j,m⟩
 .obtain⟨l,c,b,j,m⟩:=f.omap s d;exact⟨l,c,by rw[aB (B0 (bO b f.near B_))];exact b,j,m⟩
 .have b:=i r g;have j:=i s d;simp only[upd]at e;split at e<;>split at e;.rename_i e1 e2;rw[e1,e2]
  .omega
  .omega
  .exact h.ninj r s g d e
 .have b:=k s d;simp only[upd];split;.omega
  .exact h.dis r s g d
def sW(f:Nat->Nat->Bool)(x y:Nat)(D:Nat->Bool)(r s:Nat):Bool :=
 if r=y then f y s else if s=y then(f r y&&!D r)else(f r s||(decide (r=x)&&D s)||(decide (s=x)&&D r))
theorem aXe(f:Ti_)(x y:Nat):sW f x y (fun _=>false)=f:=by
 funext r s;unfold sW;split;.rename_i e;rw[e]
 .split;.rename_i e;rw[e];simp
  .simp
theorem aXf(f:Ti_){x y t:Nat}(D:Tj_)(b:x≠y)(c:t≠x)(a:t≠y)(e:f y t=true)(g:Tj_)(d:∀s,g s=(decide (s≠y)&&sW f x y D t s)):aXd (upd (sW f x y D) t g) x t=sW f x y (upd D t true):=by
 funext r s;rw[aUr _ (B0 c)];unfold upd;by_cases hrt:r=t
 .subst hrt;rw[K_ rfl,d];unfold sW;simp only[a,c,I5,N6,Z9,K2,O5,Z5,false_and,G0,AD,E4,Bool.and_false];by_cases hs:s=y;.subst hs;simp[B0 b]
  .by_cases hsx:s=x;.subst hsx;simp[hs]
   .simp[hs,hsx]
 .rw[I_ hrt];unfold sW;by_cases hry:r=y;.subst hry;simp[B0 b,B0 a]
  .simp only[hry,I5];by_cases hs:s=y;.subst hs;simp[hrt,B0 a]
   .simp only[hs,I5];by_cases hrx:r=x
    .subst hrx;by_cases hst:s=t;.subst hst;simp
     .simp[hst,hrt]
    .by_cases hst:s=t;.subst hst;simp[hrx,hrt]
     .simp[hrx,hst,hrt]
end Go.Proofs.YtehlgnfhkidgoaaGreatDoor
