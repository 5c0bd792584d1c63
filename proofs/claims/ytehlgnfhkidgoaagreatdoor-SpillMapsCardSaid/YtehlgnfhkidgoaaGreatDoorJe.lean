/- Some texts of the proof, joined. Condition: none. -/
import Derived.Test.YtehlgnfhkidgoaaGreatDoorJd
import Derived.Test.YtehlgnfhkidgoaaGreatDoorJc
import Derived.Test.YtehlgnfhkidgoaaGreatDoorJb
set_option linter.unusedSectionVars false
set_option maxRecDepth 100000
set_option maxHeartbeats 64000000
set_option linter.unusedSimpArgs false
set_option linter.unusedVariables false
namespace Go.Proofs.YtehlgnfhkidgoaaGreatDoor
open Go Go.TM
theorem zG(x:Int):TM.Pure K 23 [j_ x] (.iv (.bool (decide (32<=x)))):=by refine aT t23 rfl rfl ?_;simp(disch:=omega)only[t23,go_sem]
def bC7(x:Int):Bool:=decide (x<25\/x=26\/x=31\/32<=x)
theorem bQ2(x:Int):TM.Pure K 30 [j_ x] (.iv (.bool (bC7 x))):=by
 unfold bC7;refine aT t30 rfl rfl ?_;rcases(by omega:x<25\/(25<=x/\x=26)\/(25<=x/\x≠26/\x=31)\/(25<=x/\x≠26/\x≠31/\32<=x)\/(25<=x/\x≠26/\x≠31/\x<32))with h|h|h|h|h;.rw[V_ (.inl h)];simp(disch:=omega)only[t30,go_sem]
 .rw[V_ (.inr (.inl h.2))];simp(disch:=omega)only[t30,go_sem]
 .rw[V_ (.inr (.inr (.inl h.2.2)))];simp(disch:=omega)only[t30,go_sem]
 .rw[V_ (.inr (.inr (.inr h.2.2.2)))];simp(disch:=omega)only[t30,go_sem]
 .rw[l_ A_];simp(disch:=omega)only[t30,go_sem]
theorem bQ3(x:Int):TM.Pure K 29 [j_ x] (.iv (.bool (!bC7 x))):=by have c:=bQ2 x;refine aT t29 rfl rfl ?_;simp(disch:=omega)only[t29,go_sem,aD c]
def p32(x:Int):Bool:=decide (32<=x)
def bLb(x:Int):Bool:=!bC7 x
def b28(x:VI):Bool:=(x.us.any p32||decide (x.op=67/\32<=x.d))||(decide (x.op=73)||(decide (x.op=74)||(decide (0<x.mp.length)||(x.d::x.a::x.b::x.us).any bLb)))
theorem bC8(d a b:Int)(t:Tag)(us:Ta_)(c:us.length<=1000000)(S:aA):∃w S',bA false 1 8 3 S (.iv (.sl .full [[.int .i64 d],[.int .i64 a],[.int .i64 b]])) (.iv (.sl t (TM.one (.int .i64) us)))=some (w,S')/\Slc S' w (d::a::b::us):=by
 by_cases h0:us=[]
 .subst h0;exact⟨_,S,bI0 rfl (rO.sl S t []),Slc.iv S .full [d,a,b]⟩
 .have:=aLi (w:=1) (b:=8) (el:=3) (S:=S) (t:=.full) (l:=aZ [d,a,b]) C_ (rO.sl S t (aZ us)) (nB us) (nB _) (fun h=>h0 (aLv.1 h)) (bR (by rw[eK,eK];simp;omega));exact⟨_,_,this,Slc.tsl _ _ (d::a::b::us)⟩
theorem bQ4(x:VI)(n:x.us.length<=1000000):TM.Pure K 28 [.iv (.agg (aJ x))] (.iv (.bool (b28 x))):=by
 obtain⟨op,d,a,b,p,lb,tu,us,tm,mp⟩:=x;dsimp only at n;have e:(TM.one (IV.int .i64) mp).length=mp.length:=TM.kB ..;have g:=aCd (S:=[]) (Slc.iv [] tu us) A_ 23 [] rfl rfl p32 (fun x _=>aCe (zG x) []);have l:=zG d;obtain⟨w,S',k,m⟩:=bC8 d a b tu us n [];have o:=aCd m (by simp;omega) 29 [] rfl rfl bLb (fun x _=>aCe (bQ3 x) S');have i:=m.loc;have l2:=m.nlp;have j:=m.wb;have f:((mp.length:Int)>0)↔0<mp.length:=A_;unfold b28;dsimp only;generalize (d::a::b::us).any bLb=q3 at *
 generalize us.any p32=q1 at *
 unfold aJ;generalize TM.one (IV.int .i64) us=U at *
 generalize hM:TM.one (IV.int .i64) mp=M at *
 have fin:∀(v:Bool) (S:aA),(lim K).call 28 [.iv (.agg [.int .i64 op,.int .i64 d,.int .i64 a,.int .i64 b,.int .i64 p,.int .i64 lb,.sl tu U,.sl tm M])] []=.ret (.iv (.bool v),S)->TM.Pure K 28 [.iv (.agg [.int .i64 op,.int .i64 d,.int .i64 a,.int .i64 b,.int .i64 p,.int .i64 lb,.sl tu U,.sl tm M])] (.iv (.bool v)):=fun v S h=>TM.gQ h (by rw[oH]);cases q1 with
 |true =>refine fin _ [] (aI K _ (fn:=t28) rfl rfl ?_);simp(disch:=omega)only[t28,go_sem,g,G2]
 |false =>
  by_cases h1:op=67
  .subst h1;by_cases h2:32<=d;.rw[V_ h2]at l;refine fin _ [] (aI K _ (fn:=t28) rfl rfl ?_);rw[V_ ⟨rfl,h2⟩];simp(disch:=omega)only[t28,go_sem,g,aD l,G2,L9]
   .rw[l_ h2]at l;refine fin _ S' (aI K _ (fn:=t28) rfl rfl ?_);rw[l_ (fun h=>h2 h.2)];cases hm:decide (0<mp.length)with
    |true =>have c:0<mp.length:=M9 hm;simp(disch:=omega)only[t28,go_sem,g,aD l,k,j,i,l2,e,f,c,G7,G2]
    |false =>have c:¬0<mp.length:=U4 hm;simp(disch:=omega)only[t28,go_sem,g,aD l,k,j,i,l2,e,f,c,o,G7,G2]
  .refine fin _ S' (aI K _ (fn:=t28) rfl rfl ?_);rw[l_ (fun h:op=67/\32<=d=>h1 h.1)];by_cases h3:op=73;.rw[V_ h3];simp(disch:=omega)only[t28,go_sem,g,k,j,i,l2,h3,G7,G2]
   .rw[l_ h3];by_cases h4:op=74;.rw[V_ h4];simp(disch:=omega)only[t28,go_sem,g,k,j,i,l2,h4,G7,G2]
    .rw[l_ h4];cases hm:decide (0<mp.length)with
     |true =>have c:0<mp.length:=M9 hm;simp(disch:=omega)only[t28,go_sem,g,k,j,i,l2,h1,h3,h4,e,f,c,G7,G2]
     |false =>have c:¬0<mp.length:=U4 hm;simp(disch:=omega)only[t28,go_sem,g,k,j,i,l2,h1,h3,h4,e,f,c,o,G7,G2]
theorem aUo{g:Nat}{a:IV}{v:TV}(h:TM.Pure K g [.iv a] v)(S:aA):cvA (lim K) true S g [.iv a]=.ret (v,S):=by simp only[go_sem,aD h]
theorem bC9(j:Nat)(E:List (Tag×List Int))(u:E.length<=1000000)(S:aA)(b:∀e∈E,cB e.1 e.2/\e.2.length<=1000000):∀(k i:Nat) (x2 g x6 x7:TV),i+k=E.length->(∀e∈E.take i,crM e.2=false) ->∃(d:aW) (l n r p o:TV),lp' (lim K) t51L0 [.tsl j (E.map nD),.fn 26 [] [],x2,g,j_ E.length,j_ i,x6,x7] S = .ret (d,[.tsl j (E.map nD),.fn 26 [] [],l,n,j_ E.length,r,p,o],S) /\(d=.exit 0/\(E.any fun e=>crM e.2)=false\/d=.ret/\(E.any fun e=>crM e.2)=true/\∃q:Nat,l=j_ q)
 |0,i,x2,g,x6,x7,hk,hq=>by
  obtain rfl:i=E.length:=A_;rw[B9]at hq;refine⟨.exit 0,x2,g,j_ E.length,z_,x7,aE K _ _ t51L0.eq_1 ?_,.inl ⟨rfl,?_⟩⟩;.simp(disch:=omega)only[go_sem]
  .rw[t_];intro x c;rw[hq x c];simp
 |k+1,i,x2,g,x6,x7,hk,hq=>by
  have a:i<E.length:=A_;have f:indexAddrS 1 (.tsl j (E.map nD)) (i:Int)=some (.iv (.cp [.sl E[i].1 (TM.one (.int .i64) E[i].2)])):=by show indexAddrS 1 (.iv (.sl .full (E.map nD))) (i:Int)=_;refine aO4 A_ ?_ rfl;rw[Int.toNat_natCast,p_,D_ a];rfl
  have h:=aUo (bQz E[i].1 E[i].2 (b _ (B8 a)).1 (b _ (B8 a)).2) S;have m:E.take (i+1)=E.take i++[E[i]]:=by rw[H0,D_ a];rfl
  cases hd:crM E[i].2 with
  |true =>rw[hd]at h;refine⟨.ret,j_ i,j_ i,j_ i,e_,e_,aE K _ _ t51L0.eq_1 ?_,.inr ⟨rfl,E8.2 ⟨_,B8 a,hd⟩,i,rfl⟩⟩;simp(disch:=omega)only[go_sem,f,h]
  |false =>
   rw[hd]at h;obtain⟨d,l,n,r,p,o,s,t⟩:=bC9 j E u S b k (i+1) x2 (j_ i) e_ z_ A_ (fun x c=>by
    rw[m,a_,U_]at c;rcases c with c|rfl;.exact hq x c
    .exact hd)
   rw[show((i+1:Nat):Int)=(i:Int)+1 by omega]at s;refine⟨d,l,n,r,p,o,aE K _ _ t51L0.eq_1 ?_,t⟩;simp(disch:=omega)only[go_sem,f,h,aC];exact X_ er s
theorem bQ5(j:Nat)(E:List (Tag×List Int))(g:E.length<=1000000)(S:aA)(d:∀e∈E,cB e.1 e.2/\e.2.length<=1000000):(lim K).call 24 [.tsl j (E.map nD),.fn 26 [] []] S=.ret (.iv (.bool (E.any fun e=>crM e.2)),S):=by
 obtain⟨h,m,i,l,k,n,c,b⟩:=bC9 j E g S d E.length 0 (j_ 0) u_ u_ u_ A_ B_;rw[n0_]at c;have f:(E.map nD).length=E.length:=L_ _;rcases b with⟨rfl,b⟩|⟨rfl,b,q,rfl⟩<;>rw[b]
 .have a:(lim K).call 51 [.tsl j (E.map nD),.fn 26 [] []] S=.ret (j_ (-1),S):=by refine aI K S (fn:=t51) rfl rfl ?_;simp(disch:=omega)only[t51,go_sem,f];rw[c];simp(disch:=omega)only[go_sem]
  refine aI K S (fn:=t24) rfl rfl ?_;simp(disch:=omega)only[t24,go_sem,a]
 .have a:(lim K).call 51 [.tsl j (E.map nD),.fn 26 [] []] S=.ret (j_ q,S):=by refine aI K S (fn:=t51) rfl rfl ?_;simp(disch:=omega)only[t51,go_sem,f];rw[c];simp(disch:=omega)only[go_sem]
  refine aI K S (fn:=t24) rfl rfl ?_;simp(disch:=omega)only[t24,go_sem,a]
theorem bDa(ti:Tag)(ins:List VI)(A:ins.length<=1000000)(S:aA)(s:∀x∈ins,x.us.length<=1000000):∀(k i:Nat) (x2 g x6 x7:TV),i+k=ins.length->(∀x∈ins.take i,b28 x=false) ->∃(c:aW) (h p r n o:TV),lp' (lim K) t54L0 [.iv (.sl ti (ins.map aJ)),.fn 28 [] [],x2,g,j_ ins.length,j_ i,x6,x7] S = .ret (c,[.iv (.sl ti (ins.map aJ)),.fn 28 [] [],h,p,j_ ins.length,r,n,o],S) /\(c=.exit 0/\ins.any b28=false\/c=.ret/\ins.any b28=true/\∃q:Nat,h=j_ q)
 |0,i,x2,g,x6,x7,hk,hq=>by
  obtain rfl:i=ins.length:=A_;rw[B9]at hq;refine⟨.exit 0,x2,g,j_ ins.length,z_,x7,aE K _ _ t54L0.eq_1 ?_,.inl ⟨rfl,?_⟩⟩;.simp(disch:=omega)only[go_sem]
  .rw[t_];intro x u;rw[hq x u];simp
 |k+1,i,x2,g,x6,x7,hk,hq=>by
  have a:i<ins.length:=A_;have b:=gC (w:=8) (f:=aJ) eZ (t:=ti) (l:=ins) (i:=(i:Int)) A_;rw[Int.toNat_natCast,cV]at b;have e:ins.getD i default∈ins:=by simp only[List.getD,D_ a,Option.getD_some];exact B8 a
  have d:=aUo (bQ4 (ins.getD i default) (s _ e)) S;rw[cV]at d;have m:ins.take (i+1)=ins.take i++[ins.getD i default]:=by rw[H0,D_ a];simp[List.getD,D_ a]
  generalize u:ins.getD i default=x at *
  cases hd:b28 x with
  |true =>rw[hd]at d;refine⟨.ret,j_ i,j_ i,j_ i,e_,e_,aE K _ _ t54L0.eq_1 ?_,.inr ⟨rfl,E8.2 ⟨_,e,hd⟩,i,rfl⟩⟩;simp(disch:=omega)only[go_sem,b,d]
  |false =>
   rw[hd]at d;obtain⟨c,h,p,r,n,o,v,z⟩:=bDa ti ins A S s k (i+1) x2 (j_ i) e_ z_ A_ (fun y j=>by
    rw[m,a_,U_]at j;rcases j with j|rfl;.exact hq y j
    .exact hd)
   rw[show((i+1:Nat):Int)=(i:Int)+1 by omega]at v;refine⟨c,h,p,r,n,o,aE K _ _ t54L0.eq_1 ?_,z⟩;simp(disch:=omega)only[go_sem,b,d,aC];exact X_ er v
theorem bQ6(ti:Tag)(ins:List VI)(e:ins.length<=1000000)(S:aA)(f:∀x∈ins,x.us.length<=1000000):(lim K).call 27 [.iv (.sl ti (ins.map aJ)),.fn 28 [] []] S=.ret (.iv (.bool (ins.any b28)),S):=by
 obtain⟨g,k,h,j,i,l,c,b⟩:=bDa ti ins e S f ins.length 0 (j_ 0) u_ u_ u_ A_ B_;rw[n0_]at c;have d:(ins.map aJ).length=ins.length:=L_ _;rcases b with⟨rfl,b⟩|⟨rfl,b,q,rfl⟩<;>rw[b]
 .have a:(lim K).call 54 [.iv (.sl ti (ins.map aJ)),.fn 28 [] []] S=.ret (j_ (-1),S):=by refine aI K S (fn:=t54) rfl rfl ?_;simp(disch:=omega)only[t54,go_sem,d];rw[c];simp(disch:=omega)only[go_sem]
  refine aI K S (fn:=t27) rfl rfl ?_;simp(disch:=omega)only[t27,go_sem,a]
 .have a:(lim K).call 54 [.iv (.sl ti (ins.map aJ)),.fn 28 [] []] S=.ret (j_ q,S):=by refine aI K S (fn:=t54) rfl rfl ?_;simp(disch:=omega)only[t54,go_sem,d];rw[c];simp(disch:=omega)only[go_sem]
  refine aI K S (fn:=t27) rfl rfl ?_;simp(disch:=omega)only[t27,go_sem,a]
structure sP (f:VF):Prop where
 chk:sI f.regs f.sl f.nd f.pr f.ins=true
 sl0:f.sl=0
 crd:∀i,i<f.ins.length->∃Li Lo:List Int,(∀t,1<=t->t<=24->LvR f.ins t i->t∈Li)/\Li.length<=16/\(∀t,1<=t->t<=24->zB f.ins t i->t∈Lo)/\Lo.length<=16
 ins:∀x∈f.ins,b28 x=false
def xH(I:Nat->List Nat)(n:Nat):List (Tag×List Int):=(List.range n).map fun q=>(jL (aZ (wlI 0 (I q))),wlI 0 (I q))
theorem aMc(I:Te_)(n:Nat):bK I n=(xH I n).map nD:=by unfold bK xH;rw[M3];rfl
theorem aUp(l:Ta_):cB (jL (aZ l)) l:=fun h=>by
 unfold jL at h
 split at h
 .rename_i h0;exact aLv.1 h0
 .cases h
theorem bPo{W:Tc_}{P:Int->Prop}{rg:Int}(h:crM (wlI 0 W)=false)(b:∀x,x∈wlI 0 W↔1<=x/\x<rg/\P x)(d:32<=rg):(∀t,1<=t->t<=24->P t->t∈flp p24 (wlI 0 W))/\(flp p24 (wlI 0 W)).length<=16:=by
 refine⟨fun t h3 c a=>D1.2 ⟨(b t).2 ⟨h3,by omega,a⟩,?_⟩,?_⟩;.unfold p24;rw[l_ A_];rfl
 .unfold crM at h;have:=U4 h;omega
theorem aQf(f:VF)(P:f.regs<=100000)(V:f.ins.length<=100000)(p:∀x∈f.ins,x.us.length<=999990/\cB x.tu x.us):∃b,TM.Pure K 12 [.iv (.agg (kY f))] (.iv (.bool b))/\(b=true->sP f):=by
 have s:∀x∈f.ins,x.us.length<=1000000:=fun x z=>by have:=(p x z).1;omega
 have c:=aP9 f.fn f.regs f.sl f.nd f.pr f.rs f.ti f.ins A_ p;have R:=fun h=>aQa (f:=f) P A_ p h;have G:∀h:sI f.regs f.sl f.nd f.pr f.ins=true,0<f.ins.length:=fun h=>by unfold sI at h;simp only[P_,q_]at h;exact h.1.2.2.2.2
 have L:=fun H F h3 J=>(⟨H,F,h3,J⟩:sP f)
 obtain⟨fn,rg,sl,nd,pr,rs,ti,ins⟩:=f;dsimp only at *
 cases hc:sI rg sl nd pr ins with
 |false =>rw[hc,I_ C_]at c;refine⟨false,?_,fun h=>by cases h⟩;rw[qL];dsimp only;unfold gG at c;refine aT t12 rfl rfl ?_;simp(disch:=omega)only[t12,go_sem,aD c]
 |true =>
  rw[hc,K_ rfl]at c;obtain⟨I,O,j,g,l⟩:=R hc;have E:=G hc;rw[qL]at j g |-;dsimp only at j g |-;unfold gG at c;by_cases hs:sl=0
  .subst hs;have x0:indexAddrS 1 (.iv (.sl (jL (bK I ins.length)) (bK I ins.length))) 0=some (.iv (.cp [.sl (jL (aZ (wlI 0 (I 0)))) (TM.one (.int .i64) (wlI 0 (I 0)))])):=ixL (i:=0) E _;have r:=uK I ins.length;have o:=bQ1 I O (n:=ins.length) A_ (jL (bK I ins.length)) (jL (bK O ins.length)) [];have d:=aCd (S:=[]) (Slc.iv [] (jL (aZ (wlI 0 (I 0)))) (wlI 0 (I 0))) (by have:=(l 0 E).1.1;omega) 23 [] rfl rfl p32 (fun x _=>aCe (zG x) []);have U:bK I ins.length++bK O ins.length=(xH I ins.length++xH O ins.length).map nD:=by rw[E1,aMc,aMc]
   have k:=bQ5 0 (xH I ins.length++xH O ins.length) (by simp[xH];omega) [.tok (ins.length+ins.length) 1 26] (fun e u=>by
    rcases a_.1 u with u|u;all_goals
     obtain⟨q,T,rfl⟩:=A0.1 u
     have y:=C5.1 T
     have:=(l q y).1
     exact⟨aUp _,by dsimp only;omega⟩)
   rw[<-U]at k;have C:=fun S=>bQ6 ti ins A_ S s;simp only[List.length_nil,List.nil_append]at o;have m:((ins.length:Int)>0)↔True:=by simp;omega
   cases q1:(wlI 0 (I 0)).any p32 with
   |true =>
    rw[q1]at d;refine⟨false,?_,fun h=>by cases h⟩;generalize bK I ins.length=A at *
    generalize bK O ins.length=B at *
    refine aT t12 rfl rfl ?_;simp(disch:=omega)only[t12,go_sem,aD c,aD j,aD g,r,m,x0,d]
   |false =>
    rw[q1]at d;cases q2:(xH I ins.length++xH O ins.length).any fun e=>crM e.2 with
    |true =>
     rw[q2]at k;refine⟨false,?_,fun h=>by cases h⟩;generalize bK I ins.length=A at *
     generalize bK O ins.length=B at *
     refine aT t12 rfl rfl ?_;simp(disch:=omega)only[t12,go_sem,aD c,aD j,aD g,r,m,x0,d,o,k]
    |false =>
     rw[q2]at k;refine⟨!ins.any b28,?_,fun h=>L hc rfl (fun i v=>?_) (fun x z=>?_)⟩
     .generalize bK I ins.length=A at *
      generalize bK O ins.length=B at *
      refine aT t12 rfl rfl ?_;simp(disch:=omega)only[t12,go_sem,aD c,aD j,aD g,r,m,x0,d,o,k,C]
     .have t:(32:Int)<=rg:=by unfold sI at hc;simp only[P_,q_]at hc;exact hc.1.1
      rw[R0,L8]at q2;obtain⟨_,D,w⟩:=l i v;have a:=t_.1 q2.1 _ (A0.2 ⟨i,C5.2 v,rfl⟩);have b:=t_.1 q2.2 _ (A0.2 ⟨i,C5.2 v,rfl⟩);obtain⟨N,p2⟩:=bPo (by simpa using a) D t;obtain⟨p3,Q⟩:=bPo (by simpa using b) w t;exact⟨_,_,N,p2,p3,Q⟩
     .simp only[D7]at h;simpa using t_.1 h x z
  .refine⟨false,?_,fun h=>by cases h⟩;refine aT t12 rfl rfl ?_;simp(disch:=omega)only[t12,go_sem,aD c,hs]
theorem aMd{α:Type}{p:α->Bool}{l:List α}(h:(l.filter p).length=1){c c':Nat}{x y:α}(j:l[c]?=some x)(f:l[c']?=some y)(d:p x=true)(g:p y=true)(a:c<c'):False:=by
 obtain⟨b,ex⟩:=E_.1 j;have e:l=l.take c++x::l.drop (c+1):=by rw[<-ex,<-A6 b,G1]
 rw[e,I5,E4,K_ d,H_,List.length_cons]at h;have i:y∈(l.drop (c+1)).filter p:=D1.2 ⟨List.mem_iff_getElem?.2 ⟨c'-(c+1),by rw[G6,show c+1+(c'-(c+1))=c' by omega];exact f⟩,g⟩;have:=X5 i;omega
section
variable {f:VF}(hb:sP f)
include hb
theorem qP:(32<=f.regs/\0<=f.nd/\0<=f.sl/\0<=f.pr/\0<f.ins.length)/\(∀x∈f.ins,qM f.regs f.ins x=false)/\aI7 f.ins=true:=by have c:=hb.chk;unfold sI at c;simp only[P_,q_,D7]at c;obtain⟨⟨h,d,i,h3,e⟩,b,a⟩:=c;exact⟨⟨by omega,d,i,h3,e⟩,fun x g=>by simpa using t_.1 b x g,a⟩
theorem aJl{x:VI}(b:x∈f.ins):nC x.op x.im=true/\(∀n∈bS x,0<=n/\n<f.regs)/\(fR x=true->oK f.ins x.lb=1):=by
 have h:=(qP hb).2.1 x b;unfold qM at h;simp only[L8,T9,Bool.and_eq_false_iff,P2,Decidable.not_not]at h;refine⟨h.1,fun n d=>?_,fun c=>?_⟩;.have:=t_.1 h.2.1 n d;unfold nE at this;simp at this;omega
 .rcases h.2.2 with a|a;.rw[c]at a;cases a
  .exact a
theorem zH{x:VI}(j:x∈f.ins):(∀u∈x.us,u<32)/\(x.op=67->x.d<32)/\x.op≠73/\x.op≠74/\x.mp=[]/\∀n∈x.d::x.a::x.b::x.us,bC7 n=true:=by
 have h:=hb.ins x j;unfold b28 at h;simp only[L8,P2]at h;obtain⟨⟨c,k⟩,h3,e,o,g⟩:=h;refine⟨fun u i=>?_,fun l=>?_,h3,e,Z_ A_,fun n m=>?_⟩;.have:=t_.1 c u i;unfold p32 at this;simp at this;omega
 .by_cases h7:32<=x.d;.exact absurd ⟨l,h7⟩ k
  .omega
 .have:=t_.1 g n m;unfold bLb at this;simpa using this
theorem xI:aDf f.ins:=by
 have b:f.ins.any (qM f.regs f.ins)=false:=t_.2 fun x a=>by rw[(qP hb).2.1 x a];decide
 refine⟨fun x a=>⟨(zH hb a).2.2.1,(zH hb a).2.2.2.1⟩,fun x a=>(zH hb a).1,fun x a=>(zH hb a).2.1,fun x a h=>?_,fun c c' l d n u h3=>?_⟩
 .obtain⟨i,s,rfl⟩:=H8 a;have e:f.ins.getD i default=f.ins[i]:=by rw[W_,D_ s];rfl
  obtain⟨q,r,_⟩:=aDd b s (by
   rw[e];unfold fR;rcases h with h|h;.rw[V_ h];rfl
   .rw[V_ h,L9,G2])
  rw[e]at r;exact⟨q,r⟩
 .have t:fR (f.ins.getD c default)=true:=by unfold fR;rw[V_ n,L9]
  have j:=(aJl hb (bQ l)).2.2 t;unfold oK at j;have ex:f.ins[c]?=some (f.ins.getD c default):=by rw[W_,D_ l];rfl
  have k:f.ins[c']?=some (f.ins.getD c' default):=by rw[W_,D_ d];rfl
  have m:(decide ((f.ins.getD c default).op=65)&&decide ((f.ins.getD c default).lb=(f.ins.getD c default).lb))=true:=by rw[V_ n,V_ rfl];rfl
  have o:(decide ((f.ins.getD c' default).op=65)&&decide ((f.ins.getD c' default).lb=(f.ins.getD c default).lb))=true:=by rw[V_ u,V_ h3.symm];rfl
  rcases M7 c c' with g|g|g;.exact(aMd (p:=fun x:VI=>decide (x.op=65)&&decide (x.lb=(f.ins.getD c default).lb)) A_ ex k m o g).elim
  .exact g
  .exact(aMd (p:=fun x:VI=>decide (x.op=65)&&decide (x.lb=(f.ins.getD c default).lb)) A_ k ex o m g).elim
theorem bPp:∀x∈f.ins,∀n,n∈bF x\/n∈aY x->n<f.regs:=fun x p n h=>by
 have i:=(aJl hb p).2.1
 have q:=(qP hb).1.1
 have r:x.a<f.regs:=(i x.a (by unfold bS;simp)).2
 have o:x.b<f.regs:=(i x.b (by unfold bS;simp)).2
 have j:∀u∈x.us,u<f.regs:=fun u j=>(i u (by unfold bS;simp[j])).2
 have k:0<x.d->x.d<f.regs:=fun s=>(i x.d (by unfold bS;rw[K_ (.inr A_)];simp)).2
 rcases h with h|h
 .unfold bF at h
  split at h
  .obtain⟨c,_⟩:=cW.1 h
   rcases J_.1 c with c|c
   .omega
   .rw[U_]at c;omega
  .split at h
   .obtain⟨c,_⟩:=cW.1 h
    rw[U_]at c;omega
   .split at h
    .obtain⟨c,_⟩:=cW.1 h
     rcases a_.1 c with c|c
     .exact j n c
     .rw[U_]at c;omega
    .cases h
 .unfold aY at h
  split at h
  .obtain⟨c,g⟩:=cW.1 h
   rw[U_]at c
   rw[c]at g |-;exact k g
  .split at h
   .obtain⟨c,g⟩:=cW.1 h
    rcases a_.1 c with c|c
    .unfold dP at c
     obtain⟨m,l,e⟩:=A0.1 c
     have:=C5.1 l
     omega
    .rcases J_.1 c with c|c
     .omega
     .rw[U_]at c
      rw[c]at g |-;exact k g
   .cases h
end
theorem aUq(σ:Ta_):∀(r:Int) (l:List VI),rwR σ r l=cnt σ r l l.length
 |r,[]=>rfl
 |r,x::l=>by rw[rwR,List.length_cons,cnt,aUq σ _ l]
theorem aDm(σ:Ta_):∀(r:Int) (l:List VI),r<=rwR σ r l/\rwR σ r l<=r+3*(l.length:Int)
 |r,[]=>by rw[rwR];simp
 |r,x::l=>by have a:=aDm σ (eL σ r x) l;have b:=aCc σ r x;rw[rwR,List.length_cons];omega
theorem lF(σ:Ta_):∀(r:Int) (l:List VI),l.length<=(bG σ r l).length/\(bG σ r l).length<=4*l.length
 |r,[]=>by simp[bG,rwM]
 |r,x::l=>by
  have a:=lF σ (eL σ r x) l;have b:=oP σ r x;have h3:=jV σ r x;have c:=sN σ r x;unfold bG at a |-;rw[rwM,List.flatten_cons,H_,List.length_cons];have:(dM σ r x).length=(bZ σ r x).length+1+(fH σ r x).length:=by unfold dM;simp;omega
  omega
theorem bDb(σ:Ta_)(L:Int):∀(r:Int) (l:List VI),(∀x∈l,x.op≠73/\x.op≠74)->oK (plC σ r l) L=oK l L
 |r,[],_=>rfl
 |r,x::l,h=>by
  have j:=bDb σ L (eL σ r x) l (fun y e=>h y (by simp[e]));have g:=h x B_;unfold oK plC bG at *
  rw[rwM,List.flatten_cons,E1,I5,H_,E4];have c:((bZ σ r x).map plI).filter (fun x=>decide (x.op=65)&&decide (x.lb=L))=[]:=by rw[H6];intro y e;obtain⟨z,i,rfl⟩:=A0.1 e;obtain⟨n,k,q,_,_,rfl⟩:=aL7 i;rw[(aJe q k).2.1];simp
  have d:((fH σ r x).map plI).filter (fun x=>decide (x.op=65)&&decide (x.lb=L))=[]:=by
   rcases iS σ r x with⟨f,_⟩|⟨q,k,f,_⟩;.rw[f];rfl
   .rw[f];have:plI (stI q k)=⟨64,0,q,0,0,0,.nil,[],.nil,[]⟩:=by unfold plI stI;simp
    simp[this]
  have a:plI (eR σ r x)=eR σ r x:=by unfold plI;rw[I_ (show ¬(eR σ r x).op=73 from g.1),I_ (show ¬(eR σ r x).op=74 from g.2)]
  have b:(((dM σ r x).map plI).filter (fun x=>decide (x.op=65)&&decide (x.lb=L))).length=if(decide (x.op=65)&&decide (x.lb=L))=true then 1 else 0:=by unfold dM;rw[E1,Q_,I5,c,E4,d,a];show(List.length (if(decide (x.op=65)&&decide (x.lb=L))=true then [eR σ r x]else []))=_;split<;>rfl
  rw[b];split;.rw[List.length_cons];omega
  .omega
section
variable {f:VF}(hb:sP f){σ:List Int}(hv:aBw σ)
include hb hv
theorem aJm{c e:Nat}(h:aFy σ f.regs f.ins c e):cnt σ f.regs f.ins c+e<rwR σ f.regs f.ins:=by obtain⟨b,g⟩:=h;have a:=sM σ f.regs f.ins c b;rw[aUg]at a;have d:=aDj σ f.regs f.ins (c:=c+1) (c':=f.ins.length) A_ (O_ _);rw[aUq];omega
theorem bDc{c:Nat}(w:c<f.ins.length){n:Int}(g:n∈bS (eR σ (cnt σ f.regs f.ins c) (f.ins.getD c default))):0<=n/\n<rwR σ f.regs f.ins:=by
 have z:=bQ w;have p:=(aJl hb z).2.1;have E:=(aDm σ f.regs f.ins).1;have C:=sJ σ f.regs f.ins c;have A:=(qP hb).1.1;have u:∀m:Int,m∈bS (f.ins.getD c default)->0<=m/\m<rwR σ f.regs f.ins:=fun m l=>by have:=p m l;omega
 have q:∀m:Int,0<=m->m<f.regs->0<=low m/\low m<rwR σ f.regs f.ins:=fun m G F=>by unfold low;split<;>omega
 have v:=p (f.ins.getD c default).a (by unfold bS;simp);have o:=p (f.ins.getD c default).b (by unfold bS;simp);have t:∀e:Nat,e<(bZ σ (cnt σ f.regs f.ins c) (f.ins.getD c default)).length+(fH σ (cnt σ f.regs f.ins c) (f.ins.getD c default)).length->0<=cnt σ f.regs f.ins c+e/\cnt σ f.regs f.ins c+e<rwR σ f.regs f.ins:=fun e y=>by have:=aJm hb hv (c:=c) (e:=e) ⟨w,y⟩;omega
 have r:n=(opA σ (cnt σ f.regs f.ins c) (f.ins.getD c default)).2.1\/n=(opB σ (cnt σ f.regs f.ins c) (f.ins.getD c default)).2.1\/n∈(f.ins.getD c default).us\/n=(opD σ (cnt σ f.regs f.ins c) (f.ins.getD c default)).1/\((f.ins.getD c default).op≠67\/0<=(opD σ (cnt σ f.regs f.ins c) (f.ins.getD c default)).1):=by
  unfold bS at g;rw[show(eR σ (cnt σ f.regs f.ins c) (f.ins.getD c default)).op=(f.ins.getD c default).op from rfl,show(eR σ (cnt σ f.regs f.ins c) (f.ins.getD c default)).d=(opD σ (cnt σ f.regs f.ins c) (f.ins.getD c default)).1 from rfl,show(eR σ (cnt σ f.regs f.ins c) (f.ins.getD c default)).a=(opA σ (cnt σ f.regs f.ins c) (f.ins.getD c default)).2.1 from rfl,show(eR σ (cnt σ f.regs f.ins c) (f.ins.getD c default)).b=(opB σ (cnt σ f.regs f.ins c) (f.ins.getD c default)).2.1 from rfl,show(eR σ (cnt σ f.regs f.ins c) (f.ins.getD c default)).us=(f.ins.getD c default).us from rfl]at g;rcases a_.1 g with g|g
  .rcases J_.1 g with g|g;.exact .inl g
   .rcases J_.1 g with g|g;.exact .inr (.inl g)
    .exact .inr (.inr (.inl g))
  .split at g;.rename_i h;exact .inr (.inr (.inr ⟨U_.1 g,h⟩))
   .cases g
 rcases r with e|e|e|⟨e,i⟩
 .rcases aJd σ (cnt σ f.regs f.ins c) (f.ins.getD c default)with⟨_,_,h3⟩|⟨j,hj,h3⟩|⟨_,h3⟩;.rw[e,h3];omega
  .rw[e,h3];exact t j A_
  .rw[e,h3];exact q _ v.1 v.2
 .rcases aUf σ (cnt σ f.regs f.ins c) (f.ins.getD c default)with⟨_,_,h3⟩|⟨j,hj,h3⟩|⟨_,h3⟩;.rw[e,h3];omega
  .rw[e,h3];exact t j A_
  .rw[e,h3];exact q _ o.1 o.2
 .exact u n (by unfold bS;exact G4 _ (M5 _ (M5 _ e)))
 .have D:=(jV σ (cnt σ f.regs f.ins c) (f.ins.getD c default)).1;have s:(f.ins.getD c default).op≠67\/0<=(f.ins.getD c default).d->0<=(f.ins.getD c default).d/\(f.ins.getD c default).d<f.regs:=fun h=>p _ (by unfold bS;rw[K_ h];simp);have mp:=t (bZ σ (cnt σ f.regs f.ins c) (f.ins.getD c default)).length;rw[e];unfold fH at mp;unfold opD at i mp |-;by_cases l:(f.ins.getD c default).d∈aY (f.ins.getD c default)
  .rw[K_ l]at i mp |-;have x:0<(f.ins.getD c default).d:=by
    unfold aY at l;repeat' split at l
    .exact(cW.1 l).2
    .exact(cW.1 l).2
    .cases l
   cases hs:bV σ (f.ins.getD c default).d with
   |none=>have:=s (.inr A_);dsimp only;omega
   |some k =>rw[hs]at mp;dsimp only at mp |-;rw[D];exact mp B_
  .rw[I_ l]at i |-;dsimp only at i |-;by_cases h67:(f.ins.getD c default).op=67
   .rcases i with h|h;.exact absurd h67 h
    .by_cases x:0<=(f.ins.getD c default).d;.have:=s (.inr x);exact q _ this.1 this.2
     .unfold low at h;split at h<;>omega
   .have:=s (.inl h67);exact q _ this.1 this.2
theorem bDd:sI (rwR σ f.regs f.ins) f.sl f.nd f.pr (plC σ f.regs f.ins)=true:=by
 obtain⟨⟨V,L,J,h3,Z⟩,_,b⟩:=qP hb;have v:=xI hb;have I:=bPp hb;have W:=(aDm σ f.regs f.ins).1;have d:(plC σ f.regs f.ins).length=(bG σ f.regs f.ins).length:=L_ _;have N:=(lF σ f.regs f.ins).1;unfold sI;simp only[P_,q_,D7];refine⟨⟨by omega,L,J,h3,by omega⟩,?_,?_⟩
 .rw[t_];intro y U;obtain⟨k,E,rfl⟩:=H8 U;obtain⟨c,j,s,o,rfl⟩:=eS (by rw[<-d];exact E);have F:=sJ σ f.regs f.ins c;have G:=bQ s;have t:=aDg (σ:=σ) (r:=f.regs) s o;rw[W_,D_ E,Option.getD_some]at t;rw[t];have u:∀(op q a:Int),(op=69\/op=64)->0<=q/\q<rwR σ f.regs f.ins->0<=a/\a<rwR σ f.regs f.ins->¬qM (rwR σ f.regs f.ins) (plC σ f.regs f.ins) ⟨op,q,a,0,0,0,.nil,[],.nil,[]⟩=true:=fun op q a R H Y=>by
   have Q:nC op 0=true:=by unfold nC;rw[V_ (p:=(26<=op/\op<=31)\/(64<=op/\op<=72)) A_,L9]
   have z:fR ⟨op,q,a,0,0,0,.nil,[],.nil,[]⟩=false:=by unfold fR;dsimp only;rw[l_ A_,l_ A_,l_ A_];rfl
   have l:(bS ⟨op,q,a,0,0,0,.nil,[],.nil,[]⟩).any (nE (rwR σ f.regs f.ins))=false:=by rw[t_];intro n i;unfold bS at i;dsimp only at i;rw[K_ A_]at i;unfold nE;simp at i;rcases i with rfl|rfl|rfl<;>simp<;>omega
   unfold qM;rw[z,l];dsimp only;rw[Q,K6];simp
  rcases jF (D_ o)with⟨hjp,_⟩|⟨hje,e⟩|⟨hje,q,w,hp,_,_,e⟩
  .obtain⟨n,k,_,_,e2⟩:=aUe (D_ hjp);have e3:(dM σ (cnt σ f.regs f.ins c) (f.ins.getD c default))[j]?=(bZ σ (cnt σ f.regs f.ins c) (f.ins.getD c default))[j]? := by unfold dM;rw[Y_ hjp]
   rw[D_ o,D_ hjp]at e3;rw[D6 e3,e2];have:=aJm hb hv (c:=c) (e:=j) ⟨s,by omega⟩;have h:plI (ldI (cnt σ f.regs f.ins c+j) k)=⟨69,cnt σ f.regs f.ins c+j,0,0,0,0,.nil,[],.nil,[]⟩:=by unfold plI ldI;simp
   rw[h];exact u 69 _ 0 (.inl rfl) A_ A_
  .rw[e,sK v G];obtain⟨P,b2,b3⟩:=aJl hb G;unfold qM;rw[show(eR σ (cnt σ f.regs f.ins c) (f.ins.getD c default)).op=(f.ins.getD c default).op from rfl,show(eR σ (cnt σ f.regs f.ins c) (f.ins.getD c default)).im=(f.ins.getD c default).im from rfl,show fR (eR σ (cnt σ f.regs f.ins c) (f.ins.getD c default))=fR (f.ins.getD c default) from rfl,show(eR σ (cnt σ f.regs f.ins c) (f.ins.getD c default)).lb=(f.ins.getD c default).lb from rfl,bDb σ _ _ _ v.ls,P];have l:(bS (eR σ (cnt σ f.regs f.ins c) (f.ins.getD c default))).any (nE (rwR σ f.regs f.ins))=false:=by rw[t_];intro n i;have:=bDc hb hv s i;unfold nE;simp;omega
   rw[l];cases z:fR (f.ins.getD c default)with
   |false=>rw[K6];simp
   |true=>rw[b3 z];decide
  .have H:=xE hp;rw[(jV σ (cnt σ f.regs f.ins c) (f.ins.getD c default)).1]at H;have:=aJm hb hv (c:=c) (e:=(bZ σ (cnt σ f.regs f.ins c) (f.ins.getD c default)).length) ⟨s,by rw[hp];simp⟩;have h:plI (stI q w)=⟨64,0,q,0,0,0,.nil,[],.nil,[]⟩:=by unfold plI stI;simp
   rw[e,h];exact u 64 0 q (.inr rfl) A_ A_
 .obtain⟨m,D⟩:∃m,f.ins.length=m+1:=⟨f.ins.length-1,by omega⟩
  have g:m<f.ins.length:=A_;unfold aI7 at b |-;rw[D,N6,q_]at b;have C:=aL8 (σ:=σ) (r:=cnt σ f.regs f.ins m) (x:=f.ins.getD m default) A_;have A:(dM σ (cnt σ f.regs f.ins m) (f.ins.getD m default)).length=(bZ σ (cnt σ f.regs f.ins m) (f.ins.getD m default)).length+1:=by unfold dM;rw[C];simp
  have T:=xB (σ:=σ) (r:=f.regs) (ins:=f.ins) (c:=m) g;rw[<-D,aJa,A]at T;have o:(bZ σ (cnt σ f.regs f.ins m) (f.ins.getD m default)).length<(dM σ (cnt σ f.regs f.ins m) (f.ins.getD m default)).length:=A_;have t:=aDg (σ:=σ) (r:=f.regs) g o;have e2:=aI9 σ (cnt σ f.regs f.ins m) (f.ins.getD m default);rw[D_ o]at e2;rw[D6 e2,sK v (bQ g)]at t;rw[d,show(bG σ f.regs f.ins).length-1=ofs σ f.regs f.ins m+(bZ σ (cnt σ f.regs f.ins m) (f.ins.getD m default)).length by omega,t];exact V_ b
end
theorem aUr{x:VI}{O:Te_}{n i:Nat}(hi:i<n)(hO:(wlI 0 (O i)).length<=500){D:Ta_}(hD:D.length<=30)(J b:Tag)(x0 Y x2 V x5 x7 x13 x14 x15 x16 s o:TV):∀(k j:Nat) (S:aA) (l:Tf_) (c:Nat) (x11 x12 G u m v g e:TV),j+k=D.length->MpP S 0 l c ->∃(S':aA) (l':Tf_) (c':Nat) (h0 F hc h6 ht hb H A:TV),lp' (lim K) t34L1 [x0,Y,x2,V,.iv (.sl J (bK O n)),x5,.map 0,x7,j_ i,.lb ((aJ x).map .iv),.iv (.sl b (aZ D)),x11,x12,x13,x14,x15,x16,s,o,.iv (.sl b (aZ D)),j_ D.length,j_ j,G,u,m,v,g,e] S = .ret (.exit 2,[x0,Y,x2,V,.iv (.sl J (bK O n)),x5,.map 0,x7,j_ i,.lb ((aJ x).map .iv),.iv (.sl b (aZ D)),h0,F,x13,x14,x15,x16,s,o,.iv (.sl b (aZ D)),j_ D.length,j_ D.length,hc,h6,ht,hb,H,A],S')/\MpP S' 0 l' c'/\(∀p,eJ l' p=true↔eJ l p=true\/∃d∈D.drop j,aUj x d (wlI 0 (O i)++D) p)/\l'.length<=l.length+k*600/\bL [0] S S'
 |0,j,S,l,c,x11,x12,G,u,m,v,g,e,h,hm=>by
  obtain rfl:j=D.length:=A_;refine⟨S,l,c,x11,x12,z_,u,m,v,g,e,aE K _ _ t34L1.eq_1 ?_,hm,fun p=>?_,by omega,bL.refl _ _⟩;.simp(disch:=omega)only[go_sem]
  .rw[E0];exact⟨.inl,fun h=>by rcases h with h|⟨r,hr,_⟩;exact h;cases hr⟩
 |k+1,j,S,l,c,x11,x12,G,u,m,v,g,e,h,hm=>by
  have Z:j<D.length:=A_;have a:indexAddrS 1 (.iv (.sl b (aZ D))) (j:Int)=some (.iv (.cp [.int .i64 (D.getD j 0)])):=pI (f:=IV.int .i64) (t:=b) (l:=D) (i:=(j:Int)) A_;have U:=sO Z;have hs:indexAddrS 1 (.iv (.sl J (bK O n))) (i:Int)=some (.iv (.cp [.sl (jL (aZ (wlI 0 (O i)))) (aZ (wlI 0 (O i)))])):=ixL (I:=O) (n:=n) hi J;let E:List (Tag×List Int):=[(jL (aZ (wlI 0 (O i))),wlI 0 (O i)),(b,D)]
  have T:aDb E=wlI 0 (O i)++D:=by show wlI 0 (O i)++(D++[])=_;rw[A4]
  have w:vF E=(wlI 0 (O i)).length+D.length:=by show(wlI 0 (O i)).length+(D.length+0)=_;omega
  have z:=bCq E (by simp[E]) (by rw[w];omega) (by rw[w];omega) S;rw[T]at z;have hh:E.map nD=[[.sl (jL (aZ (wlI 0 (O i)))) (aZ (wlI 0 (O i)))],[.sl b (aZ D)]]:=rfl;rw[hh]at z;have hf:(wlI 0 (O i)++D).length<=1000:=by rw[H_];omega
  have hn:MpP (S++[.tok (wlI 0 (O i)++D).length 1 3]) 0 l c:=⟨aR hm.1 _,hm.2⟩
  obtain⟨S1,l1,c1,F,H,A,lp,he,y,hg,L⟩:=aJh (x:=x) hf (D.getD j 0) S.length x0 Y x2 V (.iv (.sl J (bK O n))) x5 x7 (j_ i) (.iv (.sl b (aZ D))) x13 x14 x15 x16 s o (.iv (.sl b (aZ D))) (j_ D.length) (j_ j) e_ (wlI 0 (O i)++D).length 0 _ l c x12 g e A_ hn;rw[n0_]at lp;rw[C4]at y;obtain⟨S',l',c',hj,ho,h9,h8,h7,ha,hp,h4,ih,h5,R,hu,N⟩:=aUr (x:=x) hi hO hD J b x0 Y x2 V x5 x7 x13 x14 x15 x16 s o k (j+1) S1 l1 c1 (j_ (D.getD j 0)) F e_ (.tsl S.length (aZ (wlI 0 (O i)++D))) (.iv (.int .i64 (wlI 0 (O i)++D).length)) (.iv (.int .i64 (wlI 0 (O i)++D).length)) H A A_ he;rw[show((j+1:Nat):Int)=(j:Int)+1 by omega]at ih;refine⟨S',l',c',hj,ho,h9,h8,h7,ha,hp,h4,aE K _ _ t34L1.eq_1 ?_,h5,fun p=>?_,?_,?_⟩
  .generalize D.getD j 0=d at *
   have P:=eK (wlI 0 (O i)++D);generalize hC:wlI 0 (O i)++D=C at *
   generalize bK O n=RL at *
   clear y R U;generalize wlI 0 (O i)=W at *
   simp(disch:=omega)only[go_sem,a,hs,z,P];rw[lp];simp(disch:=omega)only[go_sem,aC];exact X_ er ih
  .rw[R,y,U];constructor
   .rintro((a|a)|⟨d,Q,a⟩);.exact .inl a
    .exact .inr ⟨_,N5,a⟩
    .exact .inr ⟨d,M5 _ Q,a⟩
   .rintro(a|⟨d,Q,a⟩);.exact .inl (.inl a)
    .rcases J_.1 Q with rfl|Q;.exact .inl (.inr a)
     .exact .inr ⟨d,Q,a⟩
  .rw[H_]at hg;omega
  .refine⟨?_,fun q B hq hB=>N.get q B hq (L.get q B hq (aR hB _))⟩;have a:=L.len;have h2:=N.len;rw[H_]at a;omega
def bDe(x:VI)(p:Int×Int):Prop:=x.op=64/\x.a≠x.d/\x.a≠0/\x.d≠0/\p=prP x.a x.d
def mvS(S:aA)(x:VI)(m:List (Nat×(Int×Int)×Int))(cm:Nat):aA :=
 if x.op=64/\x.a≠x.d/\x.a≠0/\x.d≠0 then(S.set 1 (.mp (mpK en2 qJ (fU m cm (prP x.a x.d) (yY m (prP x.a x.d)))) (aAm m cm (prP x.a x.d)))).set 1 (.mp (mpK en2 qJ (fU m cm (prP x.a x.d) (IntKind.i64.wrap (yY m (prP x.a x.d)+1)))) (aAm m cm (prP x.a x.d)))else S
theorem bQ7{S:aA}{x:VI}{m:Tf_}{c:Nat}(h:MpP S 1 m c):∃f i,MpP (mvS S x m c) 1 f i/\(∀p,eJ f p=true↔eJ m p=true\/bDe x p)/\f.length<=m.length+1/\∀q B,q≠1->S[q]?=some B->(mvS S x m c)[q]?=some B:=by
 unfold mvS;by_cases hc:x.op=64/\x.a≠x.d/\x.a≠0/\x.d≠0;.rw[K_ hc];refine⟨_,_,⟨aM (by simpa using aN h.1) _,h.2.put _ _⟩,fun p=>?_,aBt ..,fun q B j g=>by rw[aB (B0 j),aB (B0 j)];exact g⟩;rw[aPm,D3,q_];exact⟨fun b=>b.elim (fun e=>.inr ⟨hc.1,hc.2.1,hc.2.2.1,hc.2.2.2,e.symm⟩) .inl,fun b=>b.elim .inr (fun e=>.inl e.2.2.2.2.symm)⟩
 .rw[I_ hc];exact⟨m,c,h,fun p=>⟨.inl,fun b=>b.elim id (fun e=>absurd ⟨e.1,e.2.1,e.2.2.1,e.2.2.2.1⟩ hc)⟩,by omega,fun q B _ g=>g⟩
theorem aUs{ti:Tag}{ins:List VI}(hn:ins.length<=1000){O:Te_}(hO:∀i,i<ins.length->(wlI 0 (O i)).length<=500)(tO:Tag)(x0 x1 x2 x3 x5 x13:TV):∀(k i:Nat) (S:aA) (l:Tf_) (c:Nat) (m:Tf_) (J:Nat) (x8 x9 x10 x11 x12 V H G I E u s o y v r:TV),i+k=ins.length->MpP S 0 l c->MpP S 1 m J ->∃(S':aA) (l':Tf_) (c':Nat) (m':Tf_) (U:Nat) (y8 y9 gf Q h5 hz g2 hy ge hp Y T h7 W h6 h0:TV),lp' (lim K) t34L2 [x0,x1,x2,x3,.iv (.sl tO (bK O ins.length)),x5,.map 0,.map 1,x8,x9,x10,x11,x12,x13,.iv (.sl ti (ins.map aJ)),j_ ins.length,j_ (i:Int),V,H,G,I,E,u,s,o,y,v,r] S = .ret (.exit 0,[x0,x1,x2,x3,.iv (.sl tO (bK O ins.length)),x5,.map 0,.map 1,y8,y9,gf,Q,h5,x13,.iv (.sl ti (ins.map aJ)),j_ ins.length,j_ ins.length,hz,g2,hy,ge,hp,Y,T,h7,W,h6,h0],S')/\MpP S' 0 l' c'/\MpP S' 1 m' U/\(∀p,eJ l' p=true↔eJ l p=true\/∃q,i<=q/\q<ins.length/\bC1 (ins.getD q default) (wlI 0 (O q)) p)/\(∀p,eJ m' p=true↔eJ m p=true\/∃q,i<=q/\q<ins.length/\bDe (ins.getD q default) p)/\l'.length<=l.length+k*18000/\m'.length<=m.length+k
 |0,i,S,l,c,m,J,x8,x9,x10,x11,x12,V,H,G,I,E,u,s,o,y,v,r,h,hm,hmm=>by obtain rfl:i=ins.length:=A_;refine⟨S,l,c,m,J,x8,x9,x10,x11,x12,z_,H,G,I,E,u,s,o,y,v,r,aE K _ _ t34L2.eq_1 ?_,hm,hmm,fun p=>⟨.inl,fun h=>h.elim id (fun⟨q,n,D,_⟩=>A_)⟩,fun p=>⟨.inl,fun h=>h.elim id (fun⟨q,n,D,_⟩=>A_)⟩,by omega,by omega⟩;simp(disch:=omega)only[go_sem]
 |k+1,i,S,l,c,m,J,x8,x9,x10,x11,x12,V,H,G,I,E,u,s,o,y,v,r,h,hm,hmm=>by
  have C:i<ins.length:=A_;have j:=gC (w:=8) (f:=aJ) eZ (t:=ti) (l:=ins) (i:=(i:Int)) A_;rw[Int.toNat_natCast,cV]at j;obtain⟨t',_,R⟩:=aP6 (ins.getD i default);rw[cV]at R;have A:=eK (aY (ins.getD i default));have N:=zA (ins.getD i default);obtain⟨m1,hb,hh,L,gj,g6⟩:=bQ7 (x:=ins.getD i default) hmm;have hi:MpP (mvS S (ins.getD i default) m J) 0 l c:=⟨g6 0 _ C_ hm.1,hm.2⟩
  have P:=fun(x11 x12 u s o y v r:TV) (b18:Bool)=>aUr (x:=ins.getD i default) C (hO i C) N tO t' x0 x1 x2 x3 x5 (.map 1) x13 (.iv (.sl ti (ins.map aJ))) (j_ ins.length) (j_ (i:Int)) e_ (.iv (.bool b18)) (aY (ins.getD i default)).length 0 (mvS S (ins.getD i default) m J) l c x11 x12 u s o y v r A_ hi;obtain⟨S1,l1,c1,Q,h5,Y,T,h7,W,h6,h0,lp,g4,Z,gi,hj⟩:=P x11 x12 u s o y v r (decide ((ins.getD i default).op=64/\(ins.getD i default).a≠(ins.getD i default).d/\(ins.getD i default).a≠0/\(ins.getD i default).d≠0));rw[n0_]at lp;rw[C4]at Z;have h8:MpP S1 1 m1 hb:=⟨hj.get 1 _ B_ hh.1,hh.2⟩
  obtain⟨S',l',c',m',U,z8,z9,hk,g7,gc,g5,hr,g3,ga,gg,hv,hu,ht,hw,gd,hq,z,hg,he,h9,hf,g8,gb⟩:=aUs (ti:=ti) hn hO tO x0 x1 x2 x3 x5 x13 k (i+1) S1 l1 c1 m1 hb (j_ (i:Int)) (.lb ((aJ (ins.getD i default)).map .iv)) (.iv (.sl t' (aZ (aY (ins.getD i default))))) Q h5 e_ (.iv (.bool (decide ((ins.getD i default).op=64/\(ins.getD i default).a≠(ins.getD i default).d/\(ins.getD i default).a≠0/\(ins.getD i default).d≠0)))) (.iv (.sl t' (aZ (aY (ins.getD i default))))) (.iv (.int .i64 (aY (ins.getD i default)).length)) (.iv (.int .i64 (aY (ins.getD i default)).length)) Y T h7 W h6 h0 A_ g4 h8;rw[show((i+1:Nat):Int)=(i:Int)+1 by omega,aS]at z;rw[aS]at lp;refine⟨S',l',c',m',U,z8,z9,hk,g7,gc,g5,hr,g3,ga,gg,hv,hu,ht,hw,gd,hq,aE K _ _ t34L2.eq_1 ?_,hg,he,fun p=>?_,fun p=>?_,?_,by omega⟩
  .clear Z h9 hf gi g8 gb L hi h8 hg he P;have g:TM.Pure K 43 [.iv (.agg [.int .i64 (ins.getD i default).op,.int .i64 (ins.getD i default).d,.int .i64 (ins.getD i default).a,.int .i64 (ins.getD i default).b,.int .i64 (ins.getD i default).im,.int .i64 (ins.getD i default).lb,.sl (ins.getD i default).tu (TM.one (.int .i64) (ins.getD i default).us),.sl (ins.getD i default).tm (TM.one (.int .i64) (ins.getD i default).mp)])] (.iv (.sl t' (aZ (aY (ins.getD i default))))):=R;clear R;have hl:=aQe (ins.getD i default).a (ins.getD i default).d;unfold mvS at lp;generalize aY (ins.getD i default)=DD at *
   generalize hx:ins.getD i default=x at *
   generalize bK O ins.length=RL at *
   by_cases hc:x.op=64/\x.a≠x.d/\x.a≠0/\x.d≠0
   .rw[K_ hc,V_ hc]at lp;rw[V_ hc]at z;obtain⟨F,p2,p3,p4⟩:=hc;obtain⟨ha,g9⟩:=hmm;have ho:=es2 g9 (aAm m J (prP x.a x.d));have gh:=aN ha;have g1:∀b,(S.set 1 b)[1]?=some b:=fun b=>aM gh b;have hs:=aG6 m J (prP x.a x.d) (yY m (prP x.a x.d));generalize prP x.a x.d=pd at *
    obtain⟨pa,pb⟩:=pd;dsimp only at *
    rw[F]at lp z g j;simp(disch:=omega)only[go_sem,j,p2,p3,p4,aD hl,ha,g1,ho,hs,aD g,A,ne_eq,P9,C9];rw[lp];simp(disch:=omega)only[go_sem,aC];exact X_ er z
   .rw[I_ hc,l_ hc]at lp;rw[l_ hc]at z;rcases(by omega:x.op≠64\/(x.op=64/\x.a=x.d)\/(x.op=64/\x.a≠x.d/\x.a=0)\/(x.op=64/\x.a≠x.d/\x.a≠0/\x.d=0))with F|⟨F,p2⟩|⟨F,p2,p3⟩|⟨F,p2,p3,p4⟩;.simp(disch:=omega)only[go_sem,j,F,aD g,A];rw[lp];simp(disch:=omega)only[go_sem,aC];exact X_ er z
    .rw[F,p2]at lp z g j;simp(disch:=omega)only[go_sem,j,aD g,A,ne_eq,P9,C9];rw[lp];simp(disch:=omega)only[go_sem,aC];exact X_ er z
    .rw[p3]at p2;rw[F,p3]at lp z g j;simp(disch:=omega)only[go_sem,j,p2,aD g,A,ne_eq,P9,C9];rw[lp];simp(disch:=omega)only[go_sem,aC];exact X_ er z
    .rw[p4]at p2;rw[F,p4]at lp z g j;simp(disch:=omega)only[go_sem,j,p2,p3,aD g,A,ne_eq,P9,C9];rw[lp];simp(disch:=omega)only[go_sem,aC];exact X_ er z
  .rw[h9,Z];constructor
   .rintro((n|⟨d,hd,n⟩)|⟨q,n,D,h3⟩);.exact .inl n
    .exact .inr ⟨i,O_ _,C,d,hd,n⟩
    .exact .inr ⟨q,by omega,D,h3⟩
   .rintro(n|⟨q,n,D,h3⟩);.exact .inl (.inl n)
    .by_cases e:q=i;.subst e;obtain⟨d,hd,h4⟩:=h3;exact .inl (.inr ⟨d,hd,h4⟩)
     .exact .inr ⟨q,by omega,D,h3⟩
  .rw[hf,L];constructor
   .rintro((n|n)|⟨q,n,D,h3⟩);.exact .inl n
    .exact .inr ⟨i,O_ _,C,n⟩
    .exact .inr ⟨q,by omega,D,h3⟩
   .rintro(n|⟨q,n,D,h3⟩);.exact .inl (.inl n)
    .by_cases e:q=i;.subst e;exact .inl (.inr h3)
     .exact .inr ⟨q,by omega,D,h3⟩
  .have:=D4 100 N;omega
def aAr(ks:List (Int×Int)):List (List IV):=ks.map fun p=>[.int .i64 p.1,.int .i64 p.2]
def aQg(ks:List (Int×Int)):Tag:=if ks=[]then .nil else .no
theorem aUt:∀a:List (Int×Int),cP 2 a.length ((gR a).map (IV.int .i64))=aAr a
 |[]=>rfl
 |x::r=>by rw[List.length_cons,gR,Q_,Q_,cP];simp only[List.take_succ_cons,List.take_zero,J5,C4,aUt r];rfl
theorem aQh{S:aA}{j:Nat}{a:Tb_}(h:S[j]?=some (.cells (a.length-1) true (mR a))):cH S (.msl j (a.length-1) 0 a.length a.length 2)=some (aAr a):=by
 have b:sub (mR a) 0 (a.length*2)=some (mR a):=mC (xG a);have c:toIVs (mR a)=some ((gR a).map (IV.int .i64)):=by
  have:mR a=((gR a).map (IV.int .i64)).map TV.iv:=by unfold mR;rw[M3];rfl
  rw[this,fM]
 simp only[cH,h,ne_eq,C9,J3,b,c,Option.map_some,aUt]
structure nF (Q:Int×Int->Prop) (E:List (Int×Int)):Prop where
 inc:E.Pairwise ltq
 mem:∀p,p∈E↔Q p
theorem aMe{l:Tf_}{c:Nat}(a:fG l c){Q:Int×Int->Prop}(h:∀p,eJ l p=true↔Q p):nF Q (gT (l.map (·.2.1))) :=
 ⟨bCz a.keys,fun p=>by rw[(kD _).mem_iff,<-aFw];exact h p⟩
theorem bDf:∀(l:Tb_) (lo e:Int),l.Pairwise ltq->(∀p∈l,lo<=p.1*1000+p.2/\p.1*1000+p.2<e/\0<=p.2/\p.2<1000)->lo<=e->(l.length:Int)<=e-lo
 |[],lo,e,_,_,h=>by simp;omega
 |p::r,lo,e,h1,h2,h3=>by have a:=h2 p (N5 ..);have b:=bDf r (p.1*1000+p.2+1) e (E6.1 h1).2 (fun q f=>by have c:=(E6.1 h1).1 q f;have d:=h2 q (M5 _ f);unfold ltq at c;omega) A_;rw[List.length_cons];omega
theorem xJ{rg:Int}(d:rg<=1000){E:Tb_}(b:E.Pairwise ltq)(c:∀p∈E,InP rg p):E.length<=1000000:=by have:=bDf E 0 1000000 b (fun p a=>by have:=c p a;unfold InP at this;omega) A_;omega
theorem bQ8{fn rg sl nd pr:Int}{rs:Bool}{ti:Tag}{ins:List VI}(hn:ins.length<=1000)(o:rg<=1000){O:Te_}(Q:∀i,i<ins.length->(wlI 0 (O i)).length<=500)(A:∀p,oZ ins (fun i=>wlI 0 (O i)) p->InP rg p)(D:∀p,sL ins p->InP rg p) (u:TM.Pure K 13 [.iv (.agg (gG fn rg sl nd pr rs ti ins))] (.tup [.iv (.sl (jL (bK O ins.length)) (bK O ins.length)),j_ 0])): fP K 34 [.iv (.agg (gG fn rg sl nd pr rs ti ins))] fun v=>∃E M,v=.tup [.iv (.agg [.int .i64 rg,.sl (aQg E) (aAr E),.sl (aQg M) (aAr M)]),j_ 0]/\nF (oZ ins fun i=>wlI 0 (O i)) E/\nF (sL ins) M:=by
 obtain⟨S',l',c',G,R,y8,y9,h8,L,h5,W,Z,U,h7,J,Y,N,h9,V,h6,h0,lp,g,d,y,w,ha,h4⟩:=aUs (ti:=ti) (ins:=ins) A_ Q (jL (bK O ins.length)) (.iv (.agg (gG fn rg sl nd pr rs ti ins))) (.lb [j_ fn,j_ rg,j_ sl,j_ nd,j_ pr,.iv (.bool rs),.iv (.sl ti (ins.map aJ))]) (.lb [j_ 0,k_,k_]) (j_ 0) (j_ 0) z_ ins.length 0 [.mp [] 0,.mp [] 0] [] 0 [] 0 u_ u_ u_ u_ u_ u_ u_ u_ u_ u_ u_ u_ u_ u_ u_ u_ A_ ⟨rfl,fG.nil 0⟩ ⟨rfl,fG.nil 0⟩;rw[n0_]at lp;have x:nF (oZ ins fun i=>wlI 0 (O i)) (gT (l'.map (·.2.1))):=aMe g.2 fun p=>by rw[y];exact⟨fun h=>h.elim (fun h=>by cases h) (fun⟨q,_,h2,h3⟩=>⟨q,h2,h3⟩),fun⟨q,h2,h3⟩=>.inr ⟨q,I3 _,h2,h3⟩⟩
 have z:nF (sL ins) (gT (G.map (·.2.1))):=aMe d.2 fun p=>by rw[w];exact⟨fun h=>h.elim (fun h=>by cases h) (fun⟨q,_,h2,h3⟩=>⟨q,h2,h3⟩),fun⟨q,h2,h3⟩=>.inr ⟨q,I3 _,h2,h3⟩⟩
 have k:(ins.map aJ).length=ins.length:=L_ _;have a:=xJ o x.inc fun p C=>A p ((x.mem p).1 C);have b:=xJ o z.inc fun p C=>D p ((z.mem p).1 C);rw[zF,L_]at a b;have s1:=bC5 g.2 a g.1;unfold fP;unfold gG at *
 refine dJ K _ (fn:=t34) rfl rfl ?_;generalize hks1:l'.map (·.2.1)=k1 at *
 generalize hks2:G.map (·.2.1)=k2 at *
 simp(disch:=omega)only[t34,go_sem,aD u,k];rw[lp];simp(disch:=omega)only[go_sem];refine fI s1 ?_;rintro v S1 ⟨P,t,rfl,T⟩;have n:=P 1 _ (aN d.1) d.1;have F:=bC5 d.2 b n;rw[hks2]at F;generalize hq1:gT k1=q1 at *
 generalize hq2:gT k2=q2 at *
 have fin:∀(S2:aA) (f:Nat),aDl S2 t q1->aDl S2 f q2->∀r:TV×aA,(r.1=.tup [(if q1=[]/\q2=[]then .iv (.agg [.int .i64 rg,.sl .nil [],.sl .nil []])else .agg [j_ rg,zE t q1,zE f q2]),j_ 0]/\r.2=S2)->∃v,TM.resolve r.2 r.1=some v/\∃E M,v=.tup [.iv (.agg [.int .i64 rg,.sl (aQg E) (aAr E),.sl (aQg M) (aAr M)]),j_ 0]/\nF (oZ ins fun i=>wlI 0 (O i)) E/\nF (sL ins) M:=by
  rintro S2 f s b2 ⟨r,_⟩ ⟨I,rfl⟩;dsimp only at I;subst I;refine⟨_,?_,q1,q2,rfl,x,z⟩;by_cases a:q1=[]
  .by_cases b:q2=[]
   .rw[K_ ⟨a,b⟩,a,b];rfl
   .have e2:=aQh (b2 b);rw[I_ (fun h=>b h.2),a,gK,dO _ b];unfold aQg;rw[I_ b];simp(disch:=omega)only[go_sem,e2];rfl
  .have H:=aQh (s a);by_cases b:q2=[]
   .rw[I_ (fun h=>a h.1),b,gK,dO _ a];unfold aQg;rw[I_ a];simp(disch:=omega)only[go_sem,H];rfl
   .have e2:=aQh (b2 b);rw[I_ (fun h=>a h.1),dO _ a,dO _ b];unfold aQg;rw[I_ a,I_ b];simp(disch:=omega)only[go_sem,H,e2]
 by_cases a:q1=[]
 .rw[a,gK];simp(disch:=omega)only[go_sem];refine fI F ?_;rintro v S2 ⟨a2,f,rfl,e⟩;dsimp only at a2 e;rw[hq2]at e |-;by_cases b:q2=[]
  .rw[b,gK];simp(disch:=omega)only[go_sem];refine bE (fin S2 f (fun h=>absurd a h) e _ ⟨?_,rfl⟩);rw[K_ ⟨a,b⟩]
  .rw[dO _ b];simp(disch:=omega)only[go_sem];refine bE (fin S2 f (fun h=>absurd a h) e _ ⟨?_,rfl⟩);rw[I_ (fun h=>b h.2),a,gK,dO _ b]
 .have s:=T a;rw[dO _ a];simp(disch:=omega)only[go_sem];refine fI F ?_;rintro v S2 ⟨a2,f,rfl,e⟩;dsimp only at a2 e;rw[hq2]at e |-;have j:aDl S2 t q1:=fun h=>a2 t _ (aN s) s;by_cases b:q2=[]
  .rw[b,gK];simp(disch:=omega)only[go_sem];refine bE (fin S2 f j e _ ⟨?_,rfl⟩);rw[I_ (fun h=>a h.1),b,gK,dO _ a]
  .rw[dO _ b];simp(disch:=omega)only[go_sem];refine bE (fin S2 f j e _ ⟨?_,rfl⟩);rw[I_ (fun h=>a h.1),dO _ a,dO _ b]
def iM(p:Int×Int):List IV:=[.int .i64 p.1,.int .i64 p.2]
theorem bQ9(n:Nat)(f:Nat->TV):cF n f++[f n]=cF (n+1) f:=by simp[cF,R2]
theorem aMf{n:Nat}{f g:Nat->TV}(h:∀i,i<n->f i=g i):cF n f=cF n g:=by apply R9;intro i a;exact h i (C5.1 a)
theorem fS{j v n:Nat}{r:Nat}(h:r<n):indexAddrS 1 (.msl j v 0 n n 1) (r:Int)=some (.ptr j v r):=by rw[aLm A_,Int.toNat_natCast,A7]
def nI(v:Nat):TV:=.iv (.int .i64 v)
def mE(S:aA)(i n:Nat)(f:Nat->Bool):Prop :=
 ∃l c,S[i]?=some (.mp (mpR vI l) c)/\gE l c/\∀t:Int,cG l t=true↔∃s:Nat,t=s/\s<n/\f s=true
structure Pn where
 n:Nat
 tE:Tag
 E:List (Int×Int)
 tM:Tag
 M:List (Int×Int)
 near:Nat->Nat->Bool
 own:Nat->Nat->Bool
 to:Nat->Nat
 out:Nat->Int
structure Ad where
 ip:Nat
 jn:Nat
 vn:Nat
 jo:Nat
 vo:Nat
 jt:Nat
 vt:Nat
 ju:Nat
 nm:Nat->Nat
 om:Nat->Nat
def dQ(a:Ad)(p:Pn):List TV:=[.iv (.int .i64 p.n),.iv (.sl p.tE (p.E.map iM)),.iv (.sl p.tM (p.M.map iM)),.msl a.jn a.vn 0 p.n p.n 1,.msl a.jo a.vo 0 p.n p.n 1,.msl a.jt a.vt 0 p.n p.n 1,.msl a.ju 0 0 p.n p.n 1]
structure PT (S:aA) (a:Ad) (p:Pn):Prop where
 blk:S[a.ip]?=some (.cells 106 false (dQ a p))
 near:S[a.jn]?=some (.cells a.vn true (cF p.n fun r=>.map (a.nm r)))
 own:S[a.jo]?=some (.cells a.vo true (cF p.n fun r=>.map (a.om r)))
 to:S[a.jt]?=some (.cells a.vt true (cF p.n fun r=>nI (p.to r)))
 out:S[a.ju]?=some (.cells 0 false (cF p.n fun r=>vI (p.out r)))
 nmap:∀r,r<p.n->mE S (a.nm r) p.n (p.near r)
 omap:∀r,r<p.n->mE S (a.om r) p.n (p.own r)
 ninj:∀r s,r<p.n->s<p.n->a.nm r=a.nm s->r=s
 oinj:∀r s,r<p.n->s<p.n->a.om r=a.om s->r=s
 dis:∀r s,r<p.n->s<p.n->a.nm r≠a.om s
 nd:[a.ip,a.jn,a.jo,a.jt,a.ju].Nodup
def Ad.own(a:Ad):List Nat:=[a.ip,a.jn,a.jo,a.jt,a.ju]
structure KpG (a:Ad) (S S':aA):Prop where
 len:S.length<=S'.length
 get:∀i b,S[i]?=some b->i∉a.own->(∀es c,b≠.mp es c)->S'[i]?=some b
theorem KpG.trans{a b:Ad}{S S' S'':aA}(h:KpG a S S')(g:KpG b S' S'')(e:b.own=a.own):KpG a S S'' :=
 ⟨C0 h.len g.len,fun i x f c d=>g.get i x (h.get i x f c d) (by rw[e];exact c) d⟩
theorem KpG.of{a:Ad}{S S':aA}(h:bL [] S S'):KpG a S S':=⟨h.len,fun i b c _ _=>h.get i b B_ c⟩
theorem mE.keep{S S':aA}{i n:Nat}{f:Tj_}{I:Tc_}(h:mE S i n f)(k:bL I S S')(d:i∉I):mE S' i n f:=by obtain⟨l,c,a,b,h3⟩:=h;exact⟨l,c,k.get _ _ d a,b,h3⟩
theorem PT.keep{S S':aA}{a:Ad}{p:Pn}(h:PT S a p)(k:bL [] S S'):PT S' a p :=
 ⟨k.get _ _ B_ h.blk,k.get _ _ B_ h.near,k.get _ _ B_ h.own,k.get _ _ B_ h.to,k.get _ _ B_ h.out,
  fun r b=>(h.nmap r b).keep k B_,fun r b=>(h.omap r b).keep k B_,h.ninj,h.oinj,h.dis,h.nd⟩
theorem bN{S:aA}{i j:Nat}{a b:aG}(h:S[i]?=some a)(g:S[j]?=some b)(c:a≠b):i≠j:=by rintro rfl;rw[h]at g;exact c (D6 g)
theorem PT.nmo{S:aA}{a:Ad}{p:Pn}(h:PT S a p){i n:Nat}{f:Tj_}(d:mE S i n f):i∉a.own:=by obtain⟨l,c,b,_,_⟩:=d;simp only[Ad.own,J_,D5,I4,H2];exact⟨bN b h.blk B_,bN b h.near B_,bN b h.own B_,bN b h.to B_,bN b h.out B_⟩
def deg(n:Nat)(f:Nat->Bool):Nat:=((List.range n).filter f).length
theorem aG7{α:Type}[DecidableEq α]{l m:List α}(b:l.Nodup)(a:m.Nodup)(h:∀x,x∈l↔x∈m):l.length=m.length :=
 ((U2 b a).2 h).length_eq
theorem sQ{α:Type}{l:List (Nat×Int×α)}{c n:Nat}{f:Tj_}(i:gE l c)(j:∀t:Int,cG l t=true↔∃s:Nat,t=s/\s<n/\f s=true):l.length=deg n f:=by
 have d:(l.map (·.2.1)).length=(((List.range n).filter f).map fun s:Nat=>(s:Int)).length:=by
  refine aG7 i.keys ?_ fun x=>?_;.exact V2 _ (fun a b h e=>h A_) (Q5.filter f)
  .rw[<-oJ,j x];simp only[A0,D1,C5];constructor;.rintro⟨s,rfl,d,g⟩;exact⟨s,⟨d,g⟩,rfl⟩
   .rintro⟨s,⟨d,g⟩,rfl⟩;exact⟨s,rfl,d,g⟩
 simpa[deg] using d
theorem bLc(l:Td_)(c:Nat)(k:Int):lkB (.leaf .int) (.int .i64 0) true (some (.mp (mpR vI l) c)) (j_ k)=some (.tup [j_ (lR l k),.iv (.bool (cG l k))]):=by rw[aAj];simp only[lR,cG];cases dK l k<;>rfl
attribute [go_sem] dT bLc bCs
theorem mE.put{S:aA}{i n:Nat}{f:Tj_}{l:Td_}{c:Nat}(g:S[i]?=some (.mp (mpR vI l) c))(d:gE l c)(h3:∀t:Int,cG l t=true↔∃s:Nat,t=s/\s<n/\f s=true)(k:Nat)(j:k<n)(m:n<=1000000000)(v:Int): mE (S.set i (.mp (mpR vI (gV l c k v)) (rP l c k))) i n (upd f k true):=by
 refine⟨_,_,aM (aN g) _,d.put A_ v,fun t=>?_⟩;rw[bJa,D3,h3 t];constructor
 .rintro(h|⟨s,h,b,a⟩);.exact⟨k,by simpa using(M9 h).symm,j,bU ..⟩
  .refine⟨s,h,b,?_⟩;unfold upd;split;.rfl
   .exact a
 .rintro⟨s,h,b,a⟩;unfold upd at a;split at a;.rename_i e;left;simp[h,e]
  .right;exact⟨s,h,b,a⟩
def kG(c:Int):Bool:=decide (1<=c)&&decide (c<=24)
theorem aJn(c:Int):Pure K 87 [j_ c] (.iv (.bool (kG c))):=by
 refine aT t87 rfl rfl ?_;simp(disch:=omega)only[t87,go_sem];repeat' (first|(first|refine aLc (fun h=>?_) (fun h=>?_)|refine aLd (fun h=>?_) (fun h=>?_)|refine aLe (fun h=>?_) (fun h=>?_)|refine aSq (fun h=>?_) (fun h=>?_))|simp(disch:=omega)only[go_sem])
 all_goals (simp[kG, *])
def hiF(p:Pn)(r:Nat):Bool:=decide (r<32)||decide (24<=deg p.n (p.near r))
theorem aMg{S:aA}{j c:Nat}{l:Td_}(h:S[j]?=some (.mp (mpR vI l) c)):rZ .mp S (.map j)=some (j_ l.length):=by show(if zM (.map j)=.mp then(lenOf S (.map j)).map fun(n:Nat)=>TV.iv (.int .i64 n)else none)=_;simp only[zM,lenOf,h,aLp,↓reduceIte,Option.map_some]
theorem aJo{S:aA}{a:Ad}{p:Pn}(h:PT S a p)(r:Nat)(b:r<p.n):(lim K).call 119 [.ptr a.ip 106 0,j_ r] S=.ret (.iv (.bool (hiF p r)),S):=by
 obtain⟨l,c,k,o,h3⟩:=h.nmap r b;have d:=h.blk;have i:=h.near;have m:=sQ o h3;have e:=aMg k;have f:=fS (j:=a.jn) (v:=a.vn) b;have g:=dS (fun r=>TV.map (a.nm r)) b;rw[m]at e;unfold dQ at d;refine aI K _ (fn:=t119) rfl rfl ?_;unfold hiF;by_cases h32:r<32;.simp(disch:=omega)only[t119,go_sem,h32,G2]
 .by_cases h24:24<=deg p.n (p.near r);.simp(disch:=omega)only[t119,go_sem,d,i,f,g,e,h24]
  .simp(disch:=omega)only[t119,go_sem,d,i,f,g,e,h24]
theorem PT.setN{S:aA}{a:Ad}{p:Pn}(h:PT S a p){r:Nat}(g:r<p.n){b:aG}{f:Tj_}(u:mE (S.set (a.nm r) b) (a.nm r) p.n f):PT (S.set (a.nm r) b) a {p with near:=upd p.near r f}:=by
 have m:=h.nmo (h.nmap r g);simp only[Ad.own,J_,D5,I4,H2]at m;obtain⟨v,t,q,w,o⟩:=m;refine⟨?_,?_,?_,?_,?_,fun s d=>?_,fun s d=>?_,h.ninj,h.oinj,h.dis,h.nd⟩;.rw[aB (B0 (B0 v))];exact h.blk
 .rw[aB (B0 (B0 t))];exact h.near
 .rw[aB (B0 (B0 q))];exact h.own
 .rw[aB (B0 (B0 w))];exact h.to
 .rw[aB (B0 (B0 o))];exact h.out
 .by_cases e:s=r;.subst e;simpa[bU] using u
  .have j:a.nm r≠a.nm s:=fun e2=>e (h.ninj _ _ g d e2).symm;obtain⟨l,c,k,i,h3⟩:=h.nmap s d;simp only[dB _ _ e];exact⟨l,c,by rw[aB j];exact k,i,h3⟩
 .obtain⟨l,c,k,i,h3⟩:=h.omap s d;exact⟨l,c,by rw[aB (h.dis r s g d)];exact k,i,h3⟩
theorem PT.setO{S:aA}{a:Ad}{p:Pn}(h:PT S a p){i:Nat}{b r:aG}(g:S[i]?=some b)(k:i∉a.own)(j:∀es c,b≠.mp es c):PT (S.set i r) a p:=by
 simp only[Ad.own,J_,D5,I4,H2]at k;obtain⟨q,o,n,t,m⟩:=k;refine⟨?_,?_,?_,?_,?_,fun s f=>?_,fun s f=>?_,h.ninj,h.oinj,h.dis,h.nd⟩;.rw[aB q];exact h.blk
 .rw[aB o];exact h.near
 .rw[aB n];exact h.own
 .rw[aB t];exact h.to
 .rw[aB m];exact h.out
 .obtain⟨l,c,d,e,h3⟩:=h.nmap s f;exact⟨l,c,by rw[aB (bN g d (j _ _))];exact d,e,h3⟩
 .obtain⟨l,c,d,e,h3⟩:=h.omap s f;exact⟨l,c,by rw[aB (bN g d (j _ _))];exact d,e,h3⟩
theorem PT.nit{S:aA}{a:Ad}{p:Pn}(h:PT S a p){i:Nat}{m:Option Nat}{x:Nat}{y:Tc_}{z:Nat}(b:S[i]?=some (.mit m x y z)):i∉a.own:=by simp only[Ad.own,J_,D5,I4,H2];exact⟨bN b h.blk B_,bN b h.near B_,bN b h.own B_,bN b h.to B_,bN b h.out B_⟩
theorem PT.setIt{S:aA}{a:Ad}{p:Pn}(h:PT S a p){i:Nat}{m:Option Nat}{x:Nat}{y:Tc_}{z:Nat}(c:S[i]?=some (.mit m x y z))(d:aG):PT (S.set i d) a p :=
 h.setO c (h.nit c) B_
def aXe(f:Nat->Nat->Bool)(x y:Nat):Nat->Nat->Bool:=upd (upd f x (upd (f x) y true)) y (upd (f y) x true)
theorem aUu(f:Ti_){x y:Nat}(h:x≠y)(r t:Nat):aXe f x y r t=(f r t||(decide (r=x/\t=y)||decide (r=y/\t=x))):=by
 unfold aXe upd;by_cases h1:r=y
 .subst h1;by_cases h2:t=x;.simp[h2,B0 h]
  .simp[h2,B0 h]
 .by_cases h2:r=x
  .subst h2;by_cases h3:t=y;.simp[h1,h3]
   .simp[h1,h3]
  .simp[h1,h2]
theorem bDg{S:aA}{a:Ad}{p:Pn}(h:PT S a p)(s:p.n<=1000000000){x y:Nat}(d:x<p.n)(b:y<p.n)(g:x≠y): ∃S',(lim K).call 88 [.ptr a.ip 106 0,j_ x,j_ y] S=.ret (u_,S')/\PT S' a {p with near:=aXe p.near x y}/\bL [a.nm x,a.nm y] S S':=by obtain⟨l,c,t,z,h3⟩:=h.nmap x d;have D:=mE.put t z h3 y b s (IntKind.i64.wrap (lR l y+1));have k:=h.setN d D;have w:a.nm x≠a.nm y:=fun e=>g (h.ninj _ _ d b e);obtain⟨l',c',f,q,i⟩:=k.nmap y b;simp only[dB _ _ (B0 g)]at i;have m:=mE.put f q i x d s (IntKind.i64.wrap (lR l' x+1));have o:=k.setN b m;have u:=h.blk;have b2:=h.near;have b3:=k.blk;have b4:=k.near;have A:=fS (j:=a.jn) (v:=a.vn) d;have C:=fS (j:=a.jn) (v:=a.vn) b;have E:=dS (fun r=>TV.map (a.nm r)) d;have F:=dS (fun r=>TV.map (a.nm r)) b;refine⟨_,aI K _ (fn:=t88) rfl rfl ?_,o,(bL.set _ B_ _).trans (bL.set _ B_ _)⟩;simp only[dQ]at u b3;simp(disch:=omega)only[t88,go_sem,u,b2,A,C,E,F,t,b3,b4,f]
structure Uf (p:Pn) (ρ d:Nat->Nat):Prop where
 up:∀r,r<p.n->p.to r≠r->p.to r<p.n/\ρ (p.to r)=ρ r/\d (p.to r)<d r
 fix:∀r,r<p.n->p.to r=r->ρ r=r
theorem Uf.root{p:Pn}{ρ d:Th_}(h:Uf p ρ d):∀(k r:Nat),d r<k->r<p.n->ρ r<p.n/\p.to (ρ r)=ρ r
 |0,r,hk,hr=>A_
 |k+1,r,hk,hr=>by
  by_cases e:p.to r=r;.rw[h.fix r hr e];exact⟨hr,e⟩
  .obtain⟨a,b,h3⟩:=h.up r hr e;have:=h.root k (p.to r) A_ a;rw[b]at this;exact this
theorem bDh{S:aA}{a:Ad}{p:Pn}(h:PT S a p){ρ d:Th_}(f:Uf p ρ d)(x2:TV):∀(k r:Nat) (c:TV),d r<k->r<p.n ->∃g,lp' (lim K) t89L0 [.ptr a.ip 106 0,j_ r,x2,c] S=.ret (.exit 0,[.ptr a.ip 106 0,j_ (ρ r),x2,g],S)
 |0,r,c,hk,hr=>A_
 |k+1,r,c,hk,hr=>by
  have i:=h.blk;have b2:=h.to;have l:=fS (j:=a.jt) (v:=a.vt) hr;have b:=dS (fun r=>nI (p.to r)) hr;simp only[dQ]at i;simp only[nI]at b2 b;by_cases e:p.to r=r;.rw[f.fix r hr e];rw[e]at b;refine⟨z_,aE K _ _ t89L0.eq_1 ?_⟩;simp(disch:=omega)only[go_sem,i,b2,l,b]
  .obtain⟨q,o,h3⟩:=f.up r hr e;obtain⟨g,m⟩:=bDh h f x2 k (p.to r) e_ A_ q;rw[o]at m;have e':¬((p.to r:Int)=(r:Int)):=A_;refine⟨g,aE K _ _ t89L0.eq_1 ?_⟩;simp(disch:=omega)only[go_sem,i,b2,l,b,e'];exact X_ er m
theorem aQi{S:aA}{a:Ad}{p:Pn}(h:PT S a p){ρ d:Th_}(e:Uf p ρ d)(r:Nat)(b:r<p.n):(lim K).call 89 [.ptr a.ip 106 0,j_ r] S=.ret (j_ (ρ r),S):=by obtain⟨f,c⟩:=bDh h e (j_ 0) (d r+1) r u_ A_ b;refine aI K _ (fn:=t89) rfl rfl ?_;simp(disch:=omega)only[t89,go_sem];rw[c];simp(disch:=omega)only[go_sem]
theorem aDn{l:Td_}{n:Nat}{f:Tj_}(h3:∀t:Int,cG l t=true↔∃s:Nat,t=s/\s<n/\f s=true){s:Nat}(a:s<n):cG l (s:Int)=f s:=by
 cases hf:f s with
 |true=>exact(h3 s).2 ⟨s,rfl,a,hf⟩
 |false =>
  cases hh:cG l (s:Int)with
  |false=>rfl
  |true =>obtain⟨s',e,_,h⟩:=(h3 s).1 hh;have:s=s':=A_;rw[<-this,hf]at h;cases h
theorem wE{l:Td_}{n:Nat}{f:Tj_}(h3:∀t:Int,cG l t=true↔∃s:Nat,t=s/\s<n/\f s=true){x:Nat×Int×Int}(a:x∈l):∃s:Nat,x.2.1=s/\s<n/\f s=true :=
 (h3 _).1 (oJ.2 (F3 (f:=fun y:Nat×Int×Int=>y.2.1) a))
theorem aMh{α:Type}{l:List (Nat×Int×α)}(d:(l.map (·.1)).Nodup){x y:Nat×Int×α}(i:x∈l)(g:y∈l)(h:x.1=y.1):x=y:=by
 induction l with
 |nil=>cases i
 |cons a r ih =>
  rw[Q_,C8]at d;have key:∀z∈r,z.1≠a.1:=fun z k e=>d.1 (by rw[<-e];exact F3 (f:=fun w:Nat×Int×α=>w.1) k);rcases J_.1 i with j|c
  .rcases J_.1 g with e2|b;.rw[j,e2]
   .exact absurd (h.symm.trans (by rw[j])) (key y b)
  .rcases J_.1 g with e2|b;.exact absurd (h.trans (by rw[e2])) (key x c)
   .exact ih d.2 c b
def kZ(a:Ad)(x y:Nat)(r3 x4 x5 x6 x7 x8 x9 x10 x11 x12 x13 x14 x15 x16 x17 x18 x19:TV):List TV:=[.ptr a.ip 106 0,.iv (.int .i64 x),.iv (.int .i64 y),r3,x4,x5,x6,x7,x8,x9,x10,x11,x12,x13,x14,x15,x16,x17,x18,x19]
theorem aUv{a:Ad}{p:Pn}{x y:Nat}(I:x<p.n)(hy:y<p.n){bi c:Nat}{l:Td_}(R:gE l c)(Y:∀t:Int,cG l t=true↔∃s:Nat,t=s/\s<p.n/\p.near y s=true)(x6 x7 x8 x9 x10 x14 x15 x16 h o m:TV): ∀(k:Nat) (b:Tc_) (S:aA) (x4 x5 x12 x13:TV),left l b<k->PT S a p->S[bi]?=some (.mit (some (a.nm y)) c b c)->S[a.nm y]?=some (.mp (mpR vI l) c) ->(lp' (lim K) t90L2 (kZ a x y z_ x4 x5 x6 x7 x8 x9 x10 (.it bi) x12 x13 x14 x15 x16 h o m) S).All fun r=>∃u F d e,bL [bi] S r.2.2 /\r.2.1=kZ a x y z_ u F x6 x7 x8 x9 x10 (.it bi) d e x14 x15 x16 h o m /\(r.1=.exit 0\/r.1=.ret)
 |0,b,S,x4,x5,x12,x13,hk,hP,hb,hm=>A_
 |k+1,b,S,x4,x5,x12,x13,hk,hP,hb,hm=>by
  unfold kZ;refine fE t90L2.eq_1 ?_;simp(disch:=omega)only[go_sem];refine jD hb hm R.born (O_ _) (fun W=>?_) (fun z Q hs=>?_);.simp(disch:=omega)only[go_sem];exact bE ⟨_,_,_,_,.refl _ _,rfl,.inl rfl⟩
  .have h0:=vE Q hs;have T:bi≠a.nm y:=bN hb hm B_;have f:=hP.setIt hb (.mit (some (a.nm y)) c (b++[z.1]) c);have E:(S.set bi (.mit (some (a.nm y)) c (b++[z.1]) c))[bi]?=_:=aM (aN hb) _;have A:(S.set bi (.mit (some (a.nm y)) c (b++[z.1]) c))[a.nm y]?=some (.mp (mpR vI l) c):=by rw[aB T];exact hm
   have H:=aAl E A Q R.once;have q:bL [bi] S (S.set bi (.mit (some (a.nm y)) c (b++[z.1]) c)):=bL.set _ B_ _;generalize S.set bi (.mit (some (a.nm y)) c (b++[z.1]) c)=S1 at *
   obtain⟨t,Z,w,h4⟩:=wE Y Q;obtain⟨lx,cx,i,h2,P⟩:=f.nmap x I;have C:=aDn P w;have g:=aJo f t w;have G:=f.blk;have b2:=f.near;have J:=fS (j:=a.jn) (v:=a.vn) I;have V:=dS (fun r=>TV.map (a.nm r)) I;simp only[dQ]at G;rw[Z]at H;have D:=aUv I hy R Y x6 x7 x8 x9 x10 x14 x15 x16 h o m k (b++[z.1]) S1 (j_ t) (.iv (.bool (p.near x t))) e_ z_ A_ f E A;unfold kZ at D;rw[Z];cases hnx:p.near x t with
   |true =>rw[hnx]at C D;simp(disch:=omega)only[go_sem,H,G,b2,J,V,i,C];refine cQ (Out.all_mono ?_ D);rintro r ⟨u,F,d,e,L,U,N⟩;exact⟨u,F,d,e,q.trans L,U,N⟩
   |false =>
    rw[hnx]at C D;cases hhi:hiF p t with
    |true =>rw[hhi]at g;simp(disch:=omega)only[go_sem,H,G,b2,J,V,i,C,g];exact bE ⟨_,_,_,_,q,rfl,.inr rfl⟩
    |false =>rw[hhi]at g;simp(disch:=omega)only[go_sem,H,G,b2,J,V,i,C,g];refine cQ (Out.all_mono ?_ D);rintro r ⟨u,F,d,e,L,U,N⟩;exact⟨u,F,d,e,q.trans L,U,N⟩
theorem aJp{a:Ad}{p:Pn}(w:p.n<=1000000000){x y:Nat}(U:x<p.n){bi c:Nat}{l:Td_}(E:gE l c)(L:∀t:Int,cG l t=true↔∃s:Nat,t=s/\s<p.n/\p.near x s=true)(D x4 x5 x8 x9 x10 x11 x12 x13 f i h:TV): ∀(k:Nat) (m:Nat) (b:Tc_) (S:aA) (x7 x15 x16:TV),left l b<k->m+left l b<=4000000000->PT S a p->S[bi]?=some (.mit (some (a.nm x)) c b c)->S[a.nm x]?=some (.mp (mpR vI l) c) ->(lp' (lim K) t90L1 (kZ a x y D x4 x5 (j_ m) x7 x8 x9 x10 x11 x12 x13 (.it bi) x15 x16 f i h) S).All fun r=>∃(u:Nat) (A d e:TV),u<=m+left l b/\bL [bi] S r.2.2 /\r.2.1=kZ a x y D x4 x5 (j_ u) A x8 x9 x10 x11 x12 x13 (.it bi) d e f i h/\r.1=.exit 2
 |0,m,b,S,x7,x15,x16,hk,hmm,hP,hb,hm=>A_
 |k+1,m,b,S,x7,x15,x16,hk,hmm,hP,hb,hm=>by
  unfold kZ;refine fE t90L1.eq_1 ?_;simp(disch:=omega)only[go_sem];refine jD hb hm E.born (O_ _) (fun R=>?_) (fun z J W=>?_);.simp(disch:=omega)only[go_sem];exact bE ⟨m,_,_,_,by omega,.refl _ _,rfl,rfl⟩
  .have V:=vE J W;have P:bi≠a.nm x:=bN hb hm B_;have q:=hP.setIt hb (.mit (some (a.nm x)) c (b++[z.1]) c);have o:(S.set bi (.mit (some (a.nm x)) c (b++[z.1]) c))[bi]?=_:=aM (aN hb) _;have j:(S.set bi (.mit (some (a.nm x)) c (b++[z.1]) c))[a.nm x]?=some (.mp (mpR vI l) c):=by rw[aB P];exact hm
   have N:=aAl o j J E.once;have C:bL [bi] S (S.set bi (.mit (some (a.nm x)) c (b++[z.1]) c)):=bL.set _ B_ _;generalize S.set bi (.mit (some (a.nm x)) c (b++[z.1]) c)=S1 at *
   obtain⟨t,T,I,Y⟩:=wE L J;have g:=aJo q t I;rw[T]at N;rw[T];cases hhi:hiF p t with
   |true =>rw[hhi]at g;have v:=aJp w (y:=y) U E L D x4 x5 x8 x9 x10 x11 x12 x13 f i h k (m+1) (b++[z.1]) S1 (j_ t) e_ e_ A_ A_ q o j;rw[show((m+1:Nat):Int)=(m:Int)+1 by omega]at v;unfold kZ at v;simp(disch:=omega)only[go_sem,N,g,aC];refine cQ (Out.all_mono ?_ v);rintro r ⟨u,A,d,e,F,G,Q,H⟩;exact⟨u,A,d,e,by omega,C.trans G,Q,H⟩
   |false =>rw[hhi]at g;have v:=aJp w (y:=y) U E L D x4 x5 x8 x9 x10 x11 x12 x13 f i h k m (b++[z.1]) S1 (j_ t) e_ z_ A_ A_ q o j;unfold kZ at v;simp(disch:=omega)only[go_sem,N,g,aC];refine cQ (Out.all_mono ?_ v);rintro r ⟨u,A,d,e,F,G,Q,H⟩;exact⟨u,A,d,e,by omega,C.trans G,Q,H⟩
theorem aCf{a:Ad}{p:Pn}(A:p.n<=1000000000){x y:Nat}(H:x<p.n)(hy:y<p.n){bi c:Nat}{l:Td_}(P:gE l c)(U:∀t:Int,cG l t=true↔∃s:Nat,t=s/\s<p.n/\p.near y s=true)(I x4 x5 x7 x10 x11 x12 x13 x14 x15 x16:TV): ∀(k:Nat) (m:Nat) (b:Tc_) (S:aA) (x8 x9 E D:TV),left l b<k->m+left l b<=4000000000->PT S a p->S[bi]?=some (.mit (some (a.nm y)) c b c)->S[a.nm y]?=some (.mp (mpR vI l) c) ->(lp' (lim K) t90L0 (kZ a x y I x4 x5 (j_ m) x7 x8 x9 x10 x11 x12 x13 x14 x15 x16 (.it bi) E D) S).All fun r=>∃(q:Nat) (F C e d:TV),q<=m+left l b/\bL [bi] S r.2.2 /\r.2.1=kZ a x y I x4 x5 (j_ q) x7 F C x10 x11 x12 x13 x14 x15 x16 (.it bi) e d/\r.1=.exit 4
 |0,m,b,S,x8,x9,E,D,hk,hmm,hP,hb,hm=>A_
 |k+1,m,b,S,x8,x9,E,D,hk,hmm,hP,hb,hm=>by
  unfold kZ;refine fE t90L0.eq_1 ?_;simp(disch:=omega)only[go_sem];refine jD hb hm P.born (O_ _) (fun h2=>?_) (fun z Z hs=>?_);.simp(disch:=omega)only[go_sem];exact bE ⟨m,_,_,_,_,by omega,.refl _ _,rfl,rfl⟩
  .have h4:=vE Z hs;have h0:bi≠a.nm y:=bN hb hm B_;have f:=hP.setIt hb (.mit (some (a.nm y)) c (b++[z.1]) c);have o:(S.set bi (.mit (some (a.nm y)) c (b++[z.1]) c))[bi]?=_:=aM (aN hb) _;have g:(S.set bi (.mit (some (a.nm y)) c (b++[z.1]) c))[a.nm y]?=some (.mp (mpR vI l) c):=by rw[aB h0];exact hm
   have V:=aAl o g Z P.once;have G:bL [bi] S (S.set bi (.mit (some (a.nm y)) c (b++[z.1]) c)):=bL.set _ B_ _;generalize S.set bi (.mit (some (a.nm y)) c (b++[z.1]) c)=S1 at *
   obtain⟨t,ht,N,h5⟩:=wE U Z;obtain⟨lx,cx,w,h6,Y⟩:=f.nmap x H;have R:=aDn Y N;have h:=aJo f t N;have T:=f.blk;have b2:=f.near;have W:=fS (j:=a.jn) (v:=a.vn) H;have s1:=dS (fun r=>TV.map (a.nm r)) H;simp only[dQ]at T;rw[ht]at V;rw[ht];cases hnx:p.near x t with
   |true =>rw[hnx]at R;have i:=aCf A H hy P U I x4 x5 x7 x10 x11 x12 x13 x14 x15 x16 k m (b++[z.1]) S1 (j_ t) e_ e_ z_ A_ A_ f o g;unfold kZ at i;simp(disch:=omega)only[go_sem,V,T,b2,W,s1,w,R];refine cQ (Out.all_mono ?_ i);rintro r ⟨q,F,C,e,d,u,J,Q,L⟩;exact⟨q,F,C,e,d,by omega,G.trans J,Q,L⟩
   |false =>
    rw[hnx]at R;cases hhi:hiF p t with
    |true =>rw[hhi]at h;have i:=aCf A H hy P U I x4 x5 x7 x10 x11 x12 x13 x14 x15 x16 k (m+1) (b++[z.1]) S1 (j_ t) z_ e_ e_ A_ A_ f o g;rw[show((m+1:Nat):Int)=(m:Int)+1 by omega]at i;unfold kZ at i;simp(disch:=omega)only[go_sem,V,T,b2,W,s1,w,R,h,aC];refine cQ (Out.all_mono ?_ i);rintro r ⟨q,F,C,e,d,u,J,Q,L⟩;exact⟨q,F,C,e,d,by omega,G.trans J,Q,L⟩
    |false =>rw[hhi]at h;have i:=aCf A H hy P U I x4 x5 x7 x10 x11 x12 x13 x14 x15 x16 k m (b++[z.1]) S1 (j_ t) z_ e_ z_ A_ A_ f o g;unfold kZ at i;simp(disch:=omega)only[go_sem,V,T,b2,W,s1,w,R,h];refine cQ (Out.all_mono ?_ i);rintro r ⟨q,F,C,e,d,u,J,Q,L⟩;exact⟨q,F,C,e,d,by omega,G.trans J,Q,L⟩
theorem mF{S S':aA}{b:aG}(k:bL [S.length] (S++[b]) S'):bL [] S S' :=
 ⟨by have:=k.len;simp at this;omega,fun i x _ a=>k.get i x (by have:=aN a;simp;omega) (by rw[Y_ (aN a)];exact a)⟩
theorem bDi(n:Nat)(f:Tj_):deg n f<=n:=by have:=D8 f (List.range n);simpa[deg] using this
theorem bRa{S:aA}{a:Ad}{p:Pn}(h:PT S a p)(h2:p.n<=1000000){x y:Nat}(s:x<p.n)(C:y<p.n): ((lim K).call 90 [.ptr a.ip 106 0,j_ x,j_ y] S).All fun r=>(∃b,r.1=.iv (.bool b))/\bL [] S r.2:=by
 obtain⟨F,d,k,l,m⟩:=h.nmap y C;obtain⟨G,E,t,D,w⟩:=h.nmap x s;have N:=h.blk;have b2:=h.near;have W:=fS (j:=a.jn) (v:=a.vn) s;have s1:=dS (fun r=>TV.map (a.nm r)) s;have Q:=fS (j:=a.jn) (v:=a.vn) C;have T:=dS (fun r=>TV.map (a.nm r)) C;simp only[dQ]at N;refine dJ K _ (fn:=t90) rfl rfl ?_;by_cases h32:x<32
 .have I:=kE k;have u:=bL.app [] S [aG.mit (some (a.nm y)) d [] d];have q:=aUv s C l m u_ u_ u_ u_ e_ u_ u_ u_ u_ u_ u_ (left F []+1) [] (S++[.mit (some (a.nm y)) d [] d]) u_ u_ u_ u_ A_ (h.keep u) (cN _ _) (u.get _ _ B_ k);unfold kZ at q;simp(disch:=omega)only[t90,go_sem,h32,N,b2,Q,T,I];refine dN q ?_;rintro j e S' ⟨y4,y5,h4,h5,o,f,c⟩;dsimp only at f c o;subst f;rcases c with rfl|rfl;.simp(disch:=omega)only[go_sem];exact bE ⟨⟨_,rfl⟩,mF o⟩
  .simp(disch:=omega)only[go_sem];exact bE ⟨⟨_,rfl⟩,mF o⟩
 .have V:=kE t;have dx:=sQ D w;have dy:=sQ l m;have h7:=bDi p.n (p.near x);have h6:=bDi p.n (p.near y);have ex:left G []<=G.length:=D8 ..;have ey:left F []<=F.length:=D8 ..;have u:=bL.app [] S [aG.mit (some (a.nm x)) E [] E];have q:=aJp A_ (y:=y) s D w z_ u_ u_ u_ u_ z_ u_ u_ u_ u_ u_ u_ (left G []+1) 0 [] (S++[.mit (some (a.nm x)) E [] E]) u_ u_ u_ A_ A_ (h.keep u) (cN _ _) (u.get _ _ B_ t);rw[n0_]at q;unfold kZ at q;simp(disch:=omega)only[t90,go_sem,h32,N,b2,W,s1,V];refine dN q ?_;rintro j e S1 ⟨Y,y7,H,P,h8,o,f,c⟩;dsimp only at f c o;subst f c;have i:=mF o;have J:=h.keep i;have z:=J.blk;have L:=J.near;simp only[dQ]at z;have g:=i.get _ _ B_ k;have I:=kE g;have R:=bL.app [] S1 [aG.mit (some (a.nm y)) d [] d];have l2:=aCf A_ s C l m z_ u_ u_ y7 z_ u_ u_ u_ (.it S.length) H P (left F []+1) Y [] (S1++[.mit (some (a.nm y)) d [] d]) u_ u_ u_ u_ A_ A_ (J.keep R) (cN _ _) (R.get _ _ B_ g);unfold kZ at l2;simp(disch:=omega)only[go_sem,z,L,Q,T,I];refine dN l2 ?_;rintro j e S2 ⟨m2,y8,y9,Z,U,h0,A,f,c⟩;dsimp only at f c A;subst f c;simp(disch:=omega)only[go_sem];exact bE ⟨⟨_,rfl⟩,i.trans (mF A)⟩
structure KpX (I:List Nat) (S S':aA):Prop where
 len:S.length<=S'.length
 get:∀i b,S[i]?=some b->i∉I->(∀es c,b≠.mp es c)->S'[i]?=some b
theorem KpX.trans{I:Tc_}{S S' S'':aA}(h:KpX I S S')(g:KpX I S' S''):KpX I S S'' :=
 ⟨C0 h.len g.len,fun i x c a b=>g.get i x (h.get i x c a b) a b⟩
theorem KpX.refl(I:Tc_)(S:aA):KpX I S S:=⟨O_ _,fun _ _ h _ _=>h⟩
theorem KpX.mono{I J:Tc_}{S S':aA}(h:KpX I S S')(a:∀i∈I,i∈J):KpX J S S':=⟨h.len,fun i b c d f=>h.get i b c (fun e=>d (a i e)) f⟩
theorem KpX.keep{I J:Tc_}{S S':aA}(k:bL I S S')(j:∀i∈I,i∈J\/∃es c,S[i]?=some (.mp es c)):KpX J S S' :=
 ⟨k.len,fun i b d e g=>k.get i b (fun f=>by
  rcases j i f with h|⟨es,c,a⟩;.exact e h
  .rw[d]at a;exact g es c (D6 a)) d⟩
theorem KpX.toG{a:Ad}{S S':aA}(h:KpX a.own S S'):KpG a S S':=⟨h.len,h.get⟩
theorem KpX.new{I:Tc_}{S S':aA}{b:aG}(k:KpX (S.length::I) (S++[b]) S'):KpX I S S' :=
 ⟨by have:=k.len;simp at this;omega,fun i x a c d=>k.get i x (by rw[Y_ (aN a)];exact a) (by have:=aN a;simp only[J_,H2];exact⟨by omega,c⟩) d⟩
theorem nW{α a:Type}(g:α->a)(f:Nat->α)(i:Nat)(x:α):upd (fun r=>g (f r)) i (g x)=fun r=>g (upd f i x r):=by funext r;unfold upd;split<;>rfl
theorem PT.congr{S:aA}{a:Ad}{p:Pn}(h:PT S a p){f:Ti_}(i:∀r s,r<p.n->s<p.n->p.near r s=f r s):PT S a {p with near:=f} :=
 ⟨h.blk,h.near,h.own,h.to,h.out,fun r d=>by
  obtain⟨l,c,k,j,h3⟩:=h.nmap r d;refine⟨l,c,k,j,fun t=>(h3 t).trans ⟨?_,?_⟩⟩;.rintro⟨s,e,b,g⟩;exact⟨s,e,b,by show f r s=true;rw[<-i r s d b];exact g⟩
  .rintro⟨s,e,b,g⟩;exact⟨s,e,b,by rw[i r s d b];exact g⟩,h.omap,h.ninj,h.oinj,h.dis,h.nd⟩
theorem PT.setTo{S:aA}{a:Ad}{p:Pn}(h:PT S a p)(y x:Nat):PT (S.set a.jt (.cells a.vt true (cF p.n (upd (fun r=>nI (p.to r)) y (nI x))))) a {p with to:=upd p.to y x}:=by
 have g:=h.nd;simp only[C8,J_,D5,I4,H2]at g;obtain⟨⟨u,m,k,q⟩,⟨t,i,o⟩,⟨j,v⟩,f,_⟩:=g;refine⟨?_,?_,?_,?_,?_,fun s e=>?_,fun s e=>?_,h.ninj,h.oinj,h.dis,h.nd⟩;.rw[aB (B0 k)];exact h.blk
 .rw[aB (B0 i)];exact h.near
 .rw[aB (B0 j)];exact h.own
 .rw[aM (aN h.to),nW nI]
 .rw[aB f];exact h.out
 .obtain⟨l,c,b,d,h3⟩:=h.nmap s e;exact⟨l,c,by rw[aB (B0 (bN b h.to B_))];exact b,d,h3⟩
 .obtain⟨l,c,b,d,h3⟩:=h.omap s e;exact⟨l,c,by rw[aB (B0 (bN b h.to B_))];exact b,d,h3⟩
theorem PT.setOut{S:aA}{a:Ad}{p:Pn}(h:PT S a p)(y:Nat)(x:Int):PT (S.set a.ju (.cells 0 false (cF p.n (upd (fun r=>vI (p.out r)) y (vI x))))) a {p with out:=upd p.out y x}:=by
 have g:=h.nd;simp only[C8,J_,D5,I4,H2]at g;obtain⟨⟨q,m,v,j⟩,⟨o,t,i⟩,⟨u,k⟩,f,_⟩:=g;refine⟨?_,?_,?_,?_,?_,fun s e=>?_,fun s e=>?_,h.ninj,h.oinj,h.dis,h.nd⟩;.rw[aB (B0 j)];exact h.blk
 .rw[aB (B0 i)];exact h.near
 .rw[aB (B0 k)];exact h.own
 .rw[aB (B0 f)];exact h.to
 .rw[aM (aN h.out),nW vI]
 .obtain⟨l,c,b,d,h3⟩:=h.nmap s e;exact⟨l,c,by rw[aB (B0 (bN b h.out B_))];exact b,d,h3⟩
 .obtain⟨l,c,b,d,h3⟩:=h.omap s e;exact⟨l,c,by rw[aB (B0 (bN b h.out B_))];exact b,d,h3⟩
theorem PT.newN{S:aA}{a:Ad}{p:Pn}(h:PT S a p)(y:Nat)(A:y<p.n):PT ((S++[aG.mp [] 0]).set a.jn (.cells a.vn true (cF p.n (upd (fun r=>TV.map (a.nm r)) y (.map S.length))))) {a with nm:=upd a.nm y S.length} {p with near:=upd p.near y fun _=>false}:=by
 have d:=h.keep (bL.app [] S [aG.mp [] 0]);have m:=h.nd;simp only[C8,J_,D5,I4,H2]at m;obtain⟨⟨u,x,E,z⟩,⟨q,w,o⟩,⟨C,D⟩,v,_⟩:=m;have i:∀r,r<p.n->a.nm r<S.length:=fun r g=>by obtain⟨l,c,b,_⟩:=h.nmap r g;exact aN b
 have k:∀r,r<p.n->a.om r<S.length:=fun r g=>by obtain⟨l,c,b,_⟩:=h.omap r g;exact aN b
 refine⟨?_,?_,?_,?_,?_,fun s f=>?_,fun s f=>?_,fun r s g f e=>?_,h.oinj,fun r s g f=>?_,h.nd⟩;.rw[aB (B0 u)];exact d.blk
 .rw[aM (aN d.near),nW TV.map]
 .rw[aB q];exact d.own
 .rw[aB w];exact d.to
 .rw[aB o];exact d.out
 .by_cases e:s=y
  .subst e;refine⟨[],0,?_,gE.nil 0,fun t=>?_⟩
   .have:a.jn≠S.length:=by have:=aN h.near;omega
    simp only[bU];rw[aB this];exact cN ..
   .simp[bU,cG,dK]
  .obtain⟨l,c,b,j,h3⟩:=d.nmap s f;simp only[dB _ _ e];exact⟨l,c,by rw[aB (B0 (bN b d.near B_))];exact b,j,h3⟩
 .obtain⟨l,c,b,j,h3⟩:=d.omap s f;exact⟨l,c,by rw[aB (B0 (bN b d.near B_))];exact b,j,h3⟩
 .have b:=i r g;have j:=i s f;simp only[upd]at e;split at e<;>split at e;.rename_i e1 e2;rw[e1,e2]
  .omega
  .omega
  .exact h.ninj r s g f e
 .have b:=k s f;simp only[upd];split;.omega
  .exact h.dis r s g f
def sR(f:Nat->Nat->Bool)(x y:Nat)(D:Nat->Bool)(r s:Nat):Bool :=
 if r=y then f y s else if s=y then(f r y&&!D r)else(f r s||(decide (r=x)&&D s)||(decide (s=x)&&D r))
theorem aXf(f:Ti_)(x y:Nat):sR f x y (fun _=>false)=f:=by
 funext r s;unfold sR;split;.rename_i e;rw[e]
 .split;.rename_i e;rw[e];simp
  .simp
theorem aXg(f:Ti_){x y t:Nat}(D:Tj_)(b:x≠y)(c:t≠x)(a:t≠y)(e:f y t=true)(g:Tj_)(d:∀s,g s=(decide (s≠y)&&sR f x y D t s)):aXe (upd (sR f x y D) t g) x t=sR f x y (upd D t true):=by
 funext r s;rw[aUu _ (B0 c)];unfold upd;by_cases hrt:r=t
 .subst hrt;rw[K_ rfl,d];unfold sR;simp only[a,c,J3,N8,Z5,K6,O7,Z2,false_and,G7,Z8,E7,Bool.and_false];by_cases hs:s=y;.subst hs;simp[B0 b]
  .by_cases hsx:s=x;.subst hsx;simp[hs]
   .simp[hs,hsx]
 .rw[I_ hrt];unfold sR;by_cases hry:r=y;.subst hry;simp[B0 b,B0 a]
  .simp only[hry,J3];by_cases hs:s=y;.subst hs;simp[hrt,B0 a]
   .simp only[hs,J3];by_cases hrx:r=x
    .subst hrx;by_cases hst:s=t;.subst hst;simp
     .simp[hst,hrt]
    .by_cases hst:s=t;.subst hst;simp[hrx,hrt]
     .simp[hrx,hst,hrt]
end Go.Proofs.YtehlgnfhkidgoaaGreatDoor
