/- Some texts of the proof, joined. Condition: none. -/
import Derived.Test.YtehlgnfhkidgoaaGreatDoorJc
import Derived.Test.YtehlgnfhkidgoaaGreatDoorJb
set_option linter.unusedSectionVars false
set_option maxRecDepth 100000
set_option maxHeartbeats 64000000
set_option linter.unusedSimpArgs false
set_option linter.unusedVariables false
namespace Go.Proofs.YtehlgnfhkidgoaaGreatDoor
open Go Go.TM
structure Slc (S:aA) (v:TV) (C:List Int):Prop where
 len:rZ .sl S v=some (.iv (.int .i64 C.length))
 frm:(∃a,v=.iv a)\/(∃j l,v=.tsl j l)\/∃a b c d e f,v=.msl a b c d e f
 ix:∀i:Nat,i<C.length->∃a,indexAddrS 1 v (i:Int)=some a/\∀env,bP env S a 1=some [.iv (.int .i64 (C.getD i 0))]
theorem Slc.loc{S:aA}{v:TV}{C:Ta_}(h:Slc S v C)(q:Nat):mX q v=v:=by rcases h.frm with⟨a,rfl⟩|⟨j,l,rfl⟩|⟨a,b,c,d,e,f,rfl⟩<;>rfl
theorem Slc.nlp{S:aA}{v:TV}{C:Ta_}(h:Slc S v C):cA v=false:=by rcases h.frm with⟨a,rfl⟩|⟨j,l,rfl⟩|⟨a,b,c,d,e,f,rfl⟩<;>rfl
theorem Slc.wb{S0:aA}{v:TV}{C:Ta_}(h:Slc S0 v C)(j:Nat)(ops:List aK)(i:Nat)(M:To_)(n:Nat)(g:List TM.Fr)(env:Env)(S:aA):aAg K (lim K) v j ops i M n g env S=sC K (lim K) ops (i+1) M n g (env.set j v) S:=by
 rcases h.frm with⟨a,rfl⟩|⟨j,l,rfl⟩|⟨a,b,c,d,e,f,rfl⟩;.exact aCu ..
 .exact aFg ..
 .exact aOt ..
theorem Slc.iv(S:aA)(t:Tag)(C:Ta_):Slc S (.iv (.sl t (TM.one (.int .i64) C))) C :=
 ⟨by rw[aWb,TM.kB],.inl ⟨_,rfl⟩,fun i a=>⟨_,pI (f:=IV.int .i64) (t:=t) (l:=C) (i:=(i:Int)) A_,fun env=>by rw[Int.toNat_natCast];rfl⟩⟩
theorem Slc.tsl(S:aA)(j:Nat)(C:Ta_):Slc S (.tsl j (aZ C)) C :=
 ⟨by rw[aNw,eK],.inr (.inl ⟨_,_,rfl⟩),fun i a=>⟨_,bKw a,fun env=>rfl⟩⟩
theorem Slc.msl{S:aA}{j v cap:Nat}{b:Bool}{C:Ta_}{J:Tn_}(h:S[j]?=some (.cells v b (C.map vI++J))):Slc S (.msl j v 0 C.length cap 1) C :=
 ⟨rfl,.inr (.inr ⟨_,_,_,_,_,_,rfl⟩),fun i a=>⟨_,iO a,fun env=>by simp only[bP,h,↓reduceIte];exact oY a⟩⟩
def bC6(p:Int->Bool)(C:List Int):Int:=if C.any p then(C.findIdx p:Nat)else -1
theorem aUl{S:aA}{v:TV}{C:Ta_}(h:Slc S v C)(G:C.length<=9000000)(g:Nat)(cap:Tn_){b:Bool}(t:cap.all kM=b)(p:Int->Bool) (y:∀x∈C,cvA (lim K) b S g (j_ x::cap)=.ret (.iv (.bool (p x)),S)):∀(k i:Nat) (x2 l x6 x7:TV),i+k=C.length->(∀x∈C.take i,p x=false) ->∃(e:aW) (j n q s o:TV),lp' (lim K) t50L0 [v,.fn g [] cap,x2,l,j_ C.length,j_ i,x6,x7] S = .ret (e,[v,.fn g [] cap,j,n,j_ C.length,q,s,o],S) /\(e=.exit 0/\C.any p=false\/e=.ret/\C.any p=true/\j=j_ (C.findIdx p:Nat))
 |0,i,x2,l,x6,x7,hk,hq=>by
  obtain rfl:i=C.length:=A_;rw[C0]at hq;have f:=h.loc;refine⟨.exit 0,x2,l,j_ C.length,z_,x7,aE K _ _ t50L0.eq_1 ?_,.inl ⟨rfl,?_⟩⟩;.simp(disch:=omega)only[go_sem,f]
  .rw[t_];intro x d;rw[hq x d];simp
 |k+1,i,x2,l,x6,x7,hk,hq=>by
  have c:i<C.length:=A_;obtain⟨a,z,w⟩:=h.ix i c;have f:=h.loc;have m:=y (C.getD i 0) (nU c);have u:=iR c;cases hd:p (C.getD i 0)with
  |true =>
   rw[hd]at m;have r:C.findIdx p=i:=by
    have F:C=C.take i++C.getD i 0::C.drop (i+1):=by rw[<-sO c,F9]
    rw[F,List.findIdx_append,I_ (by rw[X5];rintro⟨x,d,D⟩;rw[hq x d]at D;cases D),List.findIdx_cons,hd];simp;omega
   refine⟨.ret,j_ i,j_ i,j_ i,e_,e_,aE K _ _ t50L0.eq_1 ?_,.inr ⟨rfl,E8.2 ⟨_,nU c,hd⟩,by rw[r]⟩⟩;simp(disch:=omega)only[go_sem,f,z,w,t,m]
  |false =>
   rw[hd]at m;obtain⟨e,j,n,q,s,o,A,E⟩:=aUl h G g cap t p y k (i+1) x2 (j_ i) e_ z_ A_ (fun x d=>by
    rw[u,a_,U_]at d;rcases d with d|rfl;.exact hq x d
    .exact hd)
   rw[show((i+1:Nat):Int)=(i:Int)+1 by omega]at A;refine⟨e,j,n,q,s,o,aE K _ _ t50L0.eq_1 ?_,E⟩;simp(disch:=omega)only[go_sem,f,z,w,t,m,aC];exact X_ er A
theorem aJj{S:aA}{v:TV}{C:Ta_}(h:Slc S v C)(i:C.length<=9000000)(g:Nat)(cap:Tn_){b:Bool}(j:cap.all kM=b)(p:Int->Bool) (f:∀x∈C,cvA (lim K) b S g (j_ x::cap)=.ret (.iv (.bool (p x)),S)):(lim K).call 50 [v,.fn g [] cap] S=.ret (j_ (bC6 p C),S):=by
 obtain⟨q,l,k,o,m,n,c,a⟩:=aUl h i g cap j p f C.length 0 (j_ 0) u_ u_ u_ A_ B_;rw[n0_]at c;have e:=h.loc;have d:=h.len;unfold bC6;rcases a with⟨rfl,a⟩|⟨rfl,a,rfl⟩;.rw[a,I_ C_];refine aI K S (fn:=t50) rfl rfl ?_;simp(disch:=omega)only[t50,go_sem,e,d];rw[c];simp(disch:=omega)only[go_sem]
 .rw[a,K_ rfl];refine aI K S (fn:=t50) rfl rfl ?_;simp(disch:=omega)only[t50,go_sem,e,d];rw[c];simp(disch:=omega)only[go_sem]
theorem aCd{S:aA}{v:TV}{C:Ta_}(h:Slc S v C)(i:C.length<=9000000)(g:Nat)(cap:Tn_){b:Bool}(j:cap.all kM=b)(d:cap.any cA=false)(p:Int->Bool) (f:∀x∈C,cvA (lim K) b S g (j_ x::cap)=.ret (.iv (.bool (p x)),S)):(lim K).call 22 [v,.fn g [] cap] S=.ret (.iv (.bool (C.any p)),S):=by
 have a:=aJj h i g cap j p f;have e:=h.loc;have c:=h.nlp;unfold bC6 at a;cases ha:C.any p with
 |true =>rw[ha,K_ rfl]at a;refine aI K S (fn:=t22) rfl rfl ?_;simp(disch:=omega)only[t22,go_sem,e,c,d,a]
 |false =>rw[ha,I_ C_]at a;refine aI K S (fn:=t22) rfl rfl ?_;simp(disch:=omega)only[t22,go_sem,e,c,d,a]
def flp(p:Int->Bool)(C:List Int):List Int:=C.filter fun n=>!p n
theorem aUm{p:Int->Bool}{C:Ta_}(h:∀x∈C,p x=false):flp p C=C:=R8.2 fun a b=>by rw[h a b];rfl
theorem aMb{p:Int->Bool}{C:Ta_}{i:Nat}(h:i<C.length):flp p (C.take (i+1))=if p (C.getD i 0)then flp p (C.take i)else flp p (C.take i)++[C.getD i 0]:=by rw[iR h];unfold flp;rw[I5];generalize C.getD i 0=x;cases hp:p x<;>simp[hp]
theorem aJk(p:Int->Bool)(C:Ta_):(flp p C).length<=C.length:=D8 _ _
theorem aJl{S:aA}{j v:Nat}{b:Bool}{C:Ta_}{J:Tn_}(u:j<S.length)(A:C.length<=9000000)(g:Nat)(cap:Tn_){bb:Bool}(q:cap.all kM=bb)(p:Int->Bool) (w:∀(B:aG) (x:Int),cvA (lim K) bb (S.set j B) g (j_ x::cap)=.ret (.iv (.bool (p x)),S.set j B)) (cp:Nat) (x2 x6:TV):∀(k i:Nat) (x5 x7 x8:TV),i+k=C.length ->∃e d n,lp' (lim K) t40L0 [.msl j v 0 C.length cp 1,.fn g [] cap,x2,.iv (.int .i64 ((flp p (C.take i)).length:Nat)),j_ i,x5,x6,x7,x8] (S.set j (.cells v b ((flp p (C.take i)++C.drop (flp p (C.take i)).length).map vI++J))) = .ret (.exit 0,[.msl j v 0 C.length cp 1,.fn g [] cap,x2,j_ ((flp p C).length:Nat),j_ C.length,e,x6,d,n],S.set j (.cells v b ((flp p C++C.drop (flp p C).length).map vI++J)))
 |0,i,x5,x7,x8,hk=>by obtain rfl:i=C.length:=A_;rw[C0];refine⟨x5,z_,x8,aE K _ _ t40L0.eq_1 ?_⟩;simp(disch:=omega)only[go_sem]
 |k+1,i,x5,x7,x8,hk=>by
  have f:i<C.length:=A_;have r:(flp p (C.take i)).length<=i:=B9 (aJk _ _) (by simp;omega);have c:=uG (D:=flp p (C.take i)) (C:=C) A_;have E:=iO (j:=j) (v:=v) (cap:=cp) f;have o:=oY (C:=flp p (C.take i)++C.drop (flp p (C.take i)).length) (J:=J) (i:=i) A_;rw[aIs r]at o;have m:=w (.cells v b ((flp p (C.take i)++C.drop (flp p (C.take i)).length).map vI++J)) (C.getD i 0);have a:=aMb (p:=p) f;have s:=aM u (.cells v b ((flp p (C.take i)++C.drop (flp p (C.take i)).length).map vI++J));simp only[vI]at s o m;cases hd:p (C.getD i 0)with
  |true =>
   rw[hd]at m;rw[hd,K_ rfl]at a;obtain⟨e,d,n,l⟩:=aJl (v:=v) (b:=b) (J:=J) u A g cap q p w cp x2 x6 k (i+1) (j_ (C.getD i 0)) e_ z_ A_;rw[a,show((i+1:Nat):Int)=(i:Int)+1 by omega]at l;refine⟨e,d,n,aE K _ _ t40L0.eq_1 ?_⟩;generalize hS1:S.set j (.cells v b ((flp p (C.take i)++C.drop (flp p (C.take i)).length).map vI++J))=S1 at *
   simp(disch:=omega)only[go_sem,E,s,o,q,m,aC];exact X_ er l
  |false =>
   rw[hd]at m;rw[hd,I_ C_]at a;have z:(flp p (C.take i)).length<C.length:=A_;have G:=iO (j:=j) (v:=v) (cap:=cp) z;have t:=aIq (C:=flp p (C.take i)++C.drop (flp p (C.take i)).length) (J:=J) (i:=(flp p (C.take i)).length) (C.getD i 0) A_;rw[aIr _ _ _ z]at t;have y:(flp p (C.take i)).length+1<=((flp p (C.take i)++C.drop (flp p (C.take i)).length).map vI++J).length:=by rw[H_,L_,c];omega
   obtain⟨e,d,n,l⟩:=aJl (v:=v) (b:=b) (J:=J) u A g cap q p w cp x2 x6 k (i+1) (j_ (C.getD i 0)) e_ e_ A_;rw[a,show((i+1:Nat):Int)=(i:Int)+1 by omega,H_,List.length_singleton,show(((flp p (C.take i)).length+1:Nat):Int)=((flp p (C.take i)).length:Int)+1 by omega]at l;have F:∀B,(S.set j (.cells v b ((flp p (C.take i)++C.drop (flp p (C.take i)).length).map vI++J))).set j B=S.set j B:=fun B=>H0 ..;simp only[vI]at t;refine⟨e,d,n,aE K _ _ t40L0.eq_1 ?_⟩;generalize hS1:S.set j (.cells v b ((flp p (C.take i)++C.drop (flp p (C.take i)).length).map vI++J))=S1 at *
   simp(disch:=omega)only[go_sem,E,G,s,o,q,m,aC,y,t,F];exact X_ er l
theorem aUn{S:aA}{j v:Nat}{b:Bool}{C:Ta_}{J:Tn_}(h:S[j]?=some (.cells v b (C.map vI++J)))(E:C.length<=9000000){cp:Nat}(T:C.length<=cp)(g:Nat)(cap:Tn_){bb:Bool}(N:cap.all kM=bb)(d:cap.any cA=false)(p:Int->Bool) (L:∀(B:aG) (x:Int),cvA (lim K) bb (S.set j B) g (j_ x::cap)=.ret (.iv (.bool (p x)),S.set j B)): ∃J',(lim K).call 40 [.msl j v 0 C.length cp 1,.fn g [] cap] S=.ret (.msl j v 0 (flp p C).length cp 1,S.set j (.cells v b ((flp p C).map vI++J'))):=by
 have r:=aN h;have c:=aJj (Slc.msl h (cap:=cp)) E g cap N p (fun x _=>by have:=L (.cells v b (C.map vI++J)) x;rw[jU h]at this;exact this);unfold bC6 at c;cases ha:C.any p with
 |false =>
  rw[ha,I_ C_]at c;have l:∀x∈C,p x=false:=fun x A=>by simpa using t_.1 ha x A
  rw[aUm l];refine⟨J,aI K _ (fn:=t40) rfl rfl ?_⟩;rw[jU h];simp(disch:=omega)only[t40,go_sem,d,c]
 |true =>
  rw[ha,K_ rfl]at c;have H:C.findIdx p<C.length:=X5.2 (E8.1 ha);generalize hqq:C.findIdx p=q at *
  have f:∀x∈C.take q,p x=false:=fun x A=>by
   obtain⟨i,P,rfl⟩:=H8 A;have Q:i<q:=by simp at P;omega
   rw[List.getElem_take];have:=List.not_of_lt_findIdx (p:=p) (xs:=C) (i:=i) A_;simpa using this
  have t:flp p (C.take q)=C.take q:=aUm f;have z:p (C.getD q 0)=true:=by have:=List.findIdx_getElem (p:=p) (xs:=C) (w:=A_);subst hqq;simpa[List.getD,D_ H] using this
  have o:flp p (C.take (q+1))=C.take q:=by rw[aMb H,z,K_ rfl,t]
  have y:(C.take q).length=q:=by simp;omega
  obtain⟨V,U,W,G⟩:=aJl (v:=v) (b:=b) (J:=J) r E g cap N p L cp k_ z_ (C.length-(q+1)) (q+1) u_ u_ u_ A_;rw[o,y,show((q+1:Nat):Int)=(q:Int)+1 by omega,F9,jU h]at G;have n:(S.set j (.cells v b ((flp p C++C.drop (flp p C).length).map vI++J)))[j]?=some _:=aM r _;have e:=aJk p C;have k:=uG (D:=flp p C) (C:=C) e;have R:=wB n _ _ _ (pL (m:=C.length) (cap:=cp) (a:=(flp p C).length) T e);obtain⟨J',F⟩:=aPr (cap:=cp) n (i:=(flp p C).length) A_ A_ (cp-(flp p C).length);rw[k,K4,H0]at F;.have s:(S.set j (.cells v b ((flp p C).map vI++J')))[j]?=some _:=aM r _;have I:=wB s _ _ _ (uF (m:=C.length) (cap:=cp) (b:=(flp p C).length) A_);rw[show(if cp=0 then 0 else 0+0*1)=0 by split<;>rfl,Nat.sub_zero,Nat.sub_zero]at I;have u:¬(q:Int) = -1:=A_;refine⟨J',aI K _ (fn:=t40) rfl rfl ?_⟩;simp(disch:=omega)only[t40,go_sem,d,c,u,aC];rw[G];simp(disch:=omega)only[go_sem,R,fun env=>aLr _ env _ _ _ F,I]
  .rfl
theorem aCe{g:Nat}{x:Int}{v:TV}(h:TM.Pure K g [j_ x] v)(S:aA):cvA (lim K) true S g [j_ x]=.ret (v,S):=by simp only[go_sem,aD h]
theorem bQy(x:Int):TM.Pure K 53 [j_ x] (.iv (.bool (decide (24<x)))):=by refine aT t53 rfl rfl ?_;simp(disch:=omega)only[t53,go_sem]
def p24(x:Int):Bool:=decide (24<x)
def crM(l:List Int):Bool:=decide (16<(flp p24 l).length)
theorem bQz(t:Tag)(l:Ta_)(f:cB t l)(d:l.length<=1000000):TM.Pure K 26 [.iv (.sl t (TM.one (.int .i64) l))] (.iv (.bool (crM l))):=by
 have c:∀(S:aA) (x:Int),cvA (lim K) true S 53 [j_ x]=.ret (.iv (.bool (p24 x)),S):=fun S x=>aCe (bQy x) S;unfold crM;rcases aP2 t l f d []with⟨rfl,t',_,c44⟩|⟨h0,c44⟩
 .have b:=aJj (S:=[]) (Slc.iv [] t' []) B_ 53 [] rfl p24 (fun x e=>by cases e);rw[show bC6 p24 [] = -1 from rfl,qK]at b;have a:(lim K).call 40 [.iv (.sl t' []),.fn 53 [] []] []=.ret (.iv (.sl t' []),[]):=by refine aI K _ (fn:=t40) rfl rfl ?_;simp(disch:=omega)only[t40,go_sem,b]
  rw[qK]at *
  refine TM.gQ (S:=[]) (r:=.iv (.bool (decide (16<(flp p24 []).length)))) (aI K _ (fn:=t26) rfl rfl ?_) (by rw[oH]);rw[show flp p24 []=[] from rfl];simp(disch:=omega)only[t26,go_sem,c44,a]
 .have g:([.cells 0 true (l.map vI)]:aA)[0]?=some (.cells 0 true (l.map vI++[])):=by rw[A4];rfl
  obtain⟨J',a⟩:=aUn g A_ (O_ _) 53 [] rfl rfl p24 (fun B x=>c _ x);simp only[List.nil_append,List.length_nil]at c44;have h:((16:Int)<((flp p24 l).length:Int))↔16<(flp p24 l).length:=A_;simp only[List.set_cons_zero]at a;refine TM.gQ (S:=[aG.cells 0 true ((flp p24 l).map vI++J')]) (r:=.iv (.bool (decide (16<(flp p24 l).length)))) (aI K _ (fn:=t26) rfl rfl ?_) (by rw[oH]);simp(disch:=omega)only[t26,go_sem,c44,a,h]
theorem aUo{S:aA}{j:Nat}{l A:M_}{t:Tag}(a:jE 1 l)(c:jE 1 A)(h:S[j]?=some (.tok l.length 1 26))(d:l.length+A.length<=2000000):bA false 1 24 26 S (.tsl j l) (.iv (.sl t A))=some (.tsl j (l++A),S.set j (.tok (l.length+A.length) 1 26)) :=
 aFl (b:=24) (rO.sl ..) c a h (bR A_)
theorem bQ0(n:Nat)(h:0<n/\n<=2000000)(S:aA):(lim K).call 52 [k_,j_ n] S=.ret (.tsl S.length [],S++[.tok 0 1 26]):=by
 have d:eA n 24=true:=bR A_;have c:¬(n:Int)<=0:=A_;have e:qU 1 24 26 S k_ (n:Int)=some (.rsv S.length [] n,S++[.tok 0 1 26]):=by simp[qU,oL,d,c,Int.toNat_natCast,show ¬n=0 by omega]
 have a:∀n:Int,n-(0-((0:Nat):Int))=n:=fun n=>A_;have b:aYv (aAu k_)=some (j_ 0):=id rfl;have e2:∀S:aA,fQ S (.sl 1) k_ none (some 0) none=some k_:=fun S=>rfl;have e3:∀(S:aA) (i n:Nat),fQ S (.sl 1) (.rsv i [] n) none (some 0) none=some (.tsl i []):=fun S i n=>rfl;have f:∀(S:aA) (i n:Nat),fQ S (.sl 1) (.rsv i [] n) none (some ((0:Nat):Int)) none=some (.tsl i []):=fun S i n=>rfl;refine aI K S (fn:=t52) rfl rfl ?_;simp(disch:=omega)only[t52,go_sem,b,e2,e3,f,aC,a,fun env=>bJd (env:=env) e]
theorem bQ1(I O:Te_){n:Nat}(C:0<n/\n<=100000)(f d:Tag)(S:aA): (lim K).call 25 [.iv (.sl .full [[.sl f (bK I n)],[.sl d (bK O n)]])] S=.ret (.tsl S.length (bK I n++bK O n),S++[.tok (n+n) 1 26]):=by
 have k:=uK I n;have v:=uK O n;have r:=aC9 I n;have z:=aC9 O n;have g:=bQ0 (n+n) A_ S;have w:∀b,(S++[b])[S.length]?=some b:=fun b=>cN S b;have p:=aUo (S:=S++[.tok 0 1 26]) (j:=S.length) (l:=[]) (A:=bK I n) (t:=f) (by intro c o;cases o) r (w _) (by simp;omega);have st:∀b c:aG,(S++[b]).set S.length c=S++[c]:=fun b c=>B_;rw[List.nil_append,List.length_nil,A7,k,st]at p;have a2:=aUo (S:=S++[.tok n 1 26]) (j:=S.length) (l:=bK I n) (A:=bK O n) (t:=d) r z (by rw[k];exact w _) A_;rw[k,v,st]at a2;have x0:indexAddrS 1 (.iv (.sl .full [[.sl f (bK I n)],[.sl d (bK O n)]])) 0=some (.iv (.cp [.sl f (bK I n)])):=rfl;have s:indexAddrS 1 (.iv (.sl .full [[.sl f (bK I n)],[.sl d (bK O n)]])) 1=some (.iv (.cp [.sl d (bK O n)])):=rfl;have o:((n+n:Nat):Int)=(n:Int)+n:=A_;rw[o]at g;generalize bK I n=A at *
 generalize bK O n=B at *
 generalize hX:(TV.iv (.sl .full [[.sl f A],[.sl d B]]))=X at *
 have a:∀q,mX q X=X:=fun q=>by rw[<-hX];rfl
 have h:∀S,rZ .sl S X=some (j_ 2):=fun S=>by rw[<-hX];rfl
 have x:cA X=false:=by rw[<-hX];rfl
 have u:∀(j:Nat) ops i M n m env S,aAg K (lim K) X j ops i M n m env S=sC K (lim K) ops (i+1) M n m (env.set j X) S:=fun j ops i M n m env S=>by rw[<-hX];exact aCu ..
 have L2:∀(e x9 x10:TV),lp' (lim K) t25L1 [X,k_,j_ ((n:Int)+n),e,u_,u_,X,j_ 2,j_ 2,x9,x10,u_,u_,u_,u_] S=.ret (.exit 0,[X,k_,j_ ((n:Int)+n),e,u_,u_,X,j_ 2,j_ 2,z_,x10,u_,u_,u_,u_],S):=fun e x9 x10=>aE K _ _ t25L1.eq_1 (by simp(disch:=omega)only[go_sem,a]);have L1:∀(e x9 x10:TV),lp' (lim K) t25L1 [X,k_,j_ (n:Int),e,u_,u_,X,j_ 2,j_ 1,x9,x10,u_,u_,u_,u_] S=.ret (.exit 0,[X,k_,j_ ((n:Int)+n),.iv (.sl d B),u_,u_,X,j_ 2,j_ 2,z_,z_,u_,u_,u_,u_],S):=fun e x9 x10=>aE K _ _ t25L1.eq_1 (by simp(disch:=omega)only[go_sem,a,s,v,aC];exact X_ er (L2 ..));have L0:∀(e x9 x10:TV),lp' (lim K) t25L1 [X,k_,j_ 0,e,u_,u_,X,j_ 2,j_ 0,x9,x10,u_,u_,u_,u_] S=.ret (.exit 0,[X,k_,j_ ((n:Int)+n),.iv (.sl d B),u_,u_,X,j_ 2,j_ 2,z_,z_,u_,u_,u_,u_],S):=fun e x9 x10=>aE K _ _ t25L1.eq_1 (by simp(disch:=omega)only[go_sem,a,x0,k,aC,Int.zero_add];exact X_ er (L1 ..));have M2:∀(x5 x14 y:TV),lp' (lim K) t25L0 [X,k_,j_ ((n:Int)+n),y,.tsl S.length (A++B),x5,X,j_ 2,j_ 2,z_,z_,X,j_ 2,j_ 2,x14] (S++[.tok (n+n) 1 26])=.ret (.exit 2,[X,k_,j_ ((n:Int)+n),y,.tsl S.length (A++B),x5,X,j_ 2,j_ 2,z_,z_,X,j_ 2,j_ 2,z_],S++[.tok (n+n) 1 26]):=fun x5 x14 y=>aE K _ _ t25L0.eq_1 (by simp(disch:=omega)only[go_sem,a]);have M1:∀(x5 x14 y:TV),lp' (lim K) t25L0 [X,k_,j_ ((n:Int)+n),y,.tsl S.length A,x5,X,j_ 2,j_ 2,z_,z_,X,j_ 2,j_ 1,x14] (S++[.tok n 1 26])=.ret (.exit 2,[X,k_,j_ ((n:Int)+n),y,.tsl S.length (A++B),.iv (.sl d B),X,j_ 2,j_ 2,z_,z_,X,j_ 2,j_ 2,z_],S++[.tok (n+n) 1 26]):=fun x5 x14 y=>aE K _ _ t25L0.eq_1 (by simp(disch:=omega)only[go_sem,a,s,a2,aC];exact X_ er (M2 ..));have M0:∀(x5 x14 y:TV),lp' (lim K) t25L0 [X,k_,j_ ((n:Int)+n),y,.tsl S.length [],x5,X,j_ 2,j_ 2,z_,z_,X,j_ 2,j_ 0,x14] (S++[.tok 0 1 26])=.ret (.exit 2,[X,k_,j_ ((n:Int)+n),y,.tsl S.length (A++B),.iv (.sl d B),X,j_ 2,j_ 2,z_,z_,X,j_ 2,j_ 2,z_],S++[.tok (n+n) 1 26]):=fun x5 x14 y=>aE K _ _ t25L0.eq_1 (by simp(disch:=omega)only[go_sem,a,x0,p,aC];exact X_ er (M1 ..));refine aI K S (fn:=t25) rfl rfl ?_;simp(disch:=omega)only[t25,go_sem,a,h,u];rw[L0];simp(disch:=omega)only[go_sem,g,a,h,u];rw[M0];simp(disch:=omega)only[go_sem]
theorem zG(x:Int):TM.Pure K 23 [j_ x] (.iv (.bool (decide (32<=x)))):=by refine aT t23 rfl rfl ?_;simp(disch:=omega)only[t23,go_sem]
def bC7(x:Int):Bool:=decide (x<25\/x=26\/x=31\/32<=x)
theorem bQ2(x:Int):TM.Pure K 30 [j_ x] (.iv (.bool (bC7 x))):=by
 unfold bC7;refine aT t30 rfl rfl ?_;rcases(by omega:x<25\/(25<=x/\x=26)\/(25<=x/\x≠26/\x=31)\/(25<=x/\x≠26/\x≠31/\32<=x)\/(25<=x/\x≠26/\x≠31/\x<32))with h|h|h|h|h;.rw[V_ (.inl h)];simp(disch:=omega)only[t30,go_sem]
 .rw[V_ (.inr (.inl h.2))];simp(disch:=omega)only[t30,go_sem]
 .rw[V_ (.inr (.inr (.inl h.2.2)))];simp(disch:=omega)only[t30,go_sem]
 .rw[V_ (.inr (.inr (.inr h.2.2.2)))];simp(disch:=omega)only[t30,go_sem]
 .rw[l_ A_];simp(disch:=omega)only[t30,go_sem]
theorem bQ3(x:Int):TM.Pure K 29 [j_ x] (.iv (.bool (!bC7 x))):=by have c:=bQ2 x;refine aT t29 rfl rfl ?_;simp(disch:=omega)only[t29,go_sem,aD c]
def p32(x:Int):Bool:=decide (32<=x)
def bLb(x:Int):Bool:=!bC7 x
def b28(x:VI):Bool:=(x.us.any p32||decide (x.op=67/\32<=x.d))||(decide (x.op=73)||(decide (x.op=74)||(decide (0<x.mp.length)||(x.d::x.a::x.b::x.us).any bLb)))
theorem bC8(d a b:Int)(t:Tag)(us:Ta_)(c:us.length<=1000000)(S:aA):∃w S',bA false 1 8 3 S (.iv (.sl .full [[.int .i64 d],[.int .i64 a],[.int .i64 b]])) (.iv (.sl t (TM.one (.int .i64) us)))=some (w,S')/\Slc S' w (d::a::b::us):=by
 by_cases h0:us=[]
 .subst h0;exact⟨_,S,bI0 rfl (rO.sl S t []),Slc.iv S .full [d,a,b]⟩
 .have:=aLi (w:=1) (b:=8) (el:=3) (S:=S) (t:=.full) (l:=aZ [d,a,b]) C_ (rO.sl S t (aZ us)) (nB us) (nB _) (fun h=>h0 (aLv.1 h)) (bR (by rw[eK,eK];simp;omega));exact⟨_,_,this,Slc.tsl _ _ (d::a::b::us)⟩
theorem bQ4(x:VI)(n:x.us.length<=1000000):TM.Pure K 28 [.iv (.agg (aJ x))] (.iv (.bool (b28 x))):=by
 obtain⟨op,d,a,b,p,lb,tu,us,tm,mp⟩:=x;dsimp only at n;have f:(TM.one (IV.int .i64) mp).length=mp.length:=TM.kB ..;have g:=aCd (S:=[]) (Slc.iv [] tu us) A_ 23 [] rfl rfl p32 (fun x _=>aCe (zG x) []);have l:=zG d;obtain⟨w,S',j,m⟩:=bC8 d a b tu us n [];have o:=aCd m (by simp;omega) 29 [] rfl rfl bLb (fun x _=>aCe (bQ3 x) S');have k:=m.loc;have l2:=m.nlp;have i:=m.wb;have e:((mp.length:Int)>0)↔0<mp.length:=A_;unfold b28;dsimp only;generalize (d::a::b::us).any bLb=q3 at *
 generalize us.any p32=q1 at *
 unfold aJ;generalize TM.one (IV.int .i64) us=U at *
 generalize hM:TM.one (IV.int .i64) mp=M at *
 have fin:∀(v:Bool) (S:aA),(lim K).call 28 [.iv (.agg [.int .i64 op,.int .i64 d,.int .i64 a,.int .i64 b,.int .i64 p,.int .i64 lb,.sl tu U,.sl tm M])] []=.ret (.iv (.bool v),S)->TM.Pure K 28 [.iv (.agg [.int .i64 op,.int .i64 d,.int .i64 a,.int .i64 b,.int .i64 p,.int .i64 lb,.sl tu U,.sl tm M])] (.iv (.bool v)):=fun v S h=>TM.gQ h (by rw[oH]);cases q1 with
 |true =>refine fin _ [] (aI K _ (fn:=t28) rfl rfl ?_);simp(disch:=omega)only[t28,go_sem,g,G2]
 |false =>
  by_cases h1:op=67
  .subst h1;by_cases h2:32<=d;.rw[V_ h2]at l;refine fin _ [] (aI K _ (fn:=t28) rfl rfl ?_);rw[V_ ⟨rfl,h2⟩];simp(disch:=omega)only[t28,go_sem,g,aD l,G2,M9]
   .rw[l_ h2]at l;refine fin _ S' (aI K _ (fn:=t28) rfl rfl ?_);rw[l_ (fun h=>h2 h.2)];cases hm:decide (0<mp.length)with
    |true =>have c:0<mp.length:=M8 hm;simp(disch:=omega)only[t28,go_sem,g,aD l,j,i,k,l2,f,e,c,G8,G2]
    |false =>have c:¬0<mp.length:=U1 hm;simp(disch:=omega)only[t28,go_sem,g,aD l,j,i,k,l2,f,e,c,o,G8,G2]
  .refine fin _ S' (aI K _ (fn:=t28) rfl rfl ?_);rw[l_ (fun h:op=67/\32<=d=>h1 h.1)];by_cases h3:op=73;.rw[V_ h3];simp(disch:=omega)only[t28,go_sem,g,j,i,k,l2,h3,G8,G2]
   .rw[l_ h3];by_cases h4:op=74;.rw[V_ h4];simp(disch:=omega)only[t28,go_sem,g,j,i,k,l2,h4,G8,G2]
    .rw[l_ h4];cases hm:decide (0<mp.length)with
     |true =>have c:0<mp.length:=M8 hm;simp(disch:=omega)only[t28,go_sem,g,j,i,k,l2,h1,h3,h4,f,e,c,G8,G2]
     |false =>have c:¬0<mp.length:=U1 hm;simp(disch:=omega)only[t28,go_sem,g,j,i,k,l2,h1,h3,h4,f,e,c,o,G8,G2]
theorem aUp{g:Nat}{a:IV}{v:TV}(h:TM.Pure K g [.iv a] v)(S:aA):cvA (lim K) true S g [.iv a]=.ret (v,S):=by simp only[go_sem,aD h]
theorem bC9(j:Nat)(E:List (Tag×List Int))(t:E.length<=1000000)(S:aA)(b:∀e∈E,cB e.1 e.2/\e.2.length<=1000000):∀(k i:Nat) (x2 h x6 x7:TV),i+k=E.length->(∀e∈E.take i,crM e.2=false) ->∃(f:aW) (g m p n o:TV),lp' (lim K) t51L0 [.tsl j (E.map nD),.fn 26 [] [],x2,h,j_ E.length,j_ i,x6,x7] S = .ret (f,[.tsl j (E.map nD),.fn 26 [] [],g,m,j_ E.length,p,n,o],S) /\(f=.exit 0/\(E.any fun e=>crM e.2)=false\/f=.ret/\(E.any fun e=>crM e.2)=true/\∃q:Nat,g=j_ q)
 |0,i,x2,h,x6,x7,hk,hq=>by
  obtain rfl:i=E.length:=A_;rw[C0]at hq;refine⟨.exit 0,x2,h,j_ E.length,z_,x7,aE K _ _ t51L0.eq_1 ?_,.inl ⟨rfl,?_⟩⟩;.simp(disch:=omega)only[go_sem]
  .rw[t_];intro x c;rw[hq x c];simp
 |k+1,i,x2,h,x6,x7,hk,hq=>by
  have a:i<E.length:=A_;have d:indexAddrS 1 (.tsl j (E.map nD)) (i:Int)=some (.iv (.cp [.sl E[i].1 (TM.one (.int .i64) E[i].2)])):=by show indexAddrS 1 (.iv (.sl .full (E.map nD))) (i:Int)=_;refine aO4 A_ ?_ rfl;rw[Int.toNat_natCast,p_,D_ a];rfl
  have l:=aUp (bQz E[i].1 E[i].2 (b _ (B8 a)).1 (b _ (B8 a)).2) S;have r:E.take (i+1)=E.take i++[E[i]]:=by rw[G9,D_ a];rfl
  cases hd:crM E[i].2 with
  |true =>rw[hd]at l;refine⟨.ret,j_ i,j_ i,j_ i,e_,e_,aE K _ _ t51L0.eq_1 ?_,.inr ⟨rfl,E8.2 ⟨_,B8 a,hd⟩,i,rfl⟩⟩;simp(disch:=omega)only[go_sem,d,l]
  |false =>
   rw[hd]at l;obtain⟨f,g,m,p,n,o,s,u⟩:=bC9 j E t S b k (i+1) x2 (j_ i) e_ z_ A_ (fun x c=>by
    rw[r,a_,U_]at c;rcases c with c|rfl;.exact hq x c
    .exact hd)
   rw[show((i+1:Nat):Int)=(i:Int)+1 by omega]at s;refine⟨f,g,m,p,n,o,aE K _ _ t51L0.eq_1 ?_,u⟩;simp(disch:=omega)only[go_sem,d,l,aC];exact X_ er s
theorem bQ5(j:Nat)(E:List (Tag×List Int))(g:E.length<=1000000)(S:aA)(c:∀e∈E,cB e.1 e.2/\e.2.length<=1000000):(lim K).call 24 [.tsl j (E.map nD),.fn 26 [] []] S=.ret (.iv (.bool (E.any fun e=>crM e.2)),S):=by
 obtain⟨n,k,h,l,m,i,d,b⟩:=bC9 j E g S c E.length 0 (j_ 0) u_ u_ u_ A_ B_;rw[n0_]at d;have f:(E.map nD).length=E.length:=L_ _;rcases b with⟨rfl,b⟩|⟨rfl,b,q,rfl⟩<;>rw[b]
 .have a:(lim K).call 51 [.tsl j (E.map nD),.fn 26 [] []] S=.ret (j_ (-1),S):=by refine aI K S (fn:=t51) rfl rfl ?_;simp(disch:=omega)only[t51,go_sem,f];rw[d];simp(disch:=omega)only[go_sem]
  refine aI K S (fn:=t24) rfl rfl ?_;simp(disch:=omega)only[t24,go_sem,a]
 .have a:(lim K).call 51 [.tsl j (E.map nD),.fn 26 [] []] S=.ret (j_ q,S):=by refine aI K S (fn:=t51) rfl rfl ?_;simp(disch:=omega)only[t51,go_sem,f];rw[d];simp(disch:=omega)only[go_sem]
  refine aI K S (fn:=t24) rfl rfl ?_;simp(disch:=omega)only[t24,go_sem,a]
theorem bDa(ti:Tag)(ins:List VI)(z:ins.length<=1000000)(S:aA)(s:∀x∈ins,x.us.length<=1000000):∀(k i:Nat) (x2 h x6 x7:TV),i+k=ins.length->(∀x∈ins.take i,b28 x=false) ->∃(c:aW) (g m o p n:TV),lp' (lim K) t54L0 [.iv (.sl ti (ins.map aJ)),.fn 28 [] [],x2,h,j_ ins.length,j_ i,x6,x7] S = .ret (c,[.iv (.sl ti (ins.map aJ)),.fn 28 [] [],g,m,j_ ins.length,o,p,n],S) /\(c=.exit 0/\ins.any b28=false\/c=.ret/\ins.any b28=true/\∃q:Nat,g=j_ q)
 |0,i,x2,h,x6,x7,hk,hq=>by
  obtain rfl:i=ins.length:=A_;rw[C0]at hq;refine⟨.exit 0,x2,h,j_ ins.length,z_,x7,aE K _ _ t54L0.eq_1 ?_,.inl ⟨rfl,?_⟩⟩;.simp(disch:=omega)only[go_sem]
  .rw[t_];intro x v;rw[hq x v];simp
 |k+1,i,x2,h,x6,x7,hk,hq=>by
  have a:i<ins.length:=A_;have b:=gC (w:=8) (f:=aJ) eZ (t:=ti) (l:=ins) (i:=(i:Int)) A_;rw[Int.toNat_natCast,cV]at b;have d:ins.getD i default∈ins:=by simp only[List.getD,D_ a,Option.getD_some];exact B8 a
  have e:=aUp (bQ4 (ins.getD i default) (s _ d)) S;rw[cV]at e;have r:ins.take (i+1)=ins.take i++[ins.getD i default]:=by rw[G9,D_ a];simp[List.getD,D_ a]
  generalize v:ins.getD i default=x at *
  cases hd:b28 x with
  |true =>rw[hd]at e;refine⟨.ret,j_ i,j_ i,j_ i,e_,e_,aE K _ _ t54L0.eq_1 ?_,.inr ⟨rfl,E8.2 ⟨_,d,hd⟩,i,rfl⟩⟩;simp(disch:=omega)only[go_sem,b,e]
  |false =>
   rw[hd]at e;obtain⟨c,g,m,o,p,n,u,A⟩:=bDa ti ins z S s k (i+1) x2 (j_ i) e_ z_ A_ (fun y j=>by
    rw[r,a_,U_]at j;rcases j with j|rfl;.exact hq y j
    .exact hd)
   rw[show((i+1:Nat):Int)=(i:Int)+1 by omega]at u;refine⟨c,g,m,o,p,n,aE K _ _ t54L0.eq_1 ?_,A⟩;simp(disch:=omega)only[go_sem,b,e,aC];exact X_ er u
theorem bQ6(ti:Tag)(ins:List VI)(e:ins.length<=1000000)(S:aA)(f:∀x∈ins,x.us.length<=1000000):(lim K).call 27 [.iv (.sl ti (ins.map aJ)),.fn 28 [] []] S=.ret (.iv (.bool (ins.any b28)),S):=by
 obtain⟨l,i,g,j,k,h,c,b⟩:=bDa ti ins e S f ins.length 0 (j_ 0) u_ u_ u_ A_ B_;rw[n0_]at c;have d:(ins.map aJ).length=ins.length:=L_ _;rcases b with⟨rfl,b⟩|⟨rfl,b,q,rfl⟩<;>rw[b]
 .have a:(lim K).call 54 [.iv (.sl ti (ins.map aJ)),.fn 28 [] []] S=.ret (j_ (-1),S):=by refine aI K S (fn:=t54) rfl rfl ?_;simp(disch:=omega)only[t54,go_sem,d];rw[c];simp(disch:=omega)only[go_sem]
  refine aI K S (fn:=t27) rfl rfl ?_;simp(disch:=omega)only[t27,go_sem,a]
 .have a:(lim K).call 54 [.iv (.sl ti (ins.map aJ)),.fn 28 [] []] S=.ret (j_ q,S):=by refine aI K S (fn:=t54) rfl rfl ?_;simp(disch:=omega)only[t54,go_sem,d];rw[c];simp(disch:=omega)only[go_sem]
  refine aI K S (fn:=t27) rfl rfl ?_;simp(disch:=omega)only[t27,go_sem,a]
structure sP (f:VF):Prop where
 chk:sI f.regs f.sl f.nd f.pr f.ins=true
 sl0:f.sl=0
 crd:∀i,i<f.ins.length->∃Li Lo:List Int,(∀t,1<=t->t<=24->LvR f.ins t i->t∈Li)/\Li.length<=16/\(∀t,1<=t->t<=24->zB f.ins t i->t∈Lo)/\Lo.length<=16
 ins:∀x∈f.ins,b28 x=false
def xH(I:Nat->List Nat)(n:Nat):List (Tag×List Int):=(List.range n).map fun q=>(jL (aZ (wlI 0 (I q))),wlI 0 (I q))
theorem aMc(I:Te_)(n:Nat):bK I n=(xH I n).map nD:=by unfold bK xH;rw[L7];rfl
theorem aUq(l:Ta_):cB (jL (aZ l)) l:=fun h=>by
 unfold jL at h
 split at h
 .rename_i h0;exact aLv.1 h0
 .cases h
theorem bPo{W:Tc_}{P:Int->Prop}{rg:Int}(h:crM (wlI 0 W)=false)(a:∀x,x∈wlI 0 W↔1<=x/\x<rg/\P x)(c:32<=rg):(∀t,1<=t->t<=24->P t->t∈flp p24 (wlI 0 W))/\(flp p24 (wlI 0 W)).length<=16:=by
 refine⟨fun t h3 d b=>D1.2 ⟨(a t).2 ⟨h3,by omega,b⟩,?_⟩,?_⟩;.unfold p24;rw[l_ A_];rfl
 .unfold crM at h;have:=U1 h;omega
theorem aQf(f:VF)(Q:f.regs<=100000)(V:f.ins.length<=100000)(o:∀x∈f.ins,x.us.length<=999990/\cB x.tu x.us):∃b,TM.Pure K 12 [.iv (.agg (kY f))] (.iv (.bool b))/\(b=true->sP f):=by
 have t:∀x∈f.ins,x.us.length<=1000000:=fun x D=>by have:=(o x D).1;omega
 have c:=aP9 f.fn f.regs f.sl f.nd f.pr f.rs f.ti f.ins A_ o;have L:=fun h=>aQa (f:=f) Q A_ o h;have T:∀h:sI f.regs f.sl f.nd f.pr f.ins=true,0<f.ins.length:=fun h=>by unfold sI at h;simp only[P_,q_]at h;exact h.1.2.2.2.2
 have F:=fun R J h3 U=>(⟨R,J,h3,U⟩:sP f)
 obtain⟨fn,rg,sl,nd,pr,rs,ti,ins⟩:=f;dsimp only at *
 cases hc:sI rg sl nd pr ins with
 |false =>rw[hc,I_ C_]at c;refine⟨false,?_,fun h=>by cases h⟩;rw[qL];dsimp only;unfold gG at c;refine aT t12 rfl rfl ?_;simp(disch:=omega)only[t12,go_sem,aD c]
 |true =>
  rw[hc,K_ rfl]at c;obtain⟨I,O,k,d,r⟩:=L hc;have E:=T hc;rw[qL]at k d |-;dsimp only at k d |-;unfold gG at c;by_cases hs:sl=0
  .subst hs;have x0:indexAddrS 1 (.iv (.sl (jL (bK I ins.length)) (bK I ins.length))) 0=some (.iv (.cp [.sl (jL (aZ (wlI 0 (I 0)))) (TM.one (.int .i64) (wlI 0 (I 0)))])):=ixL (i:=0) E _;have m:=uK I ins.length;have l:=bQ1 I O (n:=ins.length) A_ (jL (bK I ins.length)) (jL (bK O ins.length)) [];have g:=aCd (S:=[]) (Slc.iv [] (jL (aZ (wlI 0 (I 0)))) (wlI 0 (I 0))) (by have:=(r 0 E).1.1;omega) 23 [] rfl rfl p32 (fun x _=>aCe (zG x) []);have G:bK I ins.length++bK O ins.length=(xH I ins.length++xH O ins.length).map nD:=by rw[E2,aMc,aMc]
   have j:=bQ5 0 (xH I ins.length++xH O ins.length) (by simp[xH];omega) [.tok (ins.length+ins.length) 1 26] (fun e u=>by
    rcases a_.1 u with u|u;all_goals
     obtain⟨q,N,rfl⟩:=A0.1 u
     have y:=C5.1 N
     have:=(r q y).1
     exact⟨aUq _,by dsimp only;omega⟩)
   rw[<-G]at j;have C:=fun S=>bQ6 ti ins A_ S t;simp only[List.length_nil,List.nil_append]at l;have p:((ins.length:Int)>0)↔True:=by simp;omega
   cases q1:(wlI 0 (I 0)).any p32 with
   |true =>
    rw[q1]at g;refine⟨false,?_,fun h=>by cases h⟩;generalize bK I ins.length=A at *
    generalize bK O ins.length=B at *
    refine aT t12 rfl rfl ?_;simp(disch:=omega)only[t12,go_sem,aD c,aD k,aD d,m,p,x0,g]
   |false =>
    rw[q1]at g;cases q2:(xH I ins.length++xH O ins.length).any fun e=>crM e.2 with
    |true =>
     rw[q2]at j;refine⟨false,?_,fun h=>by cases h⟩;generalize bK I ins.length=A at *
     generalize bK O ins.length=B at *
     refine aT t12 rfl rfl ?_;simp(disch:=omega)only[t12,go_sem,aD c,aD k,aD d,m,p,x0,g,l,j]
    |false =>
     rw[q2]at j;refine⟨!ins.any b28,?_,fun h=>F hc rfl (fun i w=>?_) (fun x D=>?_)⟩
     .generalize bK I ins.length=A at *
      generalize bK O ins.length=B at *
      refine aT t12 rfl rfl ?_;simp(disch:=omega)only[t12,go_sem,aD c,aD k,aD d,m,p,x0,g,l,j,C]
     .have s:(32:Int)<=rg:=by unfold sI at hc;simp only[P_,q_]at hc;exact hc.1.1
      rw[R5,M5]at q2;obtain⟨_,v,z⟩:=r i w;have a:=t_.1 q2.1 _ (A0.2 ⟨i,C5.2 w,rfl⟩);have b:=t_.1 q2.2 _ (A0.2 ⟨i,C5.2 w,rfl⟩);obtain⟨H,p2⟩:=bPo (by simpa using a) v s;obtain⟨p3,P⟩:=bPo (by simpa using b) z s;exact⟨_,_,H,p2,p3,P⟩
     .simp only[D7]at h;simpa using t_.1 h x D
  .refine⟨false,?_,fun h=>by cases h⟩;refine aT t12 rfl rfl ?_;simp(disch:=omega)only[t12,go_sem,aD c,hs]
theorem aMd{α:Type}{p:α->Bool}{l:List α}(h:(l.filter p).length=1){c c':Nat}{x y:α}(i:l[c]?=some x)(b:l[c']?=some y)(g:p x=true)(a:p y=true)(d:c<c'):False:=by
 obtain⟨f,ex⟩:=E_.1 i;have e:l=l.take c++x::l.drop (c+1):=by rw[<-ex,<-A6 f,F9]
 rw[e,I5,E4,K_ g,H_,List.length_cons]at h;have j:y∈(l.drop (c+1)).filter p:=D1.2 ⟨List.mem_iff_getElem?.2 ⟨c'-(c+1),by rw[G5,show c+1+(c'-(c+1))=c' by omega];exact b⟩,a⟩;have:=X3 j;omega
section
variable {f:VF}(hb:sP f)
include hb
theorem qP:(32<=f.regs/\0<=f.nd/\0<=f.sl/\0<=f.pr/\0<f.ins.length)/\(∀x∈f.ins,qM f.regs f.ins x=false)/\aI8 f.ins=true:=by have c:=hb.chk;unfold sI at c;simp only[P_,q_,D7]at c;obtain⟨⟨i,d,g,h3,e⟩,b,a⟩:=c;exact⟨⟨by omega,d,g,h3,e⟩,fun x h=>by simpa using t_.1 b x h,a⟩
theorem aJm{x:VI}(b:x∈f.ins):nC x.op x.im=true/\(∀n∈bS x,0<=n/\n<f.regs)/\(fR x=true->oK f.ins x.lb=1):=by
 have h:=(qP hb).2.1 x b;unfold qM at h;simp only[M5,T8,Bool.and_eq_false_iff,P3,Decidable.not_not]at h;refine⟨h.1,fun n d=>?_,fun c=>?_⟩;.have:=t_.1 h.2.1 n d;unfold nE at this;simp at this;omega
 .rcases h.2.2 with a|a;.rw[c]at a;cases a
  .exact a
theorem zH{x:VI}(k:x∈f.ins):(∀u∈x.us,u<32)/\(x.op=67->x.d<32)/\x.op≠73/\x.op≠74/\x.mp=[]/\∀n∈x.d::x.a::x.b::x.us,bC7 n=true:=by
 have h:=hb.ins x k;unfold b28 at h;simp only[M5,P3]at h;obtain⟨⟨c,m⟩,h3,l,o,i⟩:=h;refine⟨fun u g=>?_,fun j=>?_,h3,l,Z_ A_,fun n e=>?_⟩;.have:=t_.1 c u g;unfold p32 at this;simp at this;omega
 .by_cases h7:32<=x.d;.exact absurd ⟨j,h7⟩ m
  .omega
 .have:=t_.1 i n e;unfold bLb at this;simpa using this
theorem xI:aDf f.ins:=by
 have b:f.ins.any (qM f.regs f.ins)=false:=t_.2 fun x a=>by rw[(qP hb).2.1 x a];decide
 refine⟨fun x a=>⟨(zH hb a).2.2.1,(zH hb a).2.2.2.1⟩,fun x a=>(zH hb a).1,fun x a=>(zH hb a).2.1,fun x a h=>?_,fun c c' o j m u h3=>?_⟩
 .obtain⟨i,n,rfl⟩:=H8 a;have e:f.ins.getD i default=f.ins[i]:=by rw[W_,D_ n];rfl
  obtain⟨q,s,_⟩:=aDd b n (by
   rw[e];unfold fR;rcases h with h|h;.rw[V_ h];rfl
   .rw[V_ h,M9,G2])
  rw[e]at s;exact⟨q,s⟩
 .have t:fR (f.ins.getD c default)=true:=by unfold fR;rw[V_ m,M9]
  have d:=(aJm hb (bQ o)).2.2 t;unfold oK at d;have ex:f.ins[c]?=some (f.ins.getD c default):=by rw[W_,D_ o];rfl
  have k:f.ins[c']?=some (f.ins.getD c' default):=by rw[W_,D_ j];rfl
  have r:(decide ((f.ins.getD c default).op=65)&&decide ((f.ins.getD c default).lb=(f.ins.getD c default).lb))=true:=by rw[V_ m,V_ rfl];rfl
  have l:(decide ((f.ins.getD c' default).op=65)&&decide ((f.ins.getD c' default).lb=(f.ins.getD c default).lb))=true:=by rw[V_ u,V_ h3.symm];rfl
  rcases M3 c c' with g|g|g;.exact(aMd (p:=fun x:VI=>decide (x.op=65)&&decide (x.lb=(f.ins.getD c default).lb)) A_ ex k r l g).elim
  .exact g
  .exact(aMd (p:=fun x:VI=>decide (x.op=65)&&decide (x.lb=(f.ins.getD c default).lb)) A_ k ex l r g).elim
theorem bPp:∀x∈f.ins,∀n,n∈bF x\/n∈aY x->n<f.regs:=fun x o n h=>by
 have i:=(aJm hb o).2.1
 have p:=(qP hb).1.1
 have s:x.a<f.regs:=(i x.a (by unfold bS;simp)).2
 have l:x.b<f.regs:=(i x.b (by unfold bS;simp)).2
 have j:∀u∈x.us,u<f.regs:=fun u j=>(i u (by unfold bS;simp[j])).2
 have k:0<x.d->x.d<f.regs:=fun r=>(i x.d (by unfold bS;rw[K_ (.inr A_)];simp)).2
 rcases h with h|h
 .unfold bF at h
  split at h
  .obtain⟨c,_⟩:=cW.1 h
   rcases J_.1 c with c|c
   .omega
   .rw[U_]at c;omega
  .split at h
   .obtain⟨c,_⟩:=cW.1 h
    rw[U_]at c;omega
   .split at h
    .obtain⟨c,_⟩:=cW.1 h
     rcases a_.1 c with c|c
     .exact j n c
     .rw[U_]at c;omega
    .cases h
 .unfold aY at h
  split at h
  .obtain⟨c,g⟩:=cW.1 h
   rw[U_]at c
   rw[c]at g |-;exact k g
  .split at h
   .obtain⟨c,g⟩:=cW.1 h
    rcases a_.1 c with c|c
    .unfold dP at c
     obtain⟨m,q,e⟩:=A0.1 c
     have:=C5.1 q
     omega
    .rcases J_.1 c with c|c
     .omega
     .rw[U_]at c
      rw[c]at g |-;exact k g
   .cases h
end
theorem aUr(σ:Ta_):∀(r:Int) (l:List VI),rwR σ r l=cnt σ r l l.length
 |r,[]=>rfl
 |r,x::l=>by rw[rwR,List.length_cons,cnt,aUr σ _ l]
theorem aDm(σ:Ta_):∀(r:Int) (l:List VI),r<=rwR σ r l/\rwR σ r l<=r+3*(l.length:Int)
 |r,[]=>by rw[rwR];simp
 |r,x::l=>by have a:=aDm σ (eL σ r x) l;have b:=aCc σ r x;rw[rwR,List.length_cons];omega
theorem lF(σ:Ta_):∀(r:Int) (l:List VI),l.length<=(bG σ r l).length/\(bG σ r l).length<=4*l.length
 |r,[]=>by simp[bG,rwM]
 |r,x::l=>by
  have a:=lF σ (eL σ r x) l;have c:=oP σ r x;have h3:=jV σ r x;have b:=sN σ r x;unfold bG at a |-;rw[rwM,List.flatten_cons,H_,List.length_cons];have:(dM σ r x).length=(bZ σ r x).length+1+(fH σ r x).length:=by unfold dM;simp;omega
  omega
theorem bDb(σ:Ta_)(L:Int):∀(r:Int) (l:List VI),(∀x∈l,x.op≠73/\x.op≠74)->oK (plC σ r l) L=oK l L
 |r,[],_=>rfl
 |r,x::l,h=>by
  have j:=bDb σ L (eL σ r x) l (fun y f=>h y (by simp[f]));have g:=h x B_;unfold oK plC bG at *
  rw[rwM,List.flatten_cons,E2,I5,H_,E4];have a:((bZ σ r x).map plI).filter (fun x=>decide (x.op=65)&&decide (x.lb=L))=[]:=by rw[H6];intro y f;obtain⟨z,i,rfl⟩:=A0.1 f;obtain⟨n,k,q,_,_,rfl⟩:=aL7 i;rw[(aJf q k).2.1];simp
  have e:((fH σ r x).map plI).filter (fun x=>decide (x.op=65)&&decide (x.lb=L))=[]:=by
   rcases iS σ r x with⟨d,_⟩|⟨q,k,d,_⟩;.rw[d];rfl
   .rw[d];have:plI (stI q k)=⟨64,0,q,0,0,0,.nil,[],.nil,[]⟩:=by unfold plI stI;simp
    simp[this]
  have c:plI (eR σ r x)=eR σ r x:=by unfold plI;rw[I_ (show ¬(eR σ r x).op=73 from g.1),I_ (show ¬(eR σ r x).op=74 from g.2)]
  have b:(((dM σ r x).map plI).filter (fun x=>decide (x.op=65)&&decide (x.lb=L))).length=if(decide (x.op=65)&&decide (x.lb=L))=true then 1 else 0:=by unfold dM;rw[E2,Q_,I5,a,E4,e,c];show(List.length (if(decide (x.op=65)&&decide (x.lb=L))=true then [eR σ r x]else []))=_;split<;>rfl
  rw[b];split;.rw[List.length_cons];omega
  .omega
section
variable {f:VF}(hb:sP f){σ:List Int}(hv:aBw σ)
include hb hv
theorem aJn{c e:Nat}(h:aFz σ f.regs f.ins c e):cnt σ f.regs f.ins c+e<rwR σ f.regs f.ins:=by obtain⟨b,d⟩:=h;have a:=sM σ f.regs f.ins c b;rw[aUh]at a;have g:=aDj σ f.regs f.ins (c:=c+1) (c':=f.ins.length) A_ (O_ _);rw[aUr];omega
theorem bDc{c:Nat}(w:c<f.ins.length){n:Int}(g:n∈bS (eR σ (cnt σ f.regs f.ins c) (f.ins.getD c default))):0<=n/\n<rwR σ f.regs f.ins:=by
 have C:=bQ w;have p:=(aJm hb C).2.1;have E:=(aDm σ f.regs f.ins).1;have y:=sJ σ f.regs f.ins c;have D:=(qP hb).1.1;have t:∀m:Int,m∈bS (f.ins.getD c default)->0<=m/\m<rwR σ f.regs f.ins:=fun m l=>by have:=p m l;omega
 have q:∀m:Int,0<=m->m<f.regs->0<=low m/\low m<rwR σ f.regs f.ins:=fun m F G=>by unfold low;split<;>omega
 have x:=p (f.ins.getD c default).a (by unfold bS;simp);have o:=p (f.ins.getD c default).b (by unfold bS;simp);have r:∀e:Nat,e<(bZ σ (cnt σ f.regs f.ins c) (f.ins.getD c default)).length+(fH σ (cnt σ f.regs f.ins c) (f.ins.getD c default)).length->0<=cnt σ f.regs f.ins c+e/\cnt σ f.regs f.ins c+e<rwR σ f.regs f.ins:=fun e z=>by have:=aJn hb hv (c:=c) (e:=e) ⟨w,z⟩;omega
 have s:n=(opA σ (cnt σ f.regs f.ins c) (f.ins.getD c default)).2.1\/n=(opB σ (cnt σ f.regs f.ins c) (f.ins.getD c default)).2.1\/n∈(f.ins.getD c default).us\/n=(opD σ (cnt σ f.regs f.ins c) (f.ins.getD c default)).1/\((f.ins.getD c default).op≠67\/0<=(opD σ (cnt σ f.regs f.ins c) (f.ins.getD c default)).1):=by
  unfold bS at g;rw[show(eR σ (cnt σ f.regs f.ins c) (f.ins.getD c default)).op=(f.ins.getD c default).op from rfl,show(eR σ (cnt σ f.regs f.ins c) (f.ins.getD c default)).d=(opD σ (cnt σ f.regs f.ins c) (f.ins.getD c default)).1 from rfl,show(eR σ (cnt σ f.regs f.ins c) (f.ins.getD c default)).a=(opA σ (cnt σ f.regs f.ins c) (f.ins.getD c default)).2.1 from rfl,show(eR σ (cnt σ f.regs f.ins c) (f.ins.getD c default)).b=(opB σ (cnt σ f.regs f.ins c) (f.ins.getD c default)).2.1 from rfl,show(eR σ (cnt σ f.regs f.ins c) (f.ins.getD c default)).us=(f.ins.getD c default).us from rfl]at g;rcases a_.1 g with g|g
  .rcases J_.1 g with g|g;.exact .inl g
   .rcases J_.1 g with g|g;.exact .inr (.inl g)
    .exact .inr (.inr (.inl g))
  .split at g;.rename_i h;exact .inr (.inr (.inr ⟨U_.1 g,h⟩))
   .cases g
 rcases s with e|e|e|⟨e,i⟩
 .rcases aJe σ (cnt σ f.regs f.ins c) (f.ins.getD c default)with⟨_,_,h3⟩|⟨j,hj,h3⟩|⟨_,h3⟩;.rw[e,h3];omega
  .rw[e,h3];exact r j A_
  .rw[e,h3];exact q _ x.1 x.2
 .rcases aUg σ (cnt σ f.regs f.ins c) (f.ins.getD c default)with⟨_,_,h3⟩|⟨j,hj,h3⟩|⟨_,h3⟩;.rw[e,h3];omega
  .rw[e,h3];exact r j A_
  .rw[e,h3];exact q _ o.1 o.2
 .exact t n (by unfold bS;exact G4 _ (M6 _ (M6 _ e)))
 .have A:=(jV σ (cnt σ f.regs f.ins c) (f.ins.getD c default)).1;have u:(f.ins.getD c default).op≠67\/0<=(f.ins.getD c default).d->0<=(f.ins.getD c default).d/\(f.ins.getD c default).d<f.regs:=fun h=>p _ (by unfold bS;rw[K_ h];simp);have mp:=r (bZ σ (cnt σ f.regs f.ins c) (f.ins.getD c default)).length;rw[e];unfold fH at mp;unfold opD at i mp |-;by_cases l:(f.ins.getD c default).d∈aY (f.ins.getD c default)
  .rw[K_ l]at i mp |-;have v:0<(f.ins.getD c default).d:=by
    unfold aY at l;repeat' split at l
    .exact(cW.1 l).2
    .exact(cW.1 l).2
    .cases l
   cases hs:bV σ (f.ins.getD c default).d with
   |none=>have:=u (.inr A_);dsimp only;omega
   |some k =>rw[hs]at mp;dsimp only at mp |-;rw[A];exact mp B_
  .rw[I_ l]at i |-;dsimp only at i |-;by_cases h67:(f.ins.getD c default).op=67
   .rcases i with h|h;.exact absurd h67 h
    .by_cases v:0<=(f.ins.getD c default).d;.have:=u (.inr v);exact q _ this.1 this.2
     .unfold low at h;split at h<;>omega
   .have:=u (.inl h67);exact q _ this.1 this.2
theorem bDd:sI (rwR σ f.regs f.ins) f.sl f.nd f.pr (plC σ f.regs f.ins)=true:=by
 obtain⟨⟨J,R,L,h3,Y⟩,_,b⟩:=qP hb;have v:=xI hb;have N:=bPp hb;have W:=(aDm σ f.regs f.ins).1;have d:(plC σ f.regs f.ins).length=(bG σ f.regs f.ins).length:=L_ _;have I:=(lF σ f.regs f.ins).1;unfold sI;simp only[P_,q_,D7];refine⟨⟨by omega,R,L,h3,by omega⟩,?_,?_⟩
 .rw[t_];intro y V;obtain⟨k,E,rfl⟩:=H8 V;obtain⟨c,j,u,o,rfl⟩:=eS (by rw[<-d];exact E);have G:=sJ σ f.regs f.ins c;have H:=bQ u;have s:=aDg (σ:=σ) (r:=f.regs) u o;rw[W_,D_ E,Option.getD_some]at s;rw[s];have t:∀(op q a:Int),(op=69\/op=64)->0<=q/\q<rwR σ f.regs f.ins->0<=a/\a<rwR σ f.regs f.ins->¬qM (rwR σ f.regs f.ins) (plC σ f.regs f.ins) ⟨op,q,a,0,0,0,.nil,[],.nil,[]⟩=true:=fun op q a U F Z=>by
   have P:nC op 0=true:=by unfold nC;rw[V_ (p:=(26<=op/\op<=31)\/(64<=op/\op<=72)) A_,M9]
   have z:fR ⟨op,q,a,0,0,0,.nil,[],.nil,[]⟩=false:=by unfold fR;dsimp only;rw[l_ A_,l_ A_,l_ A_];rfl
   have i:(bS ⟨op,q,a,0,0,0,.nil,[],.nil,[]⟩).any (nE (rwR σ f.regs f.ins))=false:=by rw[t_];intro n g;unfold bS at g;dsimp only at g;rw[K_ A_]at g;unfold nE;simp at g;rcases g with rfl|rfl|rfl<;>simp<;>omega
   unfold qM;rw[z,i];dsimp only;rw[P,K6];simp
  rcases jF (D_ o)with⟨hjp,_⟩|⟨hje,e⟩|⟨hje,q,w,hp,_,_,e⟩
  .obtain⟨n,k,_,_,e2⟩:=aUf (D_ hjp);have e3:(dM σ (cnt σ f.regs f.ins c) (f.ins.getD c default))[j]?=(bZ σ (cnt σ f.regs f.ins c) (f.ins.getD c default))[j]? := by unfold dM;rw[Y_ hjp]
   rw[D_ o,D_ hjp]at e3;rw[D6 e3,e2];have:=aJn hb hv (c:=c) (e:=j) ⟨u,by omega⟩;have h:plI (ldI (cnt σ f.regs f.ins c+j) k)=⟨69,cnt σ f.regs f.ins c+j,0,0,0,0,.nil,[],.nil,[]⟩:=by unfold plI ldI;simp
   rw[h];exact t 69 _ 0 (.inl rfl) A_ A_
  .rw[e,sK v H];obtain⟨T,b2,b3⟩:=aJm hb H;unfold qM;rw[show(eR σ (cnt σ f.regs f.ins c) (f.ins.getD c default)).op=(f.ins.getD c default).op from rfl,show(eR σ (cnt σ f.regs f.ins c) (f.ins.getD c default)).im=(f.ins.getD c default).im from rfl,show fR (eR σ (cnt σ f.regs f.ins c) (f.ins.getD c default))=fR (f.ins.getD c default) from rfl,show(eR σ (cnt σ f.regs f.ins c) (f.ins.getD c default)).lb=(f.ins.getD c default).lb from rfl,bDb σ _ _ _ v.ls,T];have i:(bS (eR σ (cnt σ f.regs f.ins c) (f.ins.getD c default))).any (nE (rwR σ f.regs f.ins))=false:=by rw[t_];intro n g;have:=bDc hb hv u g;unfold nE;simp;omega
   rw[i];cases z:fR (f.ins.getD c default)with
   |false=>rw[K6];simp
   |true=>rw[b3 z];decide
  .have F:=xE hp;rw[(jV σ (cnt σ f.regs f.ins c) (f.ins.getD c default)).1]at F;have:=aJn hb hv (c:=c) (e:=(bZ σ (cnt σ f.regs f.ins c) (f.ins.getD c default)).length) ⟨u,by rw[hp];simp⟩;have h:plI (stI q w)=⟨64,0,q,0,0,0,.nil,[],.nil,[]⟩:=by unfold plI stI;simp
   rw[e,h];exact t 64 0 q (.inr rfl) A_ A_
 .obtain⟨m,D⟩:∃m,f.ins.length=m+1:=⟨f.ins.length-1,by omega⟩
  have l:m<f.ins.length:=A_;unfold aI8 at b |-;rw[D,N6,q_]at b;have A:=aL8 (σ:=σ) (r:=cnt σ f.regs f.ins m) (x:=f.ins.getD m default) A_;have C:(dM σ (cnt σ f.regs f.ins m) (f.ins.getD m default)).length=(bZ σ (cnt σ f.regs f.ins m) (f.ins.getD m default)).length+1:=by unfold dM;rw[A];simp
  have Q:=xB (σ:=σ) (r:=f.regs) (ins:=f.ins) (c:=m) l;rw[<-D,aJb,C]at Q;have o:(bZ σ (cnt σ f.regs f.ins m) (f.ins.getD m default)).length<(dM σ (cnt σ f.regs f.ins m) (f.ins.getD m default)).length:=A_;have s:=aDg (σ:=σ) (r:=f.regs) l o;have e2:=aJa σ (cnt σ f.regs f.ins m) (f.ins.getD m default);rw[D_ o]at e2;rw[D6 e2,sK v (bQ l)]at s;rw[d,show(bG σ f.regs f.ins).length-1=ofs σ f.regs f.ins m+(bZ σ (cnt σ f.regs f.ins m) (f.ins.getD m default)).length by omega,s];exact V_ b
end
theorem aUs{x:VI}{O:Te_}{n i:Nat}(hi:i<n)(hO:(wlI 0 (O i)).length<=500){D:Ta_}(hD:D.length<=30)(J e:Tag)(x0 V x2 Y x5 x7 x13 x14 x15 x16 v o:TV):∀(k j:Nat) (S:aA) (l:Tf_) (c:Nat) (x11 x12 y u s m g b:TV),j+k=D.length->MpP S 0 l c ->∃(S':aA) (l':Tf_) (c':Nat) (hn F h6 hf ha hh A G:TV),lp' (lim K) t34L1 [x0,V,x2,Y,.iv (.sl J (bK O n)),x5,.map 0,x7,j_ i,.lb ((aJ x).map .iv),.iv (.sl e (aZ D)),x11,x12,x13,x14,x15,x16,v,o,.iv (.sl e (aZ D)),j_ D.length,j_ j,y,u,s,m,g,b] S = .ret (.exit 2,[x0,V,x2,Y,.iv (.sl J (bK O n)),x5,.map 0,x7,j_ i,.lb ((aJ x).map .iv),.iv (.sl e (aZ D)),hn,F,x13,x14,x15,x16,v,o,.iv (.sl e (aZ D)),j_ D.length,j_ D.length,h6,hf,ha,hh,A,G],S')/\MpP S' 0 l' c'/\(∀p,eJ l' p=true↔eJ l p=true\/∃d∈D.drop j,aUk x d (wlI 0 (O i)++D) p)/\l'.length<=l.length+k*600/\bL [0] S S'
 |0,j,S,l,c,x11,x12,y,u,s,m,g,b,h,hm=>by
  obtain rfl:j=D.length:=A_;refine⟨S,l,c,x11,x12,z_,u,s,m,g,b,aE K _ _ t34L1.eq_1 ?_,hm,fun p=>?_,by omega,bL.refl _ _⟩;.simp(disch:=omega)only[go_sem]
  .rw[E0];exact⟨.inl,fun h=>by rcases h with h|⟨r,hr,_⟩;exact h;cases hr⟩
 |k+1,j,S,l,c,x11,x12,y,u,s,m,g,b,h,hm=>by
  have h8:j<D.length:=A_;have a:indexAddrS 1 (.iv (.sl e (aZ D))) (j:Int)=some (.iv (.cp [.int .i64 (D.getD j 0)])):=pI (f:=IV.int .i64) (t:=e) (l:=D) (i:=(j:Int)) A_;have T:=sO h8;have ht:indexAddrS 1 (.iv (.sl J (bK O n))) (i:Int)=some (.iv (.cp [.sl (jL (aZ (wlI 0 (O i)))) (aZ (wlI 0 (O i)))])):=ixL (I:=O) (n:=n) hi J;let E:List (Tag×List Int):=[(jL (aZ (wlI 0 (O i))),wlI 0 (O i)),(e,D)]
  have L:aDb E=wlI 0 (O i)++D:=by show wlI 0 (O i)++(D++[])=_;rw[A4]
  have w:vF E=(wlI 0 (O i)).length+D.length:=by show(wlI 0 (O i)).length+(D.length+0)=_;omega
  have z:=bCq E (by simp[E]) (by rw[w];omega) (by rw[w];omega) S;rw[L]at z;have h4:E.map nD=[[.sl (jL (aZ (wlI 0 (O i)))) (aZ (wlI 0 (O i)))],[.sl e (aZ D)]]:=rfl;rw[h4]at z;have h5:(wlI 0 (O i)++D).length<=1000:=by rw[H_];omega
  have ho:MpP (S++[.tok (wlI 0 (O i)++D).length 1 3]) 0 l c:=⟨aR hm.1 _,hm.2⟩
  obtain⟨S1,l1,c1,F,A,G,lp,h7,H,Z,P⟩:=aJi (x:=x) h5 (D.getD j 0) S.length x0 V x2 Y (.iv (.sl J (bK O n))) x5 x7 (j_ i) (.iv (.sl e (aZ D))) x13 x14 x15 x16 v o (.iv (.sl e (aZ D))) (j_ D.length) (j_ j) e_ (wlI 0 (O i)++D).length 0 _ l c x12 g b A_ ho;rw[n0_]at lp;rw[C4]at H;obtain⟨S',l',c',hj,he,hp,hg,h0,hc,hb,hs,ih,h9,U,hu,Q⟩:=aUs (x:=x) hi hO hD J e x0 V x2 Y x5 x7 x13 x14 x15 x16 v o k (j+1) S1 l1 c1 (j_ (D.getD j 0)) F e_ (.tsl S.length (aZ (wlI 0 (O i)++D))) (.iv (.int .i64 (wlI 0 (O i)++D).length)) (.iv (.int .i64 (wlI 0 (O i)++D).length)) A G A_ h7;rw[show((j+1:Nat):Int)=(j:Int)+1 by omega]at ih;refine⟨S',l',c',hj,he,hp,hg,h0,hc,hb,hs,aE K _ _ t34L1.eq_1 ?_,h9,fun p=>?_,?_,?_⟩
  .generalize D.getD j 0=d at *
   have N:=eK (wlI 0 (O i)++D);generalize hC:wlI 0 (O i)++D=C at *
   generalize bK O n=RL at *
   clear H U T;generalize wlI 0 (O i)=W at *
   simp(disch:=omega)only[go_sem,a,ht,z,N];rw[lp];simp(disch:=omega)only[go_sem,aC];exact X_ er ih
  .rw[U,H,T];constructor
   .rintro((a|a)|⟨d,R,a⟩);.exact .inl a
    .exact .inr ⟨_,N5,a⟩
    .exact .inr ⟨d,M6 _ R,a⟩
   .rintro(a|⟨d,R,a⟩);.exact .inl (.inl a)
    .rcases J_.1 R with rfl|R;.exact .inl (.inr a)
     .exact .inr ⟨d,R,a⟩
  .rw[H_]at Z;omega
  .refine⟨?_,fun q B hq hB=>Q.get q B hq (P.get q B hq (aR hB _))⟩;have a:=P.len;have h2:=Q.len;rw[H_]at a;omega
def bDe(x:VI)(p:Int×Int):Prop:=x.op=64/\x.a≠x.d/\x.a≠0/\x.d≠0/\p=prP x.a x.d
def mvS(S:aA)(x:VI)(m:List (Nat×(Int×Int)×Int))(cm:Nat):aA :=
 if x.op=64/\x.a≠x.d/\x.a≠0/\x.d≠0 then(S.set 1 (.mp (mpK en2 qJ (fU m cm (prP x.a x.d) (yY m (prP x.a x.d)))) (aAm m cm (prP x.a x.d)))).set 1 (.mp (mpK en2 qJ (fU m cm (prP x.a x.d) (IntKind.i64.wrap (yY m (prP x.a x.d)+1)))) (aAm m cm (prP x.a x.d)))else S
theorem bQ7{S:aA}{x:VI}{m:Tf_}{c:Nat}(h:MpP S 1 m c):∃i g,MpP (mvS S x m c) 1 i g/\(∀p,eJ i p=true↔eJ m p=true\/bDe x p)/\i.length<=m.length+1/\∀q B,q≠1->S[q]?=some B->(mvS S x m c)[q]?=some B:=by
 unfold mvS;by_cases hc:x.op=64/\x.a≠x.d/\x.a≠0/\x.d≠0;.rw[K_ hc];refine⟨_,_,⟨aM (by simpa using aN h.1) _,h.2.put _ _⟩,fun p=>?_,aBt ..,fun q B j f=>by rw[aB (B0 j),aB (B0 j)];exact f⟩;rw[aPm,D3,q_];exact⟨fun b=>b.elim (fun e=>.inr ⟨hc.1,hc.2.1,hc.2.2.1,hc.2.2.2,e.symm⟩) .inl,fun b=>b.elim .inr (fun e=>.inl e.2.2.2.2.symm)⟩
 .rw[I_ hc];exact⟨m,c,h,fun p=>⟨.inl,fun b=>b.elim id (fun e=>absurd ⟨e.1,e.2.1,e.2.2.1,e.2.2.2.1⟩ hc)⟩,by omega,fun q B _ f=>f⟩
theorem aUt{ti:Tag}{ins:List VI}(hn:ins.length<=1000){O:Te_}(hO:∀i,i<ins.length->(wlI 0 (O i)).length<=500)(tO:Tag)(x0 x1 x2 x3 x5 x13:TV):∀(k i:Nat) (S:aA) (l:Tf_) (c:Nat) (m:Tf_) (L:Nat) (x8 x9 x10 x11 x12 h7 E H D F o y v s u r:TV),i+k=ins.length->MpP S 0 l c->MpP S 1 m L ->∃(S':aA) (l':Tf_) (c':Nat) (m':Tf_) (h0:Nat) (y8 y9 hk Y h5 g6 hu g7 gi g2 Q V T W R h6:TV),lp' (lim K) t34L2 [x0,x1,x2,x3,.iv (.sl tO (bK O ins.length)),x5,.map 0,.map 1,x8,x9,x10,x11,x12,x13,.iv (.sl ti (ins.map aJ)),j_ ins.length,j_ (i:Int),h7,E,H,D,F,o,y,v,s,u,r] S = .ret (.exit 0,[x0,x1,x2,x3,.iv (.sl tO (bK O ins.length)),x5,.map 0,.map 1,y8,y9,hk,Y,h5,x13,.iv (.sl ti (ins.map aJ)),j_ ins.length,j_ ins.length,g6,hu,g7,gi,g2,Q,V,T,W,R,h6],S')/\MpP S' 0 l' c'/\MpP S' 1 m' h0/\(∀p,eJ l' p=true↔eJ l p=true\/∃q,i<=q/\q<ins.length/\bC1 (ins.getD q default) (wlI 0 (O q)) p)/\(∀p,eJ m' p=true↔eJ m p=true\/∃q,i<=q/\q<ins.length/\bDe (ins.getD q default) p)/\l'.length<=l.length+k*18000/\m'.length<=m.length+k
 |0,i,S,l,c,m,L,x8,x9,x10,x11,x12,h7,E,H,D,F,o,y,v,s,u,r,h,hm,hmm=>by obtain rfl:i=ins.length:=A_;refine⟨S,l,c,m,L,x8,x9,x10,x11,x12,z_,E,H,D,F,o,y,v,s,u,r,aE K _ _ t34L2.eq_1 ?_,hm,hmm,fun p=>⟨.inl,fun h=>h.elim id (fun⟨q,n,C,_⟩=>A_)⟩,fun p=>⟨.inl,fun h=>h.elim id (fun⟨q,n,C,_⟩=>A_)⟩,by omega,by omega⟩;simp(disch:=omega)only[go_sem]
 |k+1,i,S,l,c,m,L,x8,x9,x10,x11,x12,h7,E,H,D,F,o,y,v,s,u,r,h,hm,hmm=>by
  have G:i<ins.length:=A_;have j:=gC (w:=8) (f:=aJ) eZ (t:=ti) (l:=ins) (i:=(i:Int)) A_;rw[Int.toNat_natCast,cV]at j;obtain⟨t',_,U⟩:=aP6 (ins.getD i default);rw[cV]at U;have A:=eK (aY (ins.getD i default));have N:=zA (ins.getD i default);obtain⟨m1,ha,hg,J,gj,g8⟩:=bQ7 (x:=ins.getD i default) hmm;have h8:MpP (mvS S (ins.getD i default) m L) 0 l c:=⟨g8 0 _ C_ hm.1,hm.2⟩
  have P:=fun(x11 x12 o y v s u r:TV) (b18:Bool)=>aUs (x:=ins.getD i default) G (hO i G) N tO t' x0 x1 x2 x3 x5 (.map 1) x13 (.iv (.sl ti (ins.map aJ))) (j_ ins.length) (j_ (i:Int)) e_ (.iv (.bool b18)) (aY (ins.getD i default)).length 0 (mvS S (ins.getD i default) m L) l c x11 x12 o y v s u r A_ h8;obtain⟨S1,l1,c1,Y,h5,Q,V,T,W,R,h6,lp,ht,Z,hy,hl⟩:=P x11 x12 o y v s u r (decide ((ins.getD i default).op=64/\(ins.getD i default).a≠(ins.getD i default).d/\(ins.getD i default).a≠0/\(ins.getD i default).d≠0));rw[n0_]at lp;rw[C4]at Z;have h9:MpP S1 1 m1 ha:=⟨hl.get 1 _ B_ hg.1,hg.2⟩
  obtain⟨S',l',c',m',h0,z8,z9,hz,gf,ga,g4,ge,hv,g9,hp,gg,gd,ho,g5,g3,gh,z,hf,hi,hb,hh,gb,hq⟩:=aUt (ti:=ti) hn hO tO x0 x1 x2 x3 x5 x13 k (i+1) S1 l1 c1 m1 ha (j_ (i:Int)) (.lb ((aJ (ins.getD i default)).map .iv)) (.iv (.sl t' (aZ (aY (ins.getD i default))))) Y h5 e_ (.iv (.bool (decide ((ins.getD i default).op=64/\(ins.getD i default).a≠(ins.getD i default).d/\(ins.getD i default).a≠0/\(ins.getD i default).d≠0)))) (.iv (.sl t' (aZ (aY (ins.getD i default))))) (.iv (.int .i64 (aY (ins.getD i default)).length)) (.iv (.int .i64 (aY (ins.getD i default)).length)) Q V T W R h6 A_ ht h9;rw[show((i+1:Nat):Int)=(i:Int)+1 by omega,aS]at z;rw[aS]at lp;refine⟨S',l',c',m',h0,z8,z9,hz,gf,ga,g4,ge,hv,g9,hp,gg,gd,ho,g5,g3,gh,aE K _ _ t34L2.eq_1 ?_,hf,hi,fun p=>?_,fun p=>?_,?_,by omega⟩
  .clear Z hb hh hy gb hq J h8 h9 hf hi P;have g:TM.Pure K 43 [.iv (.agg [.int .i64 (ins.getD i default).op,.int .i64 (ins.getD i default).d,.int .i64 (ins.getD i default).a,.int .i64 (ins.getD i default).b,.int .i64 (ins.getD i default).im,.int .i64 (ins.getD i default).lb,.sl (ins.getD i default).tu (TM.one (.int .i64) (ins.getD i default).us),.sl (ins.getD i default).tm (TM.one (.int .i64) (ins.getD i default).mp)])] (.iv (.sl t' (aZ (aY (ins.getD i default))))):=U;clear U;have gc:=aQe (ins.getD i default).a (ins.getD i default).d;unfold mvS at lp;generalize aY (ins.getD i default)=DD at *
   generalize hx:ins.getD i default=x at *
   generalize bK O ins.length=RL at *
   by_cases hc:x.op=64/\x.a≠x.d/\x.a≠0/\x.d≠0
   .rw[K_ hc,V_ hc]at lp;rw[V_ hc]at z;obtain⟨I,p2,p3,p4⟩:=hc;obtain⟨he,hj⟩:=hmm;have hw:=es2 hj (aAm m L (prP x.a x.d));have hs:=aN he;have g1:∀b,(S.set 1 b)[1]?=some b:=fun b=>aM hs b;have hr:=aG7 m L (prP x.a x.d) (yY m (prP x.a x.d));generalize prP x.a x.d=pd at *
    obtain⟨pa,pb⟩:=pd;dsimp only at *
    rw[I]at lp z g j;simp(disch:=omega)only[go_sem,j,p2,p3,p4,aD gc,he,g1,hw,hr,aD g,A,ne_eq,P7,C9];rw[lp];simp(disch:=omega)only[go_sem,aC];exact X_ er z
   .rw[I_ hc,l_ hc]at lp;rw[l_ hc]at z;rcases(by omega:x.op≠64\/(x.op=64/\x.a=x.d)\/(x.op=64/\x.a≠x.d/\x.a=0)\/(x.op=64/\x.a≠x.d/\x.a≠0/\x.d=0))with I|⟨I,p2⟩|⟨I,p2,p3⟩|⟨I,p2,p3,p4⟩;.simp(disch:=omega)only[go_sem,j,I,aD g,A];rw[lp];simp(disch:=omega)only[go_sem,aC];exact X_ er z
    .rw[I,p2]at lp z g j;simp(disch:=omega)only[go_sem,j,aD g,A,ne_eq,P7,C9];rw[lp];simp(disch:=omega)only[go_sem,aC];exact X_ er z
    .rw[p3]at p2;rw[I,p3]at lp z g j;simp(disch:=omega)only[go_sem,j,p2,aD g,A,ne_eq,P7,C9];rw[lp];simp(disch:=omega)only[go_sem,aC];exact X_ er z
    .rw[p4]at p2;rw[I,p4]at lp z g j;simp(disch:=omega)only[go_sem,j,p2,p3,aD g,A,ne_eq,P7,C9];rw[lp];simp(disch:=omega)only[go_sem,aC];exact X_ er z
  .rw[hb,Z];constructor
   .rintro((n|⟨d,hd,n⟩)|⟨q,n,C,h3⟩);.exact .inl n
    .exact .inr ⟨i,O_ _,G,d,hd,n⟩
    .exact .inr ⟨q,by omega,C,h3⟩
   .rintro(n|⟨q,n,C,h3⟩);.exact .inl (.inl n)
    .by_cases e:q=i;.subst e;obtain⟨d,hd,h4⟩:=h3;exact .inl (.inr ⟨d,hd,h4⟩)
     .exact .inr ⟨q,by omega,C,h3⟩
  .rw[hh,J];constructor
   .rintro((n|n)|⟨q,n,C,h3⟩);.exact .inl n
    .exact .inr ⟨i,O_ _,G,n⟩
    .exact .inr ⟨q,by omega,C,h3⟩
   .rintro(n|⟨q,n,C,h3⟩);.exact .inl (.inl n)
    .by_cases e:q=i;.subst e;exact .inl (.inr h3)
     .exact .inr ⟨q,by omega,C,h3⟩
  .have:=D4 100 N;omega
def aAr(ks:List (Int×Int)):List (List IV):=ks.map fun p=>[.int .i64 p.1,.int .i64 p.2]
def aQg(ks:List (Int×Int)):Tag:=if ks=[]then .nil else .no
theorem aUu:∀a:List (Int×Int),cP 2 a.length ((gR a).map (IV.int .i64))=aAr a
 |[]=>rfl
 |x::r=>by rw[List.length_cons,gR,Q_,Q_,cP];simp only[List.take_succ_cons,List.take_zero,J5,C4,aUu r];rfl
theorem aQh{S:aA}{j:Nat}{a:Tb_}(h:S[j]?=some (.cells (a.length-1) true (mR a))):cH S (.msl j (a.length-1) 0 a.length a.length 2)=some (aAr a):=by
 have b:sub (mR a) 0 (a.length*2)=some (mR a):=mC (xG a);have c:toIVs (mR a)=some ((gR a).map (IV.int .i64)):=by
  have:mR a=((gR a).map (IV.int .i64)).map TV.iv:=by unfold mR;rw[L7];rfl
  rw[this,fM]
 simp only[cH,h,ne_eq,C9,I9,b,c,Option.map_some,aUu]
structure nF (Q:Int×Int->Prop) (E:List (Int×Int)):Prop where
 inc:E.Pairwise ltq
 mem:∀p,p∈E↔Q p
theorem aMe{l:Tf_}{c:Nat}(a:fG l c){Q:Int×Int->Prop}(h:∀p,eJ l p=true↔Q p):nF Q (gT (l.map (·.2.1))) :=
 ⟨bCz a.keys,fun p=>by rw[(kD _).mem_iff,<-aFx];exact h p⟩
theorem bDf:∀(l:Tb_) (lo e:Int),l.Pairwise ltq->(∀p∈l,lo<=p.1*1000+p.2/\p.1*1000+p.2<e/\0<=p.2/\p.2<1000)->lo<=e->(l.length:Int)<=e-lo
 |[],lo,e,_,_,h=>by simp;omega
 |p::r,lo,e,h1,h2,h3=>by have a:=h2 p (N5 ..);have b:=bDf r (p.1*1000+p.2+1) e (E6.1 h1).2 (fun q f=>by have c:=(E6.1 h1).1 q f;have d:=h2 q (M6 _ f);unfold ltq at c;omega) A_;rw[List.length_cons];omega
theorem xJ{rg:Int}(d:rg<=1000){E:Tb_}(a:E.Pairwise ltq)(b:∀p∈E,InP rg p):E.length<=1000000:=by have:=bDf E 0 1000000 a (fun p c=>by have:=b p c;unfold InP at this;omega) A_;omega
theorem bQ8{fn rg sl nd pr:Int}{rs:Bool}{ti:Tag}{ins:List VI}(hn:ins.length<=1000)(n:rg<=1000){O:Te_}(hO:∀i,i<ins.length->(wlI 0 (O i)).length<=500)(C:∀p,oZ ins (fun i=>wlI 0 (O i)) p->InP rg p)(u:∀p,sL ins p->InP rg p) (w:TM.Pure K 13 [.iv (.agg (gG fn rg sl nd pr rs ti ins))] (.tup [.iv (.sl (jL (bK O ins.length)) (bK O ins.length)),j_ 0])): fP K 34 [.iv (.agg (gG fn rg sl nd pr rs ti ins))] fun v=>∃E M,v=.tup [.iv (.agg [.int .i64 rg,.sl (aQg E) (aAr E),.sl (aQg M) (aAr M)]),j_ 0]/\nF (oZ ins fun i=>wlI 0 (O i)) E/\nF (sL ins) M:=by
 obtain⟨S',l',c',I,h6,y8,y9,L,h5,h7,V,P,Z,h9,U,N,h0,T,h4,Q,h8,lp,g,d,A,D,R,J⟩:=aUt (ti:=ti) (ins:=ins) A_ hO (jL (bK O ins.length)) (.iv (.agg (gG fn rg sl nd pr rs ti ins))) (.lb [j_ fn,j_ rg,j_ sl,j_ nd,j_ pr,.iv (.bool rs),.iv (.sl ti (ins.map aJ))]) (.lb [j_ 0,k_,k_]) (j_ 0) (j_ 0) z_ ins.length 0 [.mp [] 0,.mp [] 0] [] 0 [] 0 u_ u_ u_ u_ u_ u_ u_ u_ u_ u_ u_ u_ u_ u_ u_ u_ A_ ⟨rfl,fG.nil 0⟩ ⟨rfl,fG.nil 0⟩;rw[n0_]at lp;have z:nF (oZ ins fun i=>wlI 0 (O i)) (gT (l'.map (·.2.1))):=aMe g.2 fun p=>by rw[A];exact⟨fun h=>h.elim (fun h=>by cases h) (fun⟨q,_,h2,h3⟩=>⟨q,h2,h3⟩),fun⟨q,h2,h3⟩=>.inr ⟨q,I3 _,h2,h3⟩⟩
 have y:nF (sL ins) (gT (I.map (·.2.1))):=aMe d.2 fun p=>by rw[D];exact⟨fun h=>h.elim (fun h=>by cases h) (fun⟨q,_,h2,h3⟩=>⟨q,h2,h3⟩),fun⟨q,h2,h3⟩=>.inr ⟨q,I3 _,h2,h3⟩⟩
 have j:(ins.map aJ).length=ins.length:=L_ _;have b:=xJ n z.inc fun p F=>C p ((z.mem p).1 F);have a:=xJ n y.inc fun p F=>u p ((y.mem p).1 F);rw[zF,L_]at b a;have W:=bC5 g.2 b g.1;unfold fP;unfold gG at *
 refine dJ K _ (fn:=t34) rfl rfl ?_;generalize hks1:l'.map (·.2.1)=k1 at *
 generalize hks2:I.map (·.2.1)=k2 at *
 simp(disch:=omega)only[t34,go_sem,aD w,j];rw[lp];simp(disch:=omega)only[go_sem];refine fI W ?_;rintro v S1 ⟨Y,s,rfl,r1⟩;have o:=Y 1 _ (aN d.1) d.1;have x:=bC5 d.2 a o;rw[hks2]at x;generalize hq1:gT k1=q1 at *
 generalize hq2:gT k2=q2 at *
 have fin:∀(S2:aA) (f:Nat),aDl S2 s q1->aDl S2 f q2->∀r:TV×aA,(r.1=.tup [(if q1=[]/\q2=[]then .iv (.agg [.int .i64 rg,.sl .nil [],.sl .nil []])else .agg [j_ rg,zE s q1,zE f q2]),j_ 0]/\r.2=S2)->∃v,TM.resolve r.2 r.1=some v/\∃E M,v=.tup [.iv (.agg [.int .i64 rg,.sl (aQg E) (aAr E),.sl (aQg M) (aAr M)]),j_ 0]/\nF (oZ ins fun i=>wlI 0 (O i)) E/\nF (sL ins) M:=by
  rintro S2 f t b2 ⟨r,_⟩ ⟨H,rfl⟩;dsimp only at H;subst H;refine⟨_,?_,q1,q2,rfl,z,y⟩;by_cases b:q1=[]
  .by_cases a:q2=[]
   .rw[K_ ⟨b,a⟩,b,a];rfl
   .have e2:=aQh (b2 a);rw[I_ (fun h=>a h.2),b,gK,dO _ a];unfold aQg;rw[I_ a];simp(disch:=omega)only[go_sem,e2];rfl
  .have G:=aQh (t b);by_cases a:q2=[]
   .rw[I_ (fun h=>b h.1),a,gK,dO _ b];unfold aQg;rw[I_ b];simp(disch:=omega)only[go_sem,G];rfl
   .have e2:=aQh (b2 a);rw[I_ (fun h=>b h.1),dO _ b,dO _ a];unfold aQg;rw[I_ b,I_ a];simp(disch:=omega)only[go_sem,G,e2]
 by_cases b:q1=[]
 .rw[b,gK];simp(disch:=omega)only[go_sem];refine fI x ?_;rintro v S2 ⟨a2,f,rfl,e⟩;dsimp only at a2 e;rw[hq2]at e |-;by_cases a:q2=[]
  .rw[a,gK];simp(disch:=omega)only[go_sem];refine bE (fin S2 f (fun h=>absurd b h) e _ ⟨?_,rfl⟩);rw[K_ ⟨b,a⟩]
  .rw[dO _ a];simp(disch:=omega)only[go_sem];refine bE (fin S2 f (fun h=>absurd b h) e _ ⟨?_,rfl⟩);rw[I_ (fun h=>a h.2),b,gK,dO _ a]
 .have t:=r1 b;rw[dO _ b];simp(disch:=omega)only[go_sem];refine fI x ?_;rintro v S2 ⟨a2,f,rfl,e⟩;dsimp only at a2 e;rw[hq2]at e |-;have k:aDl S2 s q1:=fun h=>a2 s _ (aN t) t;by_cases a:q2=[]
  .rw[a,gK];simp(disch:=omega)only[go_sem];refine bE (fin S2 f k e _ ⟨?_,rfl⟩);rw[I_ (fun h=>b h.1),a,gK,dO _ b]
  .rw[dO _ a];simp(disch:=omega)only[go_sem];refine bE (fin S2 f k e _ ⟨?_,rfl⟩);rw[I_ (fun h=>b h.1),dO _ b,dO _ a]
def iM(p:Int×Int):List IV:=[.int .i64 p.1,.int .i64 p.2]
theorem bQ9(n:Nat)(f:Nat->TV):cF n f++[f n]=cF (n+1) f:=by simp[cF,R2]
theorem aMf{n:Nat}{f g:Nat->TV}(h:∀i,i<n->f i=g i):cF n f=cF n g:=by apply R6;intro i a;exact h i (C5.1 a)
theorem fS{j v n:Nat}{r:Nat}(h:r<n):indexAddrS 1 (.msl j v 0 n n 1) (r:Int)=some (.ptr j v r):=by rw[aLm A_,Int.toNat_natCast,A7]
def nI(v:Nat):TV:=.iv (.int .i64 v)
def mE(S:aA)(i n:Nat)(f:Nat->Bool):Prop :=
 ∃l c,S[i]?=some (.mp (mpR vI l) c)/\gE l c/\∀t:Int,cG l t=true↔∃s:Nat,t=s/\s<n/\f s=true
structure Pn where
 n:Nat
 tE:Tag
 E:List (Int×Int)
 tM:Tag
 M:List (Int×Int)
 near:Nat->Nat->Bool
 own:Nat->Nat->Bool
 to:Nat->Nat
 out:Nat->Int
structure Ad where
 ip:Nat
 jn:Nat
 vn:Nat
 jo:Nat
 vo:Nat
 jt:Nat
 vt:Nat
 ju:Nat
 nm:Nat->Nat
 om:Nat->Nat
def dQ(a:Ad)(p:Pn):List TV:=[.iv (.int .i64 p.n),.iv (.sl p.tE (p.E.map iM)),.iv (.sl p.tM (p.M.map iM)),.msl a.jn a.vn 0 p.n p.n 1,.msl a.jo a.vo 0 p.n p.n 1,.msl a.jt a.vt 0 p.n p.n 1,.msl a.ju 0 0 p.n p.n 1]
structure PT (S:aA) (a:Ad) (p:Pn):Prop where
 blk:S[a.ip]?=some (.cells 106 false (dQ a p))
 near:S[a.jn]?=some (.cells a.vn true (cF p.n fun r=>.map (a.nm r)))
 own:S[a.jo]?=some (.cells a.vo true (cF p.n fun r=>.map (a.om r)))
 to:S[a.jt]?=some (.cells a.vt true (cF p.n fun r=>nI (p.to r)))
 out:S[a.ju]?=some (.cells 0 false (cF p.n fun r=>vI (p.out r)))
 nmap:∀r,r<p.n->mE S (a.nm r) p.n (p.near r)
 omap:∀r,r<p.n->mE S (a.om r) p.n (p.own r)
 ninj:∀r s,r<p.n->s<p.n->a.nm r=a.nm s->r=s
 oinj:∀r s,r<p.n->s<p.n->a.om r=a.om s->r=s
 dis:∀r s,r<p.n->s<p.n->a.nm r≠a.om s
 nd:[a.ip,a.jn,a.jo,a.jt,a.ju].Nodup
def Ad.own(a:Ad):List Nat:=[a.ip,a.jn,a.jo,a.jt,a.ju]
structure KpG (a:Ad) (S S':aA):Prop where
 len:S.length<=S'.length
 get:∀i b,S[i]?=some b->i∉a.own->(∀es c,b≠.mp es c)->S'[i]?=some b
theorem KpG.trans{a b:Ad}{S S' S'':aA}(h:KpG a S S')(g:KpG b S' S'')(e:b.own=a.own):KpG a S S'' :=
 ⟨B9 h.len g.len,fun i x f c d=>g.get i x (h.get i x f c d) (by rw[e];exact c) d⟩
theorem KpG.of{a:Ad}{S S':aA}(h:bL [] S S'):KpG a S S':=⟨h.len,fun i b c _ _=>h.get i b B_ c⟩
theorem mE.keep{S S':aA}{i n:Nat}{f:Tj_}{I:Tc_}(h:mE S i n f)(k:bL I S S')(b:i∉I):mE S' i n f:=by obtain⟨l,c,a,d,h3⟩:=h;exact⟨l,c,k.get _ _ b a,d,h3⟩
theorem PT.keep{S S':aA}{a:Ad}{p:Pn}(h:PT S a p)(k:bL [] S S'):PT S' a p :=
 ⟨k.get _ _ B_ h.blk,k.get _ _ B_ h.near,k.get _ _ B_ h.own,k.get _ _ B_ h.to,k.get _ _ B_ h.out,
  fun r b=>(h.nmap r b).keep k B_,fun r b=>(h.omap r b).keep k B_,h.ninj,h.oinj,h.dis,h.nd⟩
theorem bN{S:aA}{i j:Nat}{a b:aG}(h:S[i]?=some a)(g:S[j]?=some b)(c:a≠b):i≠j:=by rintro rfl;rw[h]at g;exact c (D6 g)
theorem PT.nmo{S:aA}{a:Ad}{p:Pn}(h:PT S a p){i n:Nat}{f:Tj_}(d:mE S i n f):i∉a.own:=by obtain⟨l,c,b,_,_⟩:=d;simp only[Ad.own,J_,D5,I4,H1];exact⟨bN b h.blk B_,bN b h.near B_,bN b h.own B_,bN b h.to B_,bN b h.out B_⟩
def deg(n:Nat)(f:Nat->Bool):Nat:=((List.range n).filter f).length
theorem aG8{α:Type}[DecidableEq α]{l m:List α}(a:l.Nodup)(b:m.Nodup)(h:∀x,x∈l↔x∈m):l.length=m.length :=
 ((U2 a b).2 h).length_eq
theorem sQ{α:Type}{l:List (Nat×Int×α)}{c n:Nat}{f:Tj_}(j:gE l c)(i:∀t:Int,cG l t=true↔∃s:Nat,t=s/\s<n/\f s=true):l.length=deg n f:=by
 have d:(l.map (·.2.1)).length=(((List.range n).filter f).map fun s:Nat=>(s:Int)).length:=by
  refine aG8 j.keys ?_ fun x=>?_;.exact V3 _ (fun a b h e=>h A_) (Q3.filter f)
  .rw[<-oJ,i x];simp only[A0,D1,C5];constructor;.rintro⟨s,rfl,d,g⟩;exact⟨s,⟨d,g⟩,rfl⟩
   .rintro⟨s,⟨d,g⟩,rfl⟩;exact⟨s,rfl,d,g⟩
 simpa[deg] using d
theorem bLc(l:Td_)(c:Nat)(k:Int):lkB (.leaf .int) (.int .i64 0) true (some (.mp (mpR vI l) c)) (j_ k)=some (.tup [j_ (lR l k),.iv (.bool (cG l k))]):=by rw[aAj];simp only[lR,cG];cases dK l k<;>rfl
attribute [go_sem] dT bLc bCs
theorem mE.put{S:aA}{i n:Nat}{f:Tj_}{l:Td_}{c:Nat}(d:S[i]?=some (.mp (mpR vI l) c))(j:gE l c)(h3:∀t:Int,cG l t=true↔∃s:Nat,t=s/\s<n/\f s=true)(k:Nat)(g:k<n)(m:n<=1000000000)(v:Int): mE (S.set i (.mp (mpR vI (gV l c k v)) (rP l c k))) i n (upd f k true):=by
 refine⟨_,_,aM (aN d) _,j.put A_ v,fun t=>?_⟩;rw[bJa,D3,h3 t];constructor
 .rintro(h|⟨s,h,b,a⟩);.exact⟨k,by simpa using(M8 h).symm,g,bU ..⟩
  .refine⟨s,h,b,?_⟩;unfold upd;split;.rfl
   .exact a
 .rintro⟨s,h,b,a⟩;unfold upd at a;split at a;.rename_i e;left;simp[h,e]
  .right;exact⟨s,h,b,a⟩
def kG(c:Int):Bool:=decide (1<=c)&&decide (c<=24)
theorem aJo(c:Int):Pure K 87 [j_ c] (.iv (.bool (kG c))):=by
 refine aT t87 rfl rfl ?_;simp(disch:=omega)only[t87,go_sem];repeat' (first|(first|refine aLc (fun h=>?_) (fun h=>?_)|refine aLd (fun h=>?_) (fun h=>?_)|refine aLe (fun h=>?_) (fun h=>?_)|refine aSr (fun h=>?_) (fun h=>?_))|simp(disch:=omega)only[go_sem])
 all_goals (simp[kG, *])
def hiF(p:Pn)(r:Nat):Bool:=decide (r<32)||decide (24<=deg p.n (p.near r))
theorem aMg{S:aA}{j c:Nat}{l:Td_}(h:S[j]?=some (.mp (mpR vI l) c)):rZ .mp S (.map j)=some (j_ l.length):=by show(if zM (.map j)=.mp then(lenOf S (.map j)).map fun(n:Nat)=>TV.iv (.int .i64 n)else none)=_;simp only[zM,lenOf,h,aLp,↓reduceIte,Option.map_some]
theorem aJp{S:aA}{a:Ad}{p:Pn}(h:PT S a p)(r:Nat)(d:r<p.n):(lim K).call 119 [.ptr a.ip 106 0,j_ r] S=.ret (.iv (.bool (hiF p r)),S):=by
 obtain⟨l,c,k,m,h3⟩:=h.nmap r d;have e:=h.blk;have g:=h.near;have o:=sQ m h3;have b:=aMg k;have i:=fS (j:=a.jn) (v:=a.vn) d;have f:=dS (fun r=>TV.map (a.nm r)) d;rw[o]at b;unfold dQ at e;refine aI K _ (fn:=t119) rfl rfl ?_;unfold hiF;by_cases h32:r<32;.simp(disch:=omega)only[t119,go_sem,h32,G2]
 .by_cases h24:24<=deg p.n (p.near r);.simp(disch:=omega)only[t119,go_sem,e,g,i,f,b,h24]
  .simp(disch:=omega)only[t119,go_sem,e,g,i,f,b,h24]
theorem PT.setN{S:aA}{a:Ad}{p:Pn}(h:PT S a p){r:Nat}(g:r<p.n){b:aG}{f:Tj_}(w:mE (S.set (a.nm r) b) (a.nm r) p.n f):PT (S.set (a.nm r) b) a {p with near:=upd p.near r f}:=by
 have m:=h.nmo (h.nmap r g);simp only[Ad.own,J_,D5,I4,H1]at m;obtain⟨u,o,q,t,v⟩:=m;refine⟨?_,?_,?_,?_,?_,fun s d=>?_,fun s d=>?_,h.ninj,h.oinj,h.dis,h.nd⟩;.rw[aB (B0 (B0 u))];exact h.blk
 .rw[aB (B0 (B0 o))];exact h.near
 .rw[aB (B0 (B0 q))];exact h.own
 .rw[aB (B0 (B0 t))];exact h.to
 .rw[aB (B0 (B0 v))];exact h.out
 .by_cases e:s=r;.subst e;simpa[bU] using w
  .have j:a.nm r≠a.nm s:=fun e2=>e (h.ninj _ _ g d e2).symm;obtain⟨l,c,i,k,h3⟩:=h.nmap s d;simp only[dB _ _ e];exact⟨l,c,by rw[aB j];exact i,k,h3⟩
 .obtain⟨l,c,i,k,h3⟩:=h.omap s d;exact⟨l,c,by rw[aB (h.dis r s g d)];exact i,k,h3⟩
theorem PT.setO{S:aA}{a:Ad}{p:Pn}(h:PT S a p){i:Nat}{b m:aG}(k:S[i]?=some b)(j:i∉a.own)(g:∀es c,b≠.mp es c):PT (S.set i m) a p:=by
 simp only[Ad.own,J_,D5,I4,H1]at j;obtain⟨r,n,o,q,t⟩:=j;refine⟨?_,?_,?_,?_,?_,fun s e=>?_,fun s e=>?_,h.ninj,h.oinj,h.dis,h.nd⟩;.rw[aB r];exact h.blk
 .rw[aB n];exact h.near
 .rw[aB o];exact h.own
 .rw[aB q];exact h.to
 .rw[aB t];exact h.out
 .obtain⟨l,c,d,f,h3⟩:=h.nmap s e;exact⟨l,c,by rw[aB (bN k d (g _ _))];exact d,f,h3⟩
 .obtain⟨l,c,d,f,h3⟩:=h.omap s e;exact⟨l,c,by rw[aB (bN k d (g _ _))];exact d,f,h3⟩
theorem PT.nit{S:aA}{a:Ad}{p:Pn}(h:PT S a p){i:Nat}{m:Option Nat}{x:Nat}{y:Tc_}{z:Nat}(b:S[i]?=some (.mit m x y z)):i∉a.own:=by simp only[Ad.own,J_,D5,I4,H1];exact⟨bN b h.blk B_,bN b h.near B_,bN b h.own B_,bN b h.to B_,bN b h.out B_⟩
theorem PT.setIt{S:aA}{a:Ad}{p:Pn}(h:PT S a p){i:Nat}{m:Option Nat}{x:Nat}{y:Tc_}{z:Nat}(c:S[i]?=some (.mit m x y z))(d:aG):PT (S.set i d) a p :=
 h.setO c (h.nit c) B_
def aXf(f:Nat->Nat->Bool)(x y:Nat):Nat->Nat->Bool:=upd (upd f x (upd (f x) y true)) y (upd (f y) x true)
theorem aUv(f:Ti_){x y:Nat}(h:x≠y)(r t:Nat):aXf f x y r t=(f r t||(decide (r=x/\t=y)||decide (r=y/\t=x))):=by
 unfold aXf upd;by_cases h1:r=y
 .subst h1;by_cases h2:t=x;.simp[h2,B0 h]
  .simp[h2,B0 h]
 .by_cases h2:r=x
  .subst h2;by_cases h3:t=y;.simp[h1,h3]
   .simp[h1,h3]
  .simp[h1,h2]
theorem bDg{S:aA}{a:Ad}{p:Pn}(h:PT S a p)(s:p.n<=1000000000){x y:Nat}(d:x<p.n)(b:y<p.n)(i:x≠y): ∃S',(lim K).call 88 [.ptr a.ip 106 0,j_ x,j_ y] S=.ret (u_,S')/\PT S' a {p with near:=aXf p.near x y}/\bL [a.nm x,a.nm y] S S':=by obtain⟨l,c,t,E,h3⟩:=h.nmap x d;have F:=mE.put t E h3 y b s (IntKind.i64.wrap (lR l y+1));have k:=h.setN d F;have u:a.nm x≠a.nm y:=fun e=>i (h.ninj _ _ d b e);obtain⟨l',c',f,o,g⟩:=k.nmap y b;simp only[dB _ _ (B0 i)]at g;have q:=mE.put f o g x d s (IntKind.i64.wrap (lR l' x+1));have m:=k.setN b q;have w:=h.blk;have b2:=h.near;have b3:=k.blk;have b4:=k.near;have A:=fS (j:=a.jn) (v:=a.vn) d;have C:=fS (j:=a.jn) (v:=a.vn) b;have z:=dS (fun r=>TV.map (a.nm r)) d;have D:=dS (fun r=>TV.map (a.nm r)) b;refine⟨_,aI K _ (fn:=t88) rfl rfl ?_,m,(bL.set _ B_ _).trans (bL.set _ B_ _)⟩;simp only[dQ]at w b3;simp(disch:=omega)only[t88,go_sem,w,b2,A,C,z,D,t,b3,b4,f]
structure Uf (p:Pn) (ρ d:Nat->Nat):Prop where
 up:∀r,r<p.n->p.to r≠r->p.to r<p.n/\ρ (p.to r)=ρ r/\d (p.to r)<d r
 fix:∀r,r<p.n->p.to r=r->ρ r=r
theorem Uf.root{p:Pn}{ρ d:Th_}(h:Uf p ρ d):∀(k r:Nat),d r<k->r<p.n->ρ r<p.n/\p.to (ρ r)=ρ r
 |0,r,hk,hr=>A_
 |k+1,r,hk,hr=>by
  by_cases e:p.to r=r;.rw[h.fix r hr e];exact⟨hr,e⟩
  .obtain⟨a,b,h3⟩:=h.up r hr e;have:=h.root k (p.to r) A_ a;rw[b]at this;exact this
theorem bDh{S:aA}{a:Ad}{p:Pn}(h:PT S a p){ρ d:Th_}(f:Uf p ρ d)(x2:TV):∀(k r:Nat) (g:TV),d r<k->r<p.n ->∃c,lp' (lim K) t89L0 [.ptr a.ip 106 0,j_ r,x2,g] S=.ret (.exit 0,[.ptr a.ip 106 0,j_ (ρ r),x2,c],S)
 |0,r,g,hk,hr=>A_
 |k+1,r,g,hk,hr=>by
  have i:=h.blk;have b2:=h.to;have l:=fS (j:=a.jt) (v:=a.vt) hr;have b:=dS (fun r=>nI (p.to r)) hr;simp only[dQ]at i;simp only[nI]at b2 b;by_cases e:p.to r=r;.rw[f.fix r hr e];rw[e]at b;refine⟨z_,aE K _ _ t89L0.eq_1 ?_⟩;simp(disch:=omega)only[go_sem,i,b2,l,b]
  .obtain⟨o,q,h3⟩:=f.up r hr e;obtain⟨c,m⟩:=bDh h f x2 k (p.to r) e_ A_ o;rw[q]at m;have e':¬((p.to r:Int)=(r:Int)):=A_;refine⟨c,aE K _ _ t89L0.eq_1 ?_⟩;simp(disch:=omega)only[go_sem,i,b2,l,b,e'];exact X_ er m
theorem aQi{S:aA}{a:Ad}{p:Pn}(h:PT S a p){ρ d:Th_}(b:Uf p ρ d)(r:Nat)(c:r<p.n):(lim K).call 89 [.ptr a.ip 106 0,j_ r] S=.ret (j_ (ρ r),S):=by obtain⟨f,e⟩:=bDh h b (j_ 0) (d r+1) r u_ A_ c;refine aI K _ (fn:=t89) rfl rfl ?_;simp(disch:=omega)only[t89,go_sem];rw[e];simp(disch:=omega)only[go_sem]
theorem aDn{l:Td_}{n:Nat}{f:Tj_}(h3:∀t:Int,cG l t=true↔∃s:Nat,t=s/\s<n/\f s=true){s:Nat}(a:s<n):cG l (s:Int)=f s:=by
 cases hf:f s with
 |true=>exact(h3 s).2 ⟨s,rfl,a,hf⟩
 |false =>
  cases hh:cG l (s:Int)with
  |false=>rfl
  |true =>obtain⟨s',e,_,h⟩:=(h3 s).1 hh;have:s=s':=A_;rw[<-this,hf]at h;cases h
theorem wE{l:Td_}{n:Nat}{f:Tj_}(h3:∀t:Int,cG l t=true↔∃s:Nat,t=s/\s<n/\f s=true){x:Nat×Int×Int}(a:x∈l):∃s:Nat,x.2.1=s/\s<n/\f s=true :=
 (h3 _).1 (oJ.2 (F0 (f:=fun y:Nat×Int×Int=>y.2.1) a))
theorem aMh{α:Type}{l:List (Nat×Int×α)}(d:(l.map (·.1)).Nodup){x y:Nat×Int×α}(i:x∈l)(j:y∈l)(h:x.1=y.1):x=y:=by
 induction l with
 |nil=>cases i
 |cons a r ih =>
  rw[Q_,C8]at d;have key:∀z∈r,z.1≠a.1:=fun z k e=>d.1 (by rw[<-e];exact F0 (f:=fun w:Nat×Int×α=>w.1) k);rcases J_.1 i with g|c
  .rcases J_.1 j with e2|b;.rw[g,e2]
   .exact absurd (h.symm.trans (by rw[g])) (key y b)
  .rcases J_.1 j with e2|b;.exact absurd (h.trans (by rw[e2])) (key x c)
   .exact ih d.2 c b
def kZ(a:Ad)(x y:Nat)(r3 x4 x5 x6 x7 x8 x9 x10 x11 x12 x13 x14 x15 x16 x17 x18 x19:TV):List TV:=[.ptr a.ip 106 0,.iv (.int .i64 x),.iv (.int .i64 y),r3,x4,x5,x6,x7,x8,x9,x10,x11,x12,x13,x14,x15,x16,x17,x18,x19]
theorem aUw{a:Ad}{p:Pn}{x y:Nat}(I:x<p.n)(hy:y<p.n){bi c:Nat}{l:Td_}(T:gE l c)(Y:∀t:Int,cG l t=true↔∃s:Nat,t=s/\s<p.n/\p.near y s=true)(x6 x7 x8 x9 x10 x14 x15 x16 o i q:TV): ∀(k:Nat) (b:Tc_) (S:aA) (x4 x5 x12 x13:TV),left l b<k->PT S a p->S[bi]?=some (.mit (some (a.nm y)) c b c)->S[a.nm y]?=some (.mp (mpR vI l) c) ->(lp' (lim K) t90L2 (kZ a x y z_ x4 x5 x6 x7 x8 x9 x10 (.it bi) x12 x13 x14 x15 x16 o i q) S).All fun r=>∃u A d f,bL [bi] S r.2.2 /\r.2.1=kZ a x y z_ u A x6 x7 x8 x9 x10 (.it bi) d f x14 x15 x16 o i q /\(r.1=.exit 0\/r.1=.ret)
 |0,b,S,x4,x5,x12,x13,hk,hP,hb,hm=>A_
 |k+1,b,S,x4,x5,x12,x13,hk,hP,hb,hm=>by
  unfold kZ;refine fE t90L2.eq_1 ?_;simp(disch:=omega)only[go_sem];refine jD hb hm T.born (O_ _) (fun W=>?_) (fun z N hs=>?_);.simp(disch:=omega)only[go_sem];exact bE ⟨_,_,_,_,.refl _ _,rfl,.inl rfl⟩
  .have h2:=vE N hs;have J:bi≠a.nm y:=bN hb hm B_;have e:=hP.setIt hb (.mit (some (a.nm y)) c (b++[z.1]) c);have E:(S.set bi (.mit (some (a.nm y)) c (b++[z.1]) c))[bi]?=_:=aM (aN hb) _;have D:(S.set bi (.mit (some (a.nm y)) c (b++[z.1]) c))[a.nm y]?=some (.mp (mpR vI l) c):=by rw[aB J];exact hm
   have G:=aAl E D N T.once;have m:bL [bi] S (S.set bi (.mit (some (a.nm y)) c (b++[z.1]) c)):=bL.set _ B_ _;generalize S.set bi (.mit (some (a.nm y)) c (b++[z.1]) c)=S1 at *
   obtain⟨t,Z,w,h0⟩:=wE Y N;obtain⟨lx,cx,h,h4,L⟩:=e.nmap x I;have C:=aDn L w;have g:=aJp e t w;have H:=e.blk;have b2:=e.near;have V:=fS (j:=a.jn) (v:=a.vn) I;have P:=dS (fun r=>TV.map (a.nm r)) I;simp only[dQ]at H;rw[Z]at G;have F:=aUw I hy T Y x6 x7 x8 x9 x10 x14 x15 x16 o i q k (b++[z.1]) S1 (j_ t) (.iv (.bool (p.near x t))) e_ z_ A_ e E D;unfold kZ at F;rw[Z];cases hnx:p.near x t with
   |true =>rw[hnx]at C F;simp(disch:=omega)only[go_sem,G,H,b2,V,P,h,C];refine cQ (Out.all_mono ?_ F);rintro r ⟨u,A,d,f,R,Q,U⟩;exact⟨u,A,d,f,m.trans R,Q,U⟩
   |false =>
    rw[hnx]at C F;cases hhi:hiF p t with
    |true =>rw[hhi]at g;simp(disch:=omega)only[go_sem,G,H,b2,V,P,h,C,g];exact bE ⟨_,_,_,_,m,rfl,.inr rfl⟩
    |false =>rw[hhi]at g;simp(disch:=omega)only[go_sem,G,H,b2,V,P,h,C,g];refine cQ (Out.all_mono ?_ F);rintro r ⟨u,A,d,f,R,Q,U⟩;exact⟨u,A,d,f,m.trans R,Q,U⟩
theorem aJq{a:Ad}{p:Pn}(w:p.n<=1000000000){x y:Nat}(T:x<p.n){bi c:Nat}{l:Td_}(D:gE l c)(N:∀t:Int,cG l t=true↔∃s:Nat,t=s/\s<p.n/\p.near x s=true)(E x4 x5 x8 x9 x10 x11 x12 x13 h g i:TV): ∀(k:Nat) (m:Nat) (b:Tc_) (S:aA) (x7 x15 x16:TV),left l b<k->m+left l b<=4000000000->PT S a p->S[bi]?=some (.mit (some (a.nm x)) c b c)->S[a.nm x]?=some (.mp (mpR vI l) c) ->(lp' (lim K) t90L1 (kZ a x y E x4 x5 (j_ m) x7 x8 x9 x10 x11 x12 x13 (.it bi) x15 x16 h g i) S).All fun r=>∃(v:Nat) (A d e:TV),v<=m+left l b/\bL [bi] S r.2.2 /\r.2.1=kZ a x y E x4 x5 (j_ v) A x8 x9 x10 x11 x12 x13 (.it bi) d e h g i/\r.1=.exit 2
 |0,m,b,S,x7,x15,x16,hk,hmm,hP,hb,hm=>A_
 |k+1,m,b,S,x7,x15,x16,hk,hmm,hP,hb,hm=>by
  unfold kZ;refine fE t90L1.eq_1 ?_;simp(disch:=omega)only[go_sem];refine jD hb hm D.born (O_ _) (fun R=>?_) (fun z G Y=>?_);.simp(disch:=omega)only[go_sem];exact bE ⟨m,_,_,_,by omega,.refl _ _,rfl,rfl⟩
  .have W:=vE G Y;have F:bi≠a.nm x:=bN hb hm B_;have q:=hP.setIt hb (.mit (some (a.nm x)) c (b++[z.1]) c);have o:(S.set bi (.mit (some (a.nm x)) c (b++[z.1]) c))[bi]?=_:=aM (aN hb) _;have j:(S.set bi (.mit (some (a.nm x)) c (b++[z.1]) c))[a.nm x]?=some (.mp (mpR vI l) c):=by rw[aB F];exact hm
   have I:=aAl o j G D.once;have C:bL [bi] S (S.set bi (.mit (some (a.nm x)) c (b++[z.1]) c)):=bL.set _ B_ _;generalize S.set bi (.mit (some (a.nm x)) c (b++[z.1]) c)=S1 at *
   obtain⟨t,U,J,V⟩:=wE N G;have f:=aJp q t J;rw[U]at I;rw[U];cases hhi:hiF p t with
   |true =>rw[hhi]at f;have u:=aJq w (y:=y) T D N E x4 x5 x8 x9 x10 x11 x12 x13 h g i k (m+1) (b++[z.1]) S1 (j_ t) e_ e_ A_ A_ q o j;rw[show((m+1:Nat):Int)=(m:Int)+1 by omega]at u;unfold kZ at u;simp(disch:=omega)only[go_sem,I,f,aC];refine cQ (Out.all_mono ?_ u);rintro r ⟨v,A,d,e,L,P,H,Q⟩;exact⟨v,A,d,e,by omega,C.trans P,H,Q⟩
   |false =>rw[hhi]at f;have u:=aJq w (y:=y) T D N E x4 x5 x8 x9 x10 x11 x12 x13 h g i k m (b++[z.1]) S1 (j_ t) e_ z_ A_ A_ q o j;unfold kZ at u;simp(disch:=omega)only[go_sem,I,f,aC];refine cQ (Out.all_mono ?_ u);rintro r ⟨v,A,d,e,L,P,H,Q⟩;exact⟨v,A,d,e,by omega,C.trans P,H,Q⟩
theorem aCf{a:Ad}{p:Pn}(w:p.n<=1000000000){x y:Nat}(H:x<p.n)(hy:y<p.n){bi c:Nat}{l:Td_}(P:gE l c)(U:∀t:Int,cG l t=true↔∃s:Nat,t=s/\s<p.n/\p.near y s=true)(R x4 x5 x7 x10 x11 x12 x13 x14 x15 x16:TV): ∀(k:Nat) (m:Nat) (b:Tc_) (S:aA) (x8 x9 D G:TV),left l b<k->m+left l b<=4000000000->PT S a p->S[bi]?=some (.mit (some (a.nm y)) c b c)->S[a.nm y]?=some (.mp (mpR vI l) c) ->(lp' (lim K) t90L0 (kZ a x y R x4 x5 (j_ m) x7 x8 x9 x10 x11 x12 x13 x14 x15 x16 (.it bi) D G) S).All fun r=>∃(u:Nat) (F A e d:TV),u<=m+left l b/\bL [bi] S r.2.2 /\r.2.1=kZ a x y R x4 x5 (j_ u) x7 F A x10 x11 x12 x13 x14 x15 x16 (.it bi) e d/\r.1=.exit 4
 |0,m,b,S,x8,x9,D,G,hk,hmm,hP,hb,hm=>A_
 |k+1,m,b,S,x8,x9,D,G,hk,hmm,hP,hb,hm=>by
  unfold kZ;refine fE t90L0.eq_1 ?_;simp(disch:=omega)only[go_sem];refine jD hb hm P.born (O_ _) (fun h0=>?_) (fun z Z hs=>?_);.simp(disch:=omega)only[go_sem];exact bE ⟨m,_,_,_,_,by omega,.refl _ _,rfl,rfl⟩
  .have h4:=vE Z hs;have W:bi≠a.nm y:=bN hb hm B_;have f:=hP.setIt hb (.mit (some (a.nm y)) c (b++[z.1]) c);have i:(S.set bi (.mit (some (a.nm y)) c (b++[z.1]) c))[bi]?=_:=aM (aN hb) _;have h:(S.set bi (.mit (some (a.nm y)) c (b++[z.1]) c))[a.nm y]?=some (.mp (mpR vI l) c):=by rw[aB W];exact hm
   have T:=aAl i h Z P.once;have E:bL [bi] S (S.set bi (.mit (some (a.nm y)) c (b++[z.1]) c)):=bL.set _ B_ _;generalize S.set bi (.mit (some (a.nm y)) c (b++[z.1]) c)=S1 at *
   obtain⟨t,ht,J,h2⟩:=wE U Z;obtain⟨lx,cx,C,h5,Y⟩:=f.nmap x H;have L:=aDn Y J;have g:=aJp f t J;have V:=f.blk;have b2:=f.near;have i1:=fS (j:=a.jn) (v:=a.vn) H;have s1:=dS (fun r=>TV.map (a.nm r)) H;simp only[dQ]at V;rw[ht]at T;rw[ht];cases hnx:p.near x t with
   |true =>rw[hnx]at L;have o:=aCf w H hy P U R x4 x5 x7 x10 x11 x12 x13 x14 x15 x16 k m (b++[z.1]) S1 (j_ t) e_ e_ z_ A_ A_ f i h;unfold kZ at o;simp(disch:=omega)only[go_sem,T,V,b2,i1,s1,C,L];refine cQ (Out.all_mono ?_ o);rintro r ⟨u,F,A,e,d,q,N,I,Q⟩;exact⟨u,F,A,e,d,by omega,E.trans N,I,Q⟩
   |false =>
    rw[hnx]at L;cases hhi:hiF p t with
    |true =>rw[hhi]at g;have o:=aCf w H hy P U R x4 x5 x7 x10 x11 x12 x13 x14 x15 x16 k (m+1) (b++[z.1]) S1 (j_ t) z_ e_ e_ A_ A_ f i h;rw[show((m+1:Nat):Int)=(m:Int)+1 by omega]at o;unfold kZ at o;simp(disch:=omega)only[go_sem,T,V,b2,i1,s1,C,L,g,aC];refine cQ (Out.all_mono ?_ o);rintro r ⟨u,F,A,e,d,q,N,I,Q⟩;exact⟨u,F,A,e,d,by omega,E.trans N,I,Q⟩
    |false =>rw[hhi]at g;have o:=aCf w H hy P U R x4 x5 x7 x10 x11 x12 x13 x14 x15 x16 k m (b++[z.1]) S1 (j_ t) z_ e_ z_ A_ A_ f i h;unfold kZ at o;simp(disch:=omega)only[go_sem,T,V,b2,i1,s1,C,L,g];refine cQ (Out.all_mono ?_ o);rintro r ⟨u,F,A,e,d,q,N,I,Q⟩;exact⟨u,F,A,e,d,by omega,E.trans N,I,Q⟩
theorem mF{S S':aA}{b:aG}(k:bL [S.length] (S++[b]) S'):bL [] S S' :=
 ⟨by have:=k.len;simp at this;omega,fun i x _ a=>k.get i x (by have:=aN a;simp;omega) (by rw[Y_ (aN a)];exact a)⟩
theorem bDi(n:Nat)(f:Tj_):deg n f<=n:=by have:=D8 f (List.range n);simpa[deg] using this
theorem bRa{S:aA}{a:Ad}{p:Pn}(h:PT S a p)(Z:p.n<=1000000){x y:Nat}(s:x<p.n)(D:y<p.n): ((lim K).call 90 [.ptr a.ip 106 0,j_ x,j_ y] S).All fun r=>(∃b,r.1=.iv (.bool b))/\bL [] S r.2:=by
 obtain⟨F,g,m,k,i⟩:=h.nmap y D;obtain⟨N,E,w,C,t⟩:=h.nmap x s;have P:=h.blk;have b2:=h.near;have i1:=fS (j:=a.jn) (v:=a.vn) s;have V:=dS (fun r=>TV.map (a.nm r)) s;have R:=fS (j:=a.jn) (v:=a.vn) D;have T:=dS (fun r=>TV.map (a.nm r)) D;simp only[dQ]at P;refine dJ K _ (fn:=t90) rfl rfl ?_;by_cases h32:x<32
 .have G:=kE m;have z:=bL.app [] S [aG.mit (some (a.nm y)) g [] g];have q:=aUw s D k i u_ u_ u_ u_ e_ u_ u_ u_ u_ u_ u_ (left F []+1) [] (S++[.mit (some (a.nm y)) g [] g]) u_ u_ u_ u_ A_ (h.keep z) (cN _ _) (z.get _ _ B_ m);unfold kZ at q;simp(disch:=omega)only[t90,go_sem,h32,P,b2,R,T,G];refine dN q ?_;rintro j e S' ⟨y4,y5,h6,h7,o,f,d⟩;dsimp only at f d o;subst f;rcases d with rfl|rfl;.simp(disch:=omega)only[go_sem];exact bE ⟨⟨_,rfl⟩,mF o⟩
  .simp(disch:=omega)only[go_sem];exact bE ⟨⟨_,rfl⟩,mF o⟩
 .have W:=kE w;have dx:=sQ C t;have dy:=sQ k i;have U:=bDi p.n (p.near x);have h5:=bDi p.n (p.near y);have ex:left N []<=N.length:=D8 ..;have ey:left F []<=F.length:=D8 ..;have z:=bL.app [] S [aG.mit (some (a.nm x)) E [] E];have q:=aJq A_ (y:=y) s C t z_ u_ u_ u_ u_ z_ u_ u_ u_ u_ u_ u_ (left N []+1) 0 [] (S++[.mit (some (a.nm x)) E [] E]) u_ u_ u_ A_ A_ (h.keep z) (cN _ _) (z.get _ _ B_ w);rw[n0_]at q;unfold kZ at q;simp(disch:=omega)only[t90,go_sem,h32,P,b2,i1,V,W];refine dN q ?_;rintro j e S1 ⟨m1,y7,H,I,h4,o,f,d⟩;dsimp only at f d o;subst f d;have l:=mF o;have L:=h.keep l;have u:=L.blk;have J:=L.near;simp only[dQ]at u;have c:=l.get _ _ B_ m;have G:=kE c;have Q:=bL.app [] S1 [aG.mit (some (a.nm y)) g [] g];have l2:=aCf A_ s D k i z_ u_ u_ y7 z_ u_ u_ u_ (.it S.length) H I (left F []+1) m1 [] (S1++[.mit (some (a.nm y)) g [] g]) u_ u_ u_ u_ A_ A_ (L.keep Q) (cN _ _) (Q.get _ _ B_ c);unfold kZ at l2;simp(disch:=omega)only[go_sem,u,J,R,T,G];refine dN l2 ?_;rintro j e S2 ⟨m2,y8,y9,h2,Y,h0,A,f,d⟩;dsimp only at f d A;subst f d;simp(disch:=omega)only[go_sem];exact bE ⟨⟨_,rfl⟩,l.trans (mF A)⟩
structure KpX (I:List Nat) (S S':aA):Prop where
 len:S.length<=S'.length
 get:∀i b,S[i]?=some b->i∉I->(∀es c,b≠.mp es c)->S'[i]?=some b
theorem KpX.trans{I:Tc_}{S S' S'':aA}(h:KpX I S S')(g:KpX I S' S''):KpX I S S'' :=
 ⟨B9 h.len g.len,fun i x c a b=>g.get i x (h.get i x c a b) a b⟩
theorem KpX.refl(I:Tc_)(S:aA):KpX I S S:=⟨O_ _,fun _ _ h _ _=>h⟩
theorem KpX.mono{I J:Tc_}{S S':aA}(h:KpX I S S')(f:∀i∈I,i∈J):KpX J S S':=⟨h.len,fun i b d a c=>h.get i b d (fun e=>a (f i e)) c⟩
theorem KpX.keep{I J:Tc_}{S S':aA}(k:bL I S S')(g:∀i∈I,i∈J\/∃es c,S[i]?=some (.mp es c)):KpX J S S' :=
 ⟨k.len,fun i b d j f=>k.get i b (fun e=>by
  rcases g i e with h|⟨es,c,a⟩;.exact j h
  .rw[d]at a;exact f es c (D6 a)) d⟩
theorem KpX.toG{a:Ad}{S S':aA}(h:KpX a.own S S'):KpG a S S':=⟨h.len,h.get⟩
theorem KpX.new{I:Tc_}{S S':aA}{b:aG}(k:KpX (S.length::I) (S++[b]) S'):KpX I S S' :=
 ⟨by have:=k.len;simp at this;omega,fun i x a c d=>k.get i x (by rw[Y_ (aN a)];exact a) (by have:=aN a;simp only[J_,H1];exact⟨by omega,c⟩) d⟩
theorem nW{α a:Type}(g:α->a)(f:Nat->α)(i:Nat)(x:α):upd (fun r=>g (f r)) i (g x)=fun r=>g (upd f i x r):=by funext r;unfold upd;split<;>rfl
theorem PT.congr{S:aA}{a:Ad}{p:Pn}(h:PT S a p){f:Ti_}(i:∀r s,r<p.n->s<p.n->p.near r s=f r s):PT S a {p with near:=f} :=
 ⟨h.blk,h.near,h.own,h.to,h.out,fun r g=>by
  obtain⟨l,c,j,k,h3⟩:=h.nmap r g;refine⟨l,c,j,k,fun t=>(h3 t).trans ⟨?_,?_⟩⟩;.rintro⟨s,e,b,d⟩;exact⟨s,e,b,by show f r s=true;rw[<-i r s g b];exact d⟩
  .rintro⟨s,e,b,d⟩;exact⟨s,e,b,by rw[i r s g b];exact d⟩,h.omap,h.ninj,h.oinj,h.dis,h.nd⟩
theorem PT.setTo{S:aA}{a:Ad}{p:Pn}(h:PT S a p)(y x:Nat):PT (S.set a.jt (.cells a.vt true (cF p.n (upd (fun r=>nI (p.to r)) y (nI x))))) a {p with to:=upd p.to y x}:=by
 have g:=h.nd;simp only[C8,J_,D5,I4,H1]at g;obtain⟨⟨v,o,i,u⟩,⟨m,j,t⟩,⟨k,q⟩,d,_⟩:=g;refine⟨?_,?_,?_,?_,?_,fun s e=>?_,fun s e=>?_,h.ninj,h.oinj,h.dis,h.nd⟩;.rw[aB (B0 i)];exact h.blk
 .rw[aB (B0 j)];exact h.near
 .rw[aB (B0 k)];exact h.own
 .rw[aM (aN h.to),nW nI]
 .rw[aB d];exact h.out
 .obtain⟨l,c,b,f,h3⟩:=h.nmap s e;exact⟨l,c,by rw[aB (B0 (bN b h.to B_))];exact b,f,h3⟩
 .obtain⟨l,c,b,f,h3⟩:=h.omap s e;exact⟨l,c,by rw[aB (B0 (bN b h.to B_))];exact b,f,h3⟩
theorem PT.setOut{S:aA}{a:Ad}{p:Pn}(h:PT S a p)(y:Nat)(x:Int):PT (S.set a.ju (.cells 0 false (cF p.n (upd (fun r=>vI (p.out r)) y (vI x))))) a {p with out:=upd p.out y x}:=by
 have g:=h.nd;simp only[C8,J_,D5,I4,H1]at g;obtain⟨⟨u,o,q,k⟩,⟨m,t,j⟩,⟨v,i⟩,d,_⟩:=g;refine⟨?_,?_,?_,?_,?_,fun s e=>?_,fun s e=>?_,h.ninj,h.oinj,h.dis,h.nd⟩;.rw[aB (B0 k)];exact h.blk
 .rw[aB (B0 j)];exact h.near
 .rw[aB (B0 i)];exact h.own
 .rw[aB (B0 d)];exact h.to
 .rw[aM (aN h.out),nW vI]
 .obtain⟨l,c,b,f,h3⟩:=h.nmap s e;exact⟨l,c,by rw[aB (B0 (bN b h.out B_))];exact b,f,h3⟩
 .obtain⟨l,c,b,f,h3⟩:=h.omap s e;exact⟨l,c,by rw[aB (B0 (bN b h.out B_))];exact b,f,h3⟩
theorem PT.newN{S:aA}{a:Ad}{p:Pn}(h:PT S a p)(y:Nat)(E:y<p.n):PT ((S++[aG.mp [] 0]).set a.jn (.cells a.vn true (cF p.n (upd (fun r=>TV.map (a.nm r)) y (.map S.length))))) {a with nm:=upd a.nm y S.length} {p with near:=upd p.near y fun _=>false}:=by
 have d:=h.keep (bL.app [] S [aG.mp [] 0]);have m:=h.nd;simp only[C8,J_,D5,I4,H1]at m;obtain⟨⟨w,x,z,C⟩,⟨o,u,v⟩,⟨D,A⟩,q,_⟩:=m;have i:∀r,r<p.n->a.nm r<S.length:=fun r g=>by obtain⟨l,c,b,_⟩:=h.nmap r g;exact aN b
 have k:∀r,r<p.n->a.om r<S.length:=fun r g=>by obtain⟨l,c,b,_⟩:=h.omap r g;exact aN b
 refine⟨?_,?_,?_,?_,?_,fun s f=>?_,fun s f=>?_,fun r s g f e=>?_,h.oinj,fun r s g f=>?_,h.nd⟩;.rw[aB (B0 w)];exact d.blk
 .rw[aM (aN d.near),nW TV.map]
 .rw[aB o];exact d.own
 .rw[aB u];exact d.to
 .rw[aB v];exact d.out
 .by_cases e:s=y
  .subst e;refine⟨[],0,?_,gE.nil 0,fun t=>?_⟩
   .have:a.jn≠S.length:=by have:=aN h.near;omega
    simp only[bU];rw[aB this];exact cN ..
   .simp[bU,cG,dK]
  .obtain⟨l,c,b,j,h3⟩:=d.nmap s f;simp only[dB _ _ e];exact⟨l,c,by rw[aB (B0 (bN b d.near B_))];exact b,j,h3⟩
 .obtain⟨l,c,b,j,h3⟩:=d.omap s f;exact⟨l,c,by rw[aB (B0 (bN b d.near B_))];exact b,j,h3⟩
 .have b:=i r g;have j:=i s f;simp only[upd]at e;split at e<;>split at e;.rename_i e1 e2;rw[e1,e2]
  .omega
  .omega
  .exact h.ninj r s g f e
 .have b:=k s f;simp only[upd];split;.omega
  .exact h.dis r s g f
def sR(f:Nat->Nat->Bool)(x y:Nat)(D:Nat->Bool)(r s:Nat):Bool :=
 if r=y then f y s else if s=y then(f r y&&!D r)else(f r s||(decide (r=x)&&D s)||(decide (s=x)&&D r))
theorem aXg(f:Ti_)(x y:Nat):sR f x y (fun _=>false)=f:=by
 funext r s;unfold sR;split;.rename_i e;rw[e]
 .split;.rename_i e;rw[e];simp
  .simp
theorem aXh(f:Ti_){x y t:Nat}(D:Tj_)(b:x≠y)(c:t≠x)(a:t≠y)(e:f y t=true)(g:Tj_)(d:∀s,g s=(decide (s≠y)&&sR f x y D t s)):aXf (upd (sR f x y D) t g) x t=sR f x y (upd D t true):=by
 funext r s;rw[aUv _ (B0 c)];unfold upd;by_cases hrt:r=t
 .subst hrt;rw[K_ rfl,d];unfold sR;simp only[a,c,I9,N8,Z5,K6,O9,Z3,false_and,G8,Z7,E7,Bool.and_false];by_cases hs:s=y;.subst hs;simp[B0 b]
  .by_cases hsx:s=x;.subst hsx;simp[hs]
   .simp[hs,hsx]
 .rw[I_ hrt];unfold sR;by_cases hry:r=y;.subst hry;simp[B0 b,B0 a]
  .simp only[hry,I9];by_cases hs:s=y;.subst hs;simp[hrt,B0 a]
   .simp only[hs,I9];by_cases hrx:r=x
    .subst hrx;by_cases hst:s=t;.subst hst;simp
     .simp[hst,hrt]
    .by_cases hst:s=t;.subst hst;simp[hrx,hrt]
     .simp[hrx,hst,hrt]
theorem mE.del{S:aA}{i n:Nat}{f:Tj_}{l:Td_}{c:Nat}(e:S[i]?=some (.mp (mpR vI l) c))(d:gE l c)(h3:∀t:Int,cG l t=true↔∃s:Nat,t=s/\s<n/\f s=true)(k:Nat): mE (S.set i (.mp (mpR vI (wY l k)) c)) i n (fun s=>decide (s≠k)&&f s):=by
 refine⟨_,_,aM (aN e) _,d.del k,fun t=>?_⟩;rw[aPk d.keys,P_,h3 t];constructor
 .rintro⟨h,s,rfl,b,a⟩;refine⟨s,rfl,b,?_⟩;have:s≠k:=by have:=M8 h;omega
  simp[this,a]
 .rintro⟨s,rfl,b,a⟩;simp only[P_,q_]at a;exact⟨by have:=a.1;simp;omega,s,rfl,b,a.2⟩
theorem bDj{a:Ad}{p:Pn}(Q:p.n<=1000000000){x y:Nat}(Y:x<p.n)(hy:y<p.n)(E:x≠y)(F:p.near y x=false)(U:p.near y y=false){bi c:Nat}{l:Td_}(Z:gE l c)(hf:∀t:Int,cG l t=true↔∃s:Nat,t=s/\s<p.n/\p.near y s=true): ∀(k:Nat) (b:Tc_) (D:Tj_) (S:aA) (x3 x5:TV),left l b<k->(∀z∈l,z.1∈b->D z.2.1.toNat=true)->(∀s,D s=true->p.near y s=true)->PT S a {p with near:=sR p.near x y D}->S[bi]?=some (.mit (some (a.nm y)) c b c)->S[a.nm y]?=some (.mp (mpR vI l) c) ->(lp' (lim K) t91L0 [.ptr a.ip 106 0,j_ x,j_ y,x3,.it bi,x5] S).All fun r=>∃y3 y5,KpX [bi] S r.2.2 /\r.2.1=[.ptr a.ip 106 0,j_ x,j_ y,y3,.it bi,y5]/\r.1=.exit 0/\PT r.2.2 a {p with near:=sR p.near x y (p.near y)}
 |0,b,D,S,x3,x5,hk,hD1,hD2,hP,hb,hm=>A_
 |k+1,b,D,S,x3,x5,hk,hD1,hD2,hP,hb,hm=>by
  refine fE t91L0.eq_1 ?_;simp(disch:=omega)only[go_sem];refine jD hb hm Z.born (O_ _) (fun H=>?_) (fun z u C=>?_)
  .simp(disch:=omega)only[go_sem];refine bE ⟨_,_,.refl _ _,rfl,rfl,hP.congr fun r s hr C=>?_⟩;have T:∀t,t<p.n->D t=p.near y t:=by
    intro t P;cases hn:p.near y t with
    |true =>obtain⟨z,u,ha⟩:=A0.1 (oJ.1 ((aDn hf P).trans hn));have:=hD1 z u (H z u);rwa [ha,Int.toNat_natCast]at this
    |false =>
     cases hd:D t with
     |false=>rfl
     |true=>rw[hD2 t hd]at hn;cases hn
   show sR p.near x y D r s=sR p.near x y (p.near y) r s;unfold sR;rw[T r hr,T s C]
  .have g1:=vE u C;have h0:bi≠a.nm y:=bN hb hm B_;have g:=hP.setIt hb (.mit (some (a.nm y)) c (b++[z.1]) c);have m:(S.set bi (.mit (some (a.nm y)) c (b++[z.1]) c))[bi]?=_:=aM (aN hb) _;have N:(S.set bi (.mit (some (a.nm y)) c (b++[z.1]) c))[a.nm y]?=some (.mp (mpR vI l) c):=by rw[aB h0];exact hm
   have he:=aAl m N u Z.once;have hp:KpX [bi] S (S.set bi (.mit (some (a.nm y)) c (b++[z.1]) c)):=KpX.keep (bL.set (I:=[bi]) _ B_ _) B_;generalize S.set bi (.mit (some (a.nm y)) c (b++[z.1]) c)=S1 at *
   obtain⟨t,P,d,f⟩:=wE hf u;have G:t≠x:=fun e=>by rw[e,F]at f;cases f
   have R:t≠y:=fun e=>by rw[e,U]at f;cases f
   obtain⟨lt,ct,o,h6,hq⟩:=g.nmap t d;have h7:=mE.del o h6 hq y;have A:=g.setN d h7;have L:a.nm t≠a.nm y:=fun e=>R (hP.ninj _ _ d hy e);have W:bi≠a.nm t:=bN m o B_;have hu:bL [a.nm t] S1 (S1.set (a.nm t) (.mp (mpR vI (wY lt y)) ct)):=bL.set _ B_ _;have hc:=fun env=>bTo o env (y:Int);obtain⟨S3,h8,hg,q⟩:=bDg A Q (x:=x) (y:=t) Y d (B0 G);have h4:=aXh p.near D E G R f (fun s=>decide (s≠y)&&sR p.near x y D t s) (fun _=>rfl);have hj:PT S3 a {p with near:=sR p.near x y (upd D t true)}:=by have:=hg;simp only[h4]at this;exact this
   have hv:a.nm x≠a.nm y:=fun e=>E (hP.ninj _ _ Y hy e);have hl:S3[bi]?=some (.mit (some (a.nm y)) c (b++[z.1]) c):=q.get _ _ (by obtain⟨lx,cx,h,_⟩:=g.nmap x Y;simp only[J_,D5,I4,H1];exact⟨bN m h B_,W⟩) (by rw[aB (B0 W)];exact m);have h9:S3[a.nm y]?=some (.mp (mpR vI l) c):=q.get _ _ (by simp[B0 hv,B0 L]) (by rw[aB L];exact N);have h5:KpX [bi] S1 S3:=(KpX.keep hu (fun i J=>by simp only[J_,D5,I4]at J;subst J;exact .inr ⟨_,_,o⟩)).trans (KpX.keep q (fun i J=>by
    simp only[J_,D5,I4]at J;right;rcases J with rfl|rfl;.obtain⟨lx,cx,h,_⟩:=A.nmap x Y;exact⟨_,_,h⟩
    .obtain⟨lx,cx,h,_⟩:=A.nmap t d;exact⟨_,_,h⟩))
   have ih:=bDj Q Y hy E F U Z hf k (b++[z.1]) (upd D t true) S3 (j_ t) e_ A_ (fun w hw hh=>by
    unfold upd;split;.rfl
    .rename_i e;rcases a_.1 hh with V|V;.exact hD1 w hw V
     .have:w=z:=aMh Z.once hw u (by simpa using V);rw[this,P,Int.toNat_natCast]at e;exact absurd rfl e) (fun s C=>by
    unfold upd at C;split at C;.rename_i e;rw[e];exact f
    .exact hD2 s C) hj hl h9
   have b1:=g.blk;have b2:=g.near;have i1:=fS (j:=a.jn) (v:=a.vn) d;have s1:=dS (fun r=>TV.map (a.nm r)) d;simp only[dQ]at b1;rw[P]at he;rw[P];simp(disch:=omega)only[go_sem,he,b1,b2,i1,s1,hc,h8];refine cQ (Out.all_mono ?_ ih);rintro r ⟨y3,y5,k1,e1,V,h2⟩;exact⟨y3,y5,hp.trans (h5.trans k1),e1,V,h2⟩
def aAs(f:Nat->Nat->Bool)(x y:Nat):Nat->Nat->Bool:=upd (sR f x y (f y)) y fun _=>false
def nX(p:Pn)(x y:Nat):Pn:={p with to:=upd p.to y x,near:=aAs p.near x y}
theorem bRb{S:aA}{a:Ad}{p:Pn}(h:PT S a p)(t:p.n<=1000000000){x y:Nat}(Z:x<p.n)(g:y<p.n)(A:x≠y)(o:p.near y x=false)(z:p.near y y=false): ((lim K).call 91 [.ptr a.ip 106 0,j_ x,j_ y] S).All fun r=>∃nm,r.1=u_/\KpG a S r.2/\PT r.2 {a with nm:=nm} (nX p x y):=by
 have b:=h.setTo y x;have Q:=h.blk;have b2:=h.to;have U:=fS (j:=a.jt) (v:=a.vt) g;have E:=lC (fun r=>nI (p.to r)) (nI x) g;have k:KpX a.own S (S.set a.jt (.cells a.vt true (cF p.n (upd (fun r=>nI (p.to r)) y (nI x))))):=KpX.keep (bL.set (I:=[a.jt]) _ B_ _) (by simp[Ad.own]);obtain⟨l,c,i,q,m⟩:=b.nmap y g;have b3:=b.blk;have b4:=b.near;have P:=fS (j:=a.jn) (v:=a.vn) g;have W:=dS (fun r=>TV.map (a.nm r)) g;have D:=kE i;refine dJ K _ (fn:=t91) rfl rfl ?_;simp only[dQ]at Q b3;simp only[nI]at E b2 b i b3 b4 D k;generalize hS1:S.set a.jt (.cells a.vt true (cF p.n (upd (fun r=>TV.iv (.int .i64 (p.to r))) y (j_ x))))=S1 at *
 have N:=bL.app [] S1 [aG.mit (some (a.nm y)) c [] c];have s:=b.keep N;have T:=bDj (p:={p with to:=upd p.to y x}) t Z g A o z q m (left l []+1) [] (fun _=>false) (S1++[.mit (some (a.nm y)) c [] c]) u_ u_ A_ B_ B_ (by rw[aXg];exact s) (cN _ _) (N.get _ _ B_ i);simp(disch:=omega)only[t91,go_sem,Q,b2,U,E,hS1,b3,b4,P,W,D];refine dN T ?_;rintro j e S2 ⟨y3,y5,H,L,G,d⟩;dsimp only at L G H d;subst L G;have u:=d.newN y g;have f:=d.keep (bL.app [] S2 [aG.mp [] 0]);have C:=f.blk;have V:=f.near;have F:=d.blk;have R:=d.near;have Y:=lC (fun r=>TV.map (a.nm r)) (.map S2.length) g;simp only[dQ]at C F;simp(disch:=omega)only[go_sem,C,V,F,R,P,Y];refine bE ⟨_,rfl,?_,u⟩;have w:KpX a.own S1 S2:=(KpX.mono (J:=S1.length::a.own) H B_).new;exact((k.trans w).trans ((KpX.keep (bL.app [] S2 [aG.mp [] 0]) B_).trans (KpX.keep (bL.set (I:=[a.jn]) _ B_ _) (by simp[Ad.own])))).toG
def vtx(n r:Nat):Prop:=r<n/\(1<=r/\r<=24\/32<=r)
structure Inv (p:Pn) (ρ d:Nat->Nat):Prop where
 uf:Uf p ρ d
 /-- neighbours are roots,of the graph,unlike,and both ways -/
 sym:∀r s,r<p.n->s<p.n->p.near r s=true->p.near s r=true
 irr:∀r,p.near r r=false
 root:∀r s,r<p.n->s<p.n->p.near r s=true->p.to r=r/\vtx p.n r
 img:∀r s,r<p.n->s<p.n->p.own r s=true->p.near (ρ r) (ρ s)=true
 mach:∀r,r<p.n->r<32->p.to r=r
 low:∀r,r<p.n->vtx p.n r->vtx p.n (ρ r)
theorem aJr(f:Ti_)(x y s:Nat):aAs f x y y s=false:=by simp[aAs,upd]
theorem nY(f:Ti_){x y:Nat}{r:Nat}(s:Nat)(a:r≠y)(b:s≠y):aAs f x y r s=(f r s||(decide (r=x)&&f y s)||(decide (s=x)&&f y r)):=by simp[aAs,upd,a,sR,b]
theorem bDk{f:Ti_}{x y:Nat}{r:Nat}(a:r≠y)(b:f r y=true->f y r=true):aAs f x y r y=false:=by
 simp only[aAs,upd,a,I9,sR,N8];cases h:f r y with
 |false=>rfl
 |true=>simp[b h]
theorem Inv.rt{p:Pn}{ρ d:Th_}(h:Inv p ρ d){r:Nat}(a:r<p.n):ρ r<p.n/\p.to (ρ r)=ρ r:=h.uf.root (d r+1) r A_ a
theorem Inv.nsym{p:Pn}{ρ d:Th_}(h:Inv p ρ d){r s:Nat}(c:r<p.n)(b:s<p.n)(a:p.near r s=false):p.near s r=false:=by
 cases e:p.near s r with
 |false=>rfl
 |true=>rw[h.sym s r b c e]at a;cases a
theorem bDl{p:Pn}{ρ d:Th_}(h:Inv p ρ d){x y:Nat}(z:x<p.n)(k:y<p.n)(g:x≠y)(E:32<=y)(G:p.near x y=false)(l:p.to x=x)(u:p.to y=y)(m:vtx p.n x): Inv (nX p x y) (fun r=>if ρ r=y then x else ρ r) (fun r=>if ρ r=y then d r+d x+1 else d r):=by
 have v:=h.nsym z k G;have w:=h.uf.fix x z l;have A:=h.uf.fix y k u;have o:∀r,r<p.n->r≠y->aAs p.near x y r y=false:=fun r b t=>bDk t (h.sym r y b k);refine⟨⟨fun r b j=>?_,fun r b q=>?_⟩,fun r s b f a=>?_,fun r=>?_,fun r s b f a=>?_,fun r s b f a=>?_,fun r b C=>?_,fun r b F=>?_⟩
 .simp only[nX]at j b |-;by_cases e:r=y;.subst e;simp only[bU,w,A,g,I9,N8];exact⟨z,trivial,by omega⟩
  .simp only[dB _ _ e]at j |-;obtain⟨c,i,h3⟩:=h.uf.up r b j;rw[i];refine⟨c,rfl,?_⟩;split<;>omega
 .simp only[nX]at q b |-;have e:r≠y:=fun e=>by rw[e,bU]at q;exact g q
  rw[dB _ _ e]at q;rw[h.uf.fix r b q,I_ e]
 .simp only[nX]at a b f |-;by_cases e:r=y;.rw[e,aJr]at a;cases a
  by_cases e2:s=y;.rw[e2,o r b e]at a;cases a
  rw[nY _ _ e e2]at a;rw[nY _ _ e2 e];simp only[D3,P_,q_]at a |-;rcases a with(c|⟨c,i⟩)|⟨c,i⟩;.exact .inl (.inl (h.sym r s b f c))
  .exact .inr ⟨c,i⟩
  .exact .inl (.inr ⟨c,i⟩)
 .simp only[nX];by_cases e:r=y;.rw[e,aJr]
  .rw[nY _ _ e e,h.irr r];by_cases e2:r=x;.simp[e2,v]
   .simp[e2]
 .simp only[nX]at a b f |-;by_cases e:r=y;.rw[e,aJr]at a;cases a
  rw[dB _ _ e];by_cases e2:s=y;.rw[e2,o r b e]at a;cases a
  rw[nY _ _ e e2]at a;simp only[D3,P_,q_]at a;rcases a with(c|⟨c,i⟩)|⟨c,i⟩;.exact h.root r s b f c
  .rw[c];exact⟨l,m⟩
  .exact h.root r y b k (h.sym y r k b i)
 .simp only[nX]at a b f |-;have c:=h.img r s b f a;have D:=(h.rt b).1;have H:=(h.rt f).1;by_cases e:ρ r=y
  .rw[K_ e];by_cases e2:ρ s=y;.rw[e,e2,h.irr y]at c;cases c
   .rw[I_ e2,nY _ _ g e2];rw[e]at c;simp[c]
  .rw[I_ e];by_cases e2:ρ s=y;.rw[K_ e2,nY _ _ e g];rw[e2]at c;have:=h.sym _ _ D k c;simp[this]
   .rw[I_ e2,nY _ _ e e2];simp[c]
 .simp only[nX]at b |-;rw[dB _ _ A_];exact h.mach r b C
 .simp only[nX]at b F |-;split;.exact m
  .exact h.low r b F
def pS(p:Pn):Nat:=deg p.n fun r=>decide (p.to r=r)
def Jd(a:Ad)(p:Pn)(S S':aA)(strict:Bool):Prop:=∃nm to near ρ d,KpG a S S'/\PT S' {a with nm:=nm} {p with to:=to,near:=near}/\Inv {p with to:=to,near:=near} ρ d/\pS {p with to:=to,near:=near}<=pS p/\(strict=true->pS {p with to:=to,near:=near}<pS p)
theorem Jd.refl{a:Ad}{p:Pn}{S S':aA}{ρ d:Th_}(h:PT S' a p)(b:Inv p ρ d)(k:bL [] S S'):Jd a p S S' false :=
 ⟨a.nm,p.to,p.near,ρ,d,KpG.of k,h,b,O_ _,fun h=>by cases h⟩
theorem aQj{p:Pn}{x y:Nat}(c:y<p.n)(a:x≠y)(b:p.to y=y):pS (nX p x y)<pS p:=by
 unfold pS deg nX;refine aCy (x:=y) (fun r h=>?_) (C5.2 c) (by simpa using b) (by simp[bU,a]);simp only[q_]at h |-;unfold upd at h;split at h;.rename_i e;rw[e]at h;exact absurd h a
 .exact h
theorem Jd.pre{a:Ad}{p:Pn}{S S1 S':aA}{b:Bool}(h:Jd a p S1 S' b)(k:bL [] S S1):Jd a p S S' b:=by obtain⟨nm,to,near,ρ,d,c,e⟩:=h;exact⟨nm,to,near,ρ,d,(KpG.of k).trans c rfl,e⟩
theorem Jd.step{a:Ad}{p:Pn}{x y:Nat}{nm:Th_}{S S1 S':aA}{b:Bool}(k:KpG a S S1)(c:pS (nX p x y)<pS p)(h:Jd {a with nm:=nm} (nX p x y) S1 S' b)(g:Bool):Jd a p S S' g:=by obtain⟨e,to,near,ρ,d,i,j,h3,f,_⟩:=h;exact⟨e,to,near,ρ,d,k.trans i rfl,j,h3,B9 f (Nat.le_of_lt c),fun _=>Nat.lt_of_le_of_lt f c⟩
def e18(a:Ad)(more x2 x3 x4 x5 x6:TV)(t:Tag)(M:List (Int×Int))(i:Nat)(x10 x11 x12:TV):List TV:=[.ptr a.ip 106 0,more,x2,x3,x4,x5,x6,.iv (.sl t (M.map iM)),.iv (.int .i64 M.length),.iv (.int .i64 i),x10,x11,x12]
def OkM(n:Nat)(M:List (Int×Int)):Prop:=∀m∈M,∃u v:Nat,m.1=u/\m.2=v/\vR n u/\vR n v
where vR (n u:Nat):Prop:=1<=u/\u<n
theorem aUx{x6:TV}(t:Tag)(M:Tb_)(hM:M.length<=1000000):∀(k i:Nat) (a:Ad) (p:Pn) (ρ d:Th_) (S:aA) (more:Bool) (x2 x3 x4 x5 x10 x11 x12:TV),i+k=M.length->p.n<=1000000->OkM p.n M->PT S a p->Inv p ρ d ->(lp' (lim K) t67L0 (e18 a (.iv (.bool more)) x2 x3 x4 x5 x6 t M i x10 x11 x12) S).All fun r=>∃z y2 Y Z y5 E F H,r.1=.exit 2/\r.2.1=e18 a (.iv (.bool z)) y2 Y Z y5 x6 t M M.length E F H/\(more=true->z=true)/\Jd a p S r.2.2 (!more&&z)
 |0,i,a,p,ρ,d,S,more,x2,x3,x4,x5,x10,x11,x12,h,hpn,hok,hP,hI=>by obtain rfl:i=M.length:=A_;unfold e18;refine fE t67L0.eq_1 ?_;simp(disch:=omega)only[go_sem];refine bE ⟨more,_,_,_,_,_,_,_,rfl,rfl,id,?_⟩;rw[Bool.not_and_self];exact .refl hP hI (.refl _ _)
 |k+1,i,a,p,ρ,d,S,more,x2,x3,x4,x5,x10,x11,x12,h,hpn,hok,hP,hI=>by
  have hl:i<M.length:=A_;have b:=gC (w:=2) (f:=iM) (fun _=>rfl) (t:=t) (l:=M) (i:=(i:Int)) A_;rw[Int.toNat_natCast]at b;have hb:M.getD i default∈M:=by simp only[List.getD,D_ hl,Option.getD_some];exact B8 _
  generalize M.getD i default=m at *
  obtain⟨u0,v0,hm,hn,⟨_,h7⟩,⟨_,h6⟩⟩:=hok m hb;have cu:=aQi hP hI.uf u0 h7;have P:=aQi hP hI.uf v0 h6;obtain⟨hg,h9⟩:=hI.rt h7;obtain⟨ha,hc⟩:=hI.rt h6;rw[iM,hm,hn]at b;generalize ρ u0=u at *
  generalize ρ v0=v at *
  have N:=hP.blk;have b2:=hP.near;simp only[dQ]at N;obtain⟨x,y,hr,I,L,hk,hd,G⟩:∃x y,x<=y/\x<p.n/\y<p.n/\p.to x=x/\p.to y=y/\(x=u/\y=v/\u<=v\/x=v/\y=u/\v<u):=by
   by_cases G:v<u;.exact⟨v,u,by omega,ha,hg,hc,h9,.inr ⟨rfl,rfl,G⟩⟩
   .exact⟨u,v,by omega,hg,ha,h9,hc,.inl ⟨rfl,rfl,by omega⟩⟩
  obtain⟨l,c,s,hq,hj⟩:=hP.nmap x I;have J:=aDn hj L;have T:=fS (j:=a.jn) (v:=a.vn) I;have Q:=dS (fun r=>TV.map (a.nm r)) I;have o:=aJo (x:Int);have g:=fun(a':Ad) (p':Pn) (ρ' d':Th_) (S':aA) z x2 x3 x4 x5 x10 x11 x12=>aUx (x6:=x6) t M hM k (i+1) a' p' ρ' d' S' z x2 x3 x4 x5 x10 x11 x12 A_;by_cases hxy:x=y
  .subst hxy;have g:=g a p ρ d S more (.lb [j_ u0,j_ v0]) (j_ x) (j_ x) (.iv (.bool (p.near x x))) e_ z_ e_ hpn hok hP hI;unfold e18 at g |-;rw[show((i+1:Nat):Int)=(i:Int)+1 by omega]at g;refine fE t67L0.eq_1 ?_;rcases G with⟨D,C,h3⟩|⟨D,C,h3⟩;.subst D;subst C;simp(disch:=omega)only[go_sem,b,cu,P,N,b2,T,Q,s,J,aC];exact cQ g
   .omega
  by_cases hy32:y<32
  .have g:=g a p ρ d S more (.lb [j_ u0,j_ v0]) (j_ x) (j_ y) (.iv (.bool (p.near x y))) e_;unfold e18 at g |-;rw[show((i+1:Nat):Int)=(i:Int)+1 by omega]at g;refine fE t67L0.eq_1 ?_;have A:¬(x:Int)=(y:Int):=A_;rcases G with⟨D,C,h3⟩|⟨D,C,h3⟩<;>(subst D;subst C)
   .simp(disch:=omega)only[go_sem,b,cu,P,N,b2,T,Q,s,J,aC,A];exact cQ (g _ _ hpn hok hP hI)
   .simp(disch:=omega)only[go_sem,b,cu,P,N,b2,T,Q,s,J,aC,A];exact cQ (g _ _ hpn hok hP hI)
  have A:¬(x:Int)=(y:Int):=A_;by_cases hx32:x<32/\kG x=false
  .rw[hx32.2]at o;have W:=hx32.1;have g:=g a p ρ d S more (.lb [j_ u0,j_ v0]) (j_ x) (j_ y) (.iv (.bool (p.near x y))) e_;unfold e18 at g |-;rw[show((i+1:Nat):Int)=(i:Int)+1 by omega]at g;refine fE t67L0.eq_1 ?_;rcases G with⟨D,C,h3⟩|⟨D,C,h3⟩<;>(subst D;subst C)
   .simp(disch:=omega)only[go_sem,b,cu,P,N,b2,T,Q,s,J,aC,A,aD o];exact cQ (g _ _ hpn hok hP hI)
   .simp(disch:=omega)only[go_sem,b,cu,P,N,b2,T,Q,s,J,aC,A,aD o];exact cQ (g _ _ hpn hok hP hI)
  have ho:vtx p.n x:=by
   refine⟨I,?_⟩;by_cases h3:x<32
   .left;have:kG x=true:=by
     cases e:kG (x:Int)with
     |true=>rfl
     |false=>exact absurd ⟨h3,e⟩ hx32
    unfold kG at this;simp at this;omega
   .right;omega
  have h5:x<32->kG x=true:=fun h3=>by
   cases e:kG (x:Int)with
   |true=>rfl
   |false=>exact absurd ⟨h3,e⟩ hx32
  cases hnr:p.near x y with
  |true =>
   rw[hnr]at J;have g:=g a p ρ d S more (.lb [j_ u0,j_ v0]) (j_ x) (j_ y) e_ e_;unfold e18 at g |-;rw[show((i+1:Nat):Int)=(i:Int)+1 by omega]at g;refine fE t67L0.eq_1 ?_;by_cases W:x<32
   .rw[h5 W]at o;rcases G with⟨D,C,h3⟩|⟨D,C,h3⟩<;>(subst D;subst C)
    .simp(disch:=omega)only[go_sem,b,cu,P,N,b2,T,Q,s,J,aC,A,aD o];exact cQ (g _ _ hpn hok hP hI)
    .simp(disch:=omega)only[go_sem,b,cu,P,N,b2,T,Q,s,J,aC,A,aD o];exact cQ (g _ _ hpn hok hP hI)
   .rcases G with⟨D,C,h3⟩|⟨D,C,h3⟩<;>(subst D;subst C)
    .simp(disch:=omega)only[go_sem,b,cu,P,N,b2,T,Q,s,J,aC,A,aD o];exact cQ (g _ _ hpn hok hP hI)
    .simp(disch:=omega)only[go_sem,b,cu,P,N,b2,T,Q,s,J,aC,A,aD o];exact cQ (g _ _ hpn hok hP hI)
  |false =>
   rw[hnr]at J;have hi:=bRa hP hpn I L;have hp:=hI.nsym I L hnr;have he:=aQj L hxy hd;have h8:=bDl hI I L hxy A_ hnr hk hd ho;have hf:=fun(S1:aA) (k1:bL [] S S1)=>bRb (hP.keep k1) A_ I L hxy hp (hI.irr y);have h4:=fun S1=>g a p ρ d S1 more (.lb [j_ u0,j_ v0]) (j_ x) (j_ y) z_ e_;have h0:=fun nm S1=>g {a with nm:=nm} (nX p x y) (fun r=>if ρ r=y then x else ρ r) (fun r=>if ρ r=y then d r+d x+1 else d r) S1 true (.lb [j_ u0,j_ v0]) (j_ x) (j_ y) z_ e_;unfold e18 at h4 h0 |-;rw[show((i+1:Nat):Int)=(i:Int)+1 by omega]at h4 h0;refine fE t67L0.eq_1 ?_;by_cases W:x<32
   .rw[h5 W]at o;rcases G with⟨D,C,h3⟩|⟨D,C,h3⟩<;>(subst D;subst C)
    all_goals
     simp(disch:=omega)only[go_sem,b,cu,P,N,b2,T,Q,s,J,aC,A,aD o]
     refine kJ hi ?_
     rintro v S1 ⟨⟨bs,U⟩,q⟩
     dsimp only at U q
     subst U
     cases bs with
     |false =>simp(disch:=omega)only[go_sem,aC];refine cQ (Out.all_mono ?_ (h4 S1 _ _ hpn hok (hP.keep q) hI));rintro r ⟨m',y2,Y,Z,y5,E,F,H,e1,e2,e3,e4⟩;exact⟨m',y2,Y,Z,y5,E,F,H,e1,e2,e3,e4.pre q⟩
     |true =>simp(disch:=omega)only[go_sem,aC];refine kJ (hf S1 q) ?_;rintro v S2 ⟨nm,U,V,R⟩;dsimp only at U V R;subst U;simp(disch:=omega)only[go_sem,aC];refine cQ (Out.all_mono ?_ (h0 nm S2 _ _ hpn hok R h8));rintro r ⟨m',y2,Y,Z,y5,E,F,H,e1,e2,e3,e4⟩;exact⟨m',y2,Y,Z,y5,E,F,H,e1,e2,fun _=>e3 rfl,e4.step ((KpG.of q).trans V rfl) he _⟩
   .rcases G with⟨D,C,h3⟩|⟨D,C,h3⟩<;>(subst D;subst C)
    all_goals
     simp(disch:=omega)only[go_sem,b,cu,P,N,b2,T,Q,s,J,aC,A,aD o]
     refine kJ hi ?_
     rintro v S1 ⟨⟨bs,U⟩,q⟩
     dsimp only at U q
     subst U
     cases bs with
     |false =>simp(disch:=omega)only[go_sem,aC];refine cQ (Out.all_mono ?_ (h4 S1 _ _ hpn hok (hP.keep q) hI));rintro r ⟨m',y2,Y,Z,y5,E,F,H,e1,e2,e3,e4⟩;exact⟨m',y2,Y,Z,y5,E,F,H,e1,e2,e3,e4.pre q⟩
     |true =>simp(disch:=omega)only[go_sem,aC];refine kJ (hf S1 q) ?_;rintro v S2 ⟨nm,U,V,R⟩;dsimp only at U V R;subst U;simp(disch:=omega)only[go_sem,aC];refine cQ (Out.all_mono ?_ (h0 nm S2 _ _ hpn hok R h8));rintro r ⟨m',y2,Y,Z,y5,E,F,H,e1,e2,e3,e4⟩;exact⟨m',y2,Y,Z,y5,E,F,H,e1,e2,fun _=>e3 rfl,e4.step ((KpG.of q).trans V rfl) he _⟩
theorem Jd.trans{a:Ad}{p:Pn}{S S1 S':aA}{nm:Th_}{to:Th_}{near:Ti_}(k:KpG a S S1)(g:pS {p with to:=to,near:=near}<=pS p){b:Bool}(h:Jd {a with nm:=nm} {p with to:=to,near:=near} S1 S' b):Jd a p S S' false:=by obtain⟨f,e,c,ρ,d,i,j,h3,l,_⟩:=h;exact⟨f,e,c,ρ,d,k.trans i rfl,j,h3,B9 l g,fun h=>by cases h⟩
theorem bDm:∀(k:Nat) (a:Ad) (p:Pn) (ρ d:Th_) (S:aA) (x2 g x4 x5 x6 x7 x8 x9 x10 x11 x12:TV),pS p<k->p.n<=1000000->p.M.length<=1000000->OkM p.n p.M->PT S a p->Inv p ρ d ->(lp' (lim K) t67L1 [.ptr a.ip 106 0,e_,x2,g,x4,x5,x6,x7,x8,x9,x10,x11,x12] S).All fun r=>∃w i o q U P y8 R b c f,r.1=.exit 0/\r.2.1=[.ptr a.ip 106 0,z_,w,i,o,q,U,P,y8,R,b,c,f]/\Jd a p S r.2.2 false
 |0,a,p,ρ,d,S,x2,g,x4,x5,x6,x7,x8,x9,x10,x11,x12,hk,hpn,hM,hok,hP,hI=>A_
 |k+1,a,p,ρ,d,S,x2,g,x4,x5,x6,x7,x8,x9,x10,x11,x12,hk,hpn,hM,hok,hP,hI=>by
  have u:=aUx (x6:=e_) p.tM p.M hM p.M.length 0 a p ρ d S false x2 g x4 x5 x10 x11 x12 A_ hpn hok hP hI;have E:=hP.blk;simp only[dQ]at E;unfold e18 at u;rw[n0_]at u;refine fE t67L1.eq_1 ?_;simp(disch:=omega)only[go_sem,E,L_];refine mQ u ?_;rintro j e S1 ⟨m',w,i,o,q,b,c,f,z,e2,e3,A⟩;dsimp only at z e2 A;subst z e2;obtain⟨nm,to,near,C,y,D,s,h3,x,V⟩:=A;cases m' with
  |false =>
   have J:Jd a p S S1 false:=⟨nm,to,near,C,y,D,s,h3,x,fun h=>by cases h⟩
   have b2:=s.blk;simp(disch:=omega)only[go_sem];refine cQ (fE t67L1.eq_1 ?_);simp(disch:=omega)only[go_sem];exact(bE ⟨_,_,_,_,_,_,_,_,_,_,_,rfl,rfl,J⟩)
  |true =>have N:=V rfl;have ih:=bDm k {a with nm:=nm} {p with to:=to,near:=near} C y S1 w i o q e_ (.iv (.sl p.tM (p.M.map iM))) (j_ p.M.length) (j_ p.M.length) b c f A_ hpn hM hok s h3;simp(disch:=omega)only[go_sem];refine cQ (Out.all_mono ?_ ih);rintro r ⟨H,Y,F,G,L,W,z8,Z,v,t,l,Q,I,T⟩;exact⟨H,Y,F,G,L,W,z8,Z,v,t,l,Q,I,T.trans D x⟩
theorem bRc{S:aA}{a:Ad}{p:Pn}{ρ d:Th_}(o:PT S a p)(l:Inv p ρ d)(c:p.n<=1000000)(k:p.M.length<=1000000)(b:OkM p.n p.M): ((lim K).call 67 [.ptr a.ip 106 0] S).All fun r=>r.1=u_/\Jd a p S r.2 false:=by have s:=bDm (pS p+1) a p ρ d S u_ u_ u_ u_ u_ u_ u_ u_ u_ u_ u_ A_ c k b o l;refine dJ K _ (fn:=t67) rfl rfl ?_;simp(disch:=omega)only[t67,go_sem];refine dN s ?_;rintro j e S1 ⟨x,w,t,u,z,v,A,y,i,q,m,g,f,h⟩;dsimp only at g f h;subst g f;simp(disch:=omega)only[go_sem];exact bE ⟨rfl,h⟩
def gSc(w el:Nat)(l:List (List IV))(i:Nat)(S:aA):aA:=if l=[]then S++[.tok 1 w el]else S.set i (.tok (l.length+1) w el)
def aBx(l:List (List IV))(i:Nat):List Nat:=if l=[]then []else [i]
theorem At.nil{w el i:Nat}{S:aA}:At w el [] i S:=fun h=>absurd rfl h
theorem aUy(w el:Nat)(l:M_)(i:Nat)(S:aA):bL (aBx l i) S (gSc w el l i S):=by
 unfold aBx gSc;by_cases h:l=[]
 .rw[K_ h,K_ h];exact bL.app _ _ _
 .rw[I_ h,I_ h];exact bL.set _ B_ _
theorem bPq{w el:Nat}{l:M_}{i:Nat}{S:aA}(h:At w el l i S)(c:Tq_):At w el (l++[c]) (gI l i S) (gSc w el l i S):=by
 intro _;unfold gI gSc;by_cases h0:l=[]
 .rw[K_ h0,K_ h0,h0];simp
 .rw[I_ h0,I_ h0,aM (aN (h h0))];simp
theorem bPr{w el b:Nat}{l:M_}{i:Nat}{S:aA}{t:Tag}{c:Tq_}(h:At w el l i S)(j:c.length=w/\c.all mZ=true)(e:jE w l)(d:eA (l.length+1) b=true): bA false w b el S (acc i l) (.iv (.sl t [c]))=some (acc (gI l i S) (l++[c]),gSc w el l i S):=by
 have f:rO S (.iv (.sl t [c])) [c]:=rO.sl ..;have a:jE w [c]:=by intro y g;simp at g;subst g;exact j
 by_cases h0:l=[]
 .subst h0;rw[mB,aLi C_ f a e B_ d,List.nil_append,aO7];simp[gI,gSc]
 .rw[lO _ h0,aFl f a e (h h0) d,lO _ B_];simp[gI,gSc,h0]
theorem aMi{I J:Tc_}{S S' S'':aA}(h:bL I S S')(g:bL J S' S'')(f:∀j∈J,j∈I\/S.length<=j):bL I S S'' :=
 ⟨B9 h.len g.len,fun i b c d=>g.get i b (fun e=>by
  rcases f i e with a|a;.exact c a
  .have:=aN d;omega) (h.get i b c d)⟩
theorem aUz{S:aA}{w el:Nat}{l:M_}{i:Nat}(h:At w el l i S):∀j∈aBx l i,∃n w e,S[j]?=some (.tok n w e):=by
 intro j a;unfold aBx at a;split at a;.cases a
 .rename_i h0;simp at a;subst a;exact⟨_,_,_,h h0⟩
theorem bLd{S:aA}{l:M_}{i:Nat}{c:Tq_}:∀j∈aBx (l++[c]) (gI l i S),j∈aBx l i\/S.length<=j:=by
 intro j a;unfold aBx at a;rw[I_ B_]at a;simp at a;subst a;unfold gI;split;.exact .inr (O_ _)
 .rename_i h0;left;unfold aBx;rw[I_ h0];simp
theorem PT.keepT{S S':aA}{a:Ad}{p:Pn}{I:Tc_}(h:PT S a p)(k:bL I S S')(q:∀i∈I,∃n w e,S[i]?=some (.tok n w e)):PT S' a p:=by
 have d:∀i b,S[i]?=some b->(∀n w e,b≠aG.tok n w e)->S'[i]?=some b:=fun i b o j=>k.get i b (fun s=>by obtain⟨n,w,e,f⟩:=q i s;rw[o]at f;exact j n w e (D6 f)) o;exact⟨d _ _ h.blk B_,d _ _ h.near B_,d _ _ h.own B_,d _ _ h.to B_,d _ _ h.out B_,
  fun r g=>by obtain⟨l,c,f,m,h3⟩:=h.nmap r g;exact⟨l,c,d _ _ f B_,m,h3⟩,
  fun r g=>by obtain⟨l,c,f,m,h3⟩:=h.omap r g;exact⟨l,c,d _ _ f B_,m,h3⟩,h.ninj,h.oinj,h.dis,h.nd⟩
def cR(l:List Nat):List (List IV):=l.map fun m:Nat=>[.int .i64 (m:Int)]
theorem iT(l:Tc_):(cR l).length=l.length:=by simp[cR]
theorem aDo(l:Tc_)(m:Nat):cR l++[[.int .i64 (m:Int)]]=cR (l++[m]):=by simp[cR]
theorem bDn{l:Tc_}:cR l=[]↔l=[]:=by simp[cR]
theorem aU0(l:Tc_):jE 1 (cR l):=by intro y a;obtain⟨m,_,rfl⟩:=A0.1 a;exact⟨rfl,rfl⟩
def bH(p:Pn)(ρ:Nat->Nat)(r i:Nat):List Nat:=((List.range p.n).drop i).filter fun m=>decide (ρ m=r)
theorem aDp{n i:Nat}(h:i<n):(List.range n).drop i=i::(List.range n).drop (i+1):=by rw[A6 (by simpa using h)];simp
theorem aQk{a:Ad}{p:Pn}{ρ d:Th_}(y:Uf p ρ d)(s:p.n<=1000000)(r:Nat)(x2:TV):∀(k i:Nat) (l:Tc_) (j:Nat) (S:aA) (x5 x6:TV),i+k=p.n->PT S a p->At 1 3 (cR l) j S->l.length<=i ->∃o u w S',lp' (lim K) t68L0 [.ptr a.ip 106 0,j_ r,x2,acc j (cR l),j_ i,x5,x6] S = .ret (.exit 0,[.ptr a.ip 106 0,j_ r,x2,acc o (cR (l++bH p ρ r i)),j_ p.n,u,w],S')/\bL (aBx (cR l) j) S S'
 |0,i,l,j,S,x5,x6,h,hP,hj,hl=>by
  obtain rfl:i=p.n:=A_;have g:=hP.blk;simp only[dQ]at g;have e:bH p ρ r p.n=[]:=by unfold bH;rw[G6 B_];rfl
  refine⟨j,z_,x6,S,aE K _ _ t68L0.eq_1 ?_,.refl _ _⟩;rw[e,A4];simp(disch:=omega)only[go_sem,g]
 |k+1,i,l,j,S,x5,x6,h,hP,hj,hl=>by
  have v:i<p.n:=A_;have g:=hP.blk;simp only[dQ]at g;have f:=aQi hP y i v;have m:=aDp v;by_cases e:ρ i=r
  .have D:=bPr (b:=8) (c:=[.int .i64 (i:Int)]) (t:=.full) hj ⟨rfl,rfl⟩ (aU0 l) (bR (by rw[iT];omega));have C:=aUy 1 3 (cR l) j S;have E:=bPq hj [.int .i64 (i:Int)];have F:∀q∈aBx (cR (l++[i])) (gI (cR l) j S),q∈aBx (cR l) j\/S.length<=q:=by rw[<-aDo];exact bLd
   rw[aDo]at D E;obtain⟨o,u,w,S',x,z⟩:=aQk y s r x2 k (i+1) (l++[i]) _ _ e_ e_ A_ (hP.keepT C (aUz hj)) E (by simp;omega);rw[show((i+1:Nat):Int)=(i:Int)+1 by omega,A9,List.singleton_append]at x;refine⟨o,u,w,S',aE K _ _ t68L0.eq_1 ?_,aMi C z F⟩;have A:bH p ρ r i=i::bH p ρ r (i+1):=by unfold bH;rw[m,E4,K_ (by simpa using e)]
   rw[A];rw[e]at f;simp(disch:=omega)only[go_sem,g,f,D,aC];exact X_ er x
  .obtain⟨o,u,w,S',x,z⟩:=aQk y s r x2 k (i+1) l j S e_ z_ A_ hP hj A_;rw[show((i+1:Nat):Int)=(i:Int)+1 by omega]at x;refine⟨o,u,w,S',aE K _ _ t68L0.eq_1 ?_,z⟩;have A:bH p ρ r i=bH p ρ r (i+1):=by unfold bH;rw[m,E4,I_ (by simpa using e)]
   rw[A];have e':¬((ρ i:Int)=(r:Int)):=A_;simp(disch:=omega)only[go_sem,g,f,e',aC];exact X_ er x
theorem bDo{S:aA}{a:Ad}{p:Pn}{ρ d:Th_}(h:PT S a p)(e:Uf p ρ d)(b:p.n<=1000000)(i:32<=p.n)(r:Nat): ∃j S',(lim K).call 68 [.ptr a.ip 106 0,j_ r] S=.ret (acc j (cR (bH p ρ r 32)),S')/\bL [] S S':=by obtain⟨f,l,k,S',c,g⟩:=aQk e b r k_ (p.n-32) 32 [] 0 S u_ u_ A_ h At.nil B_;rw[show((32:Nat):Int)=32 from rfl,List.nil_append,show acc 0 (cR [])=k_ from rfl]at c;refine⟨f,S',aI K _ (fn:=t68) rfl rfl ?_,g⟩;simp(disch:=omega)only[t68,go_sem];rw[c];simp(disch:=omega)only[go_sem]
end Go.Proofs.YtehlgnfhkidgoaaGreatDoor
