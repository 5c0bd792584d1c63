/- Some texts of the proof, joined. Condition: none. -/
import Derived.Test.YtehlgnfhkidgoaaGreatDoorJb
import Derived.Test.YtehlgnfhkidgoaaGreatDoorJc
import Derived.Test.YtehlgnfhkidgoaaGreatDoorJd
import Derived.Test.YtehlgnfhkidgoaaGreatDoorJe
import Derived.Test.YtehlgnfhkidgoaaGreatDoorJg
set_option linter.unusedSectionVars false
set_option maxRecDepth 100000
set_option maxHeartbeats 64000000
set_option linter.unusedSimpArgs false
set_option linter.unusedVariables false
namespace Go.Proofs.YtehlgnfhkidgoaaGreatDoor
open Go Go.TM
structure Sk where
 s:List Int
 r:Int
 c:List VI
 o:List Int
structure Ax where
 j:Nat
 jm:Nat
 ji:Nat
 jf:Nat
def spB(a:Ax)(f:VF)(out:IV)(k:Sk):aG:=.cells 43 false [.iv (.int .i64 f.fn),.iv (.int .i64 f.regs),.iv (.int .i64 f.sl),.iv (.int .i64 f.nd),.iv (.int .i64 f.pr),.iv (.bool f.rs),.iv (.sl f.ti (f.ins.map aJ)),.iv (.int .i64 f.fn),.iv (.int .i64 k.r),.iv (.int .i64 f.sl),.iv (.int .i64 f.nd),.iv (.int .i64 f.pr),.iv (.bool f.rs),acc a.ji (k.c.map aJ),acc a.jf (aZ k.o),.map a.jm,.iv out]
def SlM(S:aA)(jm:Nat)(σ:List Int):Prop:=∃(l:List (Nat×Int×Int)) (c:Nat),S[jm]?=some (.mp (mpR kC l) c)/\(∀n,dK l n=(bV σ n).map fun i:Nat=>(i:Int))/\l.length=σ.length
structure SpS (S:aA) (a:Ax) (f:VF) (out:IV) (k:Sk):Prop where
 blk:S[a.j]?=some (spB a f out k)
 map:SlM S a.jm k.s
 ti:At 8 28 (k.c.map aJ) a.ji S
 tf:At 1 3 (aZ k.o) a.jf S
 ne:k.c≠[]->k.o≠[]->a.ji≠a.jf
 oc:mZ out=true
structure KN (I:List Nat) (S S':aA):Prop where
 len:S.length<=S'.length
 get:∀q b,q∉I->(∀n w e,b≠.tok n w e)->S[q]?=some b->S'[q]?=some b
theorem KN.refl(I:Tc_)(S:aA):KN I S S:=⟨O_ _,fun _ _ _ _ h=>h⟩
theorem KN.trans{I:Tc_}{S S' S'':aA}(h:KN I S S')(g:KN I S' S''):KN I S S'':=⟨C0 h.len g.len,fun q b a c h3=>g.get q b a c (h.get q b a c h3)⟩
theorem KN.mono{I J:Tc_}{S S':aA}(h:KN I S S')(e:∀q∈I,q∈J):KN J S S':=⟨h.len,fun q b a d h3=>h.get q b (fun c=>a (e q c)) d h3⟩
theorem KN.app(I:Tc_)(S L:aA):KN I S (S++L):=⟨by simp,fun q b _ _ h=>aR h L⟩
theorem KN.set(j:Nat)(S:aA)(b:aG):KN [j] S (S.set j b):=⟨by simp,fun q c h _ a=>by rw[aB (fun e=>h (by simp[e]))];exact a⟩
theorem KN.get1{j:Nat}{S S':aA}(h:KN [j] S S'){q:Nat}{b:aG}(c:q≠j)(d:∀n w e,b≠.tok n w e)(a:S[q]?=some b):S'[q]?=some b:=h.get q b (by simpa using c) d a
theorem KN.grow{w el:Nat}{l:M_}{i:Nat}{S:aA}(I:Tc_)(h:At w el l i S):KN I S (gS1 w el l i S):=⟨by unfold gS1;split<;>simp,fun q b _ c a=>nQ h a c⟩
theorem mT{S:aA}{i q w el:Nat}{n:Nat}{b:aG}(h:S[i]?=some (.tok n w el))(a:S[q]?=some b)(c:∀n w e,b≠.tok n w e):i≠q:=by rintro rfl;rw[h]at a;exact c _ _ _ (D6 a).symm
theorem SlM.keep{S S':aA}{jm j:Nat}{σ:Ta_}(h:SlM S jm σ)(k:KN [j] S S')(b:jm≠j):SlM S' jm σ:=by obtain⟨l,c,a,d⟩:=h;exact⟨l,c,k.get1 b B_ a,d⟩
theorem SpS.jne{S:aA}{a:Ax}{f:VF}{out:IV}{k:Sk}(h:SpS S a f out k):a.jm≠a.j:=by intro e;obtain⟨l,c,b,_⟩:=h.map;have:=h.blk;rw[<-e,b]at this;unfold spB at this;simp at this
def Sk.fresh(k:Sk):Sk:=⟨k.s,k.r+1,k.c,k.o⟩
theorem bD3{S:aA}{a:Ax}{f:VF}{out:IV}{k:Sk}(h:SpS S a f out k)(i:0<=k.r/\k.r<=1000000):(lim K).call 59 [.ptr a.j 43 0] S=.ret (j_ k.r,S.set a.j (spB a f out k.fresh))/\SpS (S.set a.j (spB a f out k.fresh)) a f out k.fresh:=by
 have d:=h.blk;have e:=aN d;have g:=fun b=>aM e b;refine⟨?_,aM e _,h.map.keep (KN.set a.j S _) h.jne,fun c=>?_,fun c=>?_,h.ne,h.oc⟩
 .unfold spB Sk.fresh at *
  refine aI K _ (fn:=t59) rfl rfl ?_;simp(disch:=omega)only[t59,go_sem,d,g,aC,Int.add_sub_cancel]
 .rw[aB (B0 (mT (h.ti c) d (by simp[spB])))];exact h.ti c
 .rw[aB (B0 (mT (h.tf c) d (by simp[spB])))];exact h.tf c
theorem uS(x:VI):(aJ x).length=8/\(aJ x).all mZ=true:=⟨rfl,rfl⟩
theorem aVb(l:List VI):jE 8 (l.map aJ):=fun y a=>by
 obtain⟨x,_,rfl⟩:=A0.1 a
 exact uS x
def Sk.add(k:Sk)(x:VI)(i:Int):Sk:=⟨k.s,k.r,k.c++[x],k.o++[i]⟩
theorem aQm{S:aA}{a:Ax}{f:VF}{out:IV}{k:Sk}(h:SpS S a f out k)(R:k.c.length<=1000000)(T:k.o.length<=1000000)(x:VI)(i:Int): ∃S' H,(lim K).call 60 [.ptr a.j 43 0,.iv (.agg (aJ x)),j_ i] S=.ret (u_,S')/\SpS S' H f out (k.add x i)/\KN [a.j] S S'/\H.j=a.j/\H.jm=a.jm:=by
 have J:=h.blk;have P:(k.c.map aJ).length=k.c.length:=L_ _;have D:=bKs (b:=96) (t:=.full) h.ti (uS x) (aVb _) (bR (by rw[P];omega));have N:=KN.grow [a.j] h.ti;have A:=nQ h.ti J (by simp[spB]);have G:=aI1 h.ti (aJ x);have z:At 1 3 (aZ k.o) a.jf (gS1 8 28 (k.c.map aJ) a.ji S):=fun d=>by
  have C:=h.tf d;unfold gS1;by_cases hc0:k.c.map aJ=[]
  .rw[K_ hc0];exact aR C _
  .rw[I_ hc0,aB (h.ne (fun e=>hc0 (by rw[e];rfl)) (fun e=>d (by rw[e];rfl)))];exact C
 generalize hS1:gS1 8 28 (k.c.map aJ) a.ji S=S1 at *
 generalize hji:gI (k.c.map aJ) a.ji S=ji at *
 have p:=aN A;generalize hB1:(spB ⟨a.j,a.jm,ji,a.jf⟩ f out ⟨k.s,k.r,k.c++[x],k.o⟩)=B1 at *
 have I:∀n w e,B1≠.tok n w e:=by rw[<-hB1];simp[spB]
 have b2:(S1.set a.j B1)[a.j]?=some B1:=aM p _;have g:At 1 3 (aZ k.o) a.jf (S1.set a.j B1):=fun d=>by rw[aB (B0 (mT (z d) A (by simp[spB])))];exact z d
 have v:At 8 28 ((k.c++[x]).map aJ) ji (S1.set a.j B1):=by rw[E1];intro d;have:=G d;rw[aB (B0 (mT this A (by simp[spB])))];exact this
 have y:=bKs (b:=8) (t:=.full) (c:=[.int .i64 i]) g ⟨rfl,rfl⟩ (nB _) (bR (by rw[eK];omega));have b3:=nQ g b2 I;have Q:=KN.grow [a.j] g;have u:=aI1 g [.int .i64 i];rw[bB0]at y u;have l:ji≠gI (aZ k.o) a.jf (S1.set a.j B1):=by
  have m:=v B_;unfold gI;split;.have:=aN m;omega
  .rename_i d;rw[<-hji];unfold gI;split;.rename_i hc0;have C:=aN (h.tf d);omega
   .rename_i hc0;exact h.ne (fun e=>hc0 (by rw[e];rfl)) (fun e=>d (by rw[e];rfl))
 have E:At 8 28 ((k.c++[x]).map aJ) ji (gS1 1 3 (aZ k.o) a.jf (S1.set a.j B1)):=fun d=>by
  have m:=v d;unfold gI at l;unfold gS1;split;.exact aR m _
  .rename_i ho0;rw[I_ ho0]at l;rw[aB (B0 l)];exact m
 generalize hS3:gS1 1 3 (aZ k.o) a.jf (S1.set a.j B1)=S3 at *
 generalize hjf:gI (aZ k.o) a.jf (S1.set a.j B1)=jf at *
 have q:=aN b3;have L:KN [a.j] S (S3.set a.j (spB ⟨a.j,a.jm,ji,jf⟩ f out (k.add x i))):=(N.trans (KN.set a.j S1 B1)).trans (Q.trans (KN.set a.j S3 _));refine⟨S3.set a.j (spB ⟨a.j,a.jm,ji,jf⟩ f out (k.add x i)),⟨a.j,a.jm,ji,jf⟩,?_,⟨aM q _,h.map.keep L h.jne,fun d=>?_,fun d=>?_,fun _ _=>l,h.oc⟩,L,rfl,rfl⟩
 .have F:(k.c++[x]).map aJ=k.c.map aJ++[aJ x]:=by rw[E1];rfl
  unfold spB Sk.add at *
  dsimp only at *
  rw[F]at hB1 |-;subst hB1;rw[cV]at *
  generalize k.c.map aJ=Cs at *
  generalize aZ (k.o++[i])=Os at *
  generalize aZ k.o=O0 at *
  have U:=fun b=>aM p b;refine aI K _ (fn:=t60) rfl rfl ?_;simp(disch:=omega)only[t60,go_sem,J,D,A,b2,y,b3]
 .have:=E d;rw[aB (B0 (mT this b3 I))];exact this
 .have:=u (by simp[aZ,TM.one]);rw[aB (B0 (mT this b3 I))];exact this
theorem SpS.setO{S:aA}{a:Ax}{f:VF}{out:IV}{k:Sk}(h:SpS S a f out k){q:Nat}{b:aG}(m:S[q]?=some b)(i:∀n w e,b≠.tok n w e)(s:q≠a.j)(p:q≠a.jm)(c:aG):SpS (S.set q c) a f out k:=by
 obtain⟨l,d,r,o⟩:=h.map;refine⟨by rw[aB s];exact h.blk,⟨l,d,by rw[aB p];exact r,o⟩,fun g=>?_,fun g=>?_,h.ne,h.oc⟩;.rw[aB (B0 (mT (h.ti g) m i))];exact h.ti g
 .rw[aB (B0 (mT (h.tf g) m i))];exact h.tf g
structure On (S:aA) (n:Nat) (a:Ax) (f:VF) (out:IV) (k:Sk) (i:Int) (ld:Int->Option Int) (st ad:Int):Prop where
 sp:SpS S a f out k
 bs:S[n]?=some (.cells 40 false [.ptr a.j 43 0])
 bf:S[n+1]?=some (.cells 4 false [.iv (.int .i64 i)])
 lm:∃(l:List (Nat×Int×Int)) (c:Nat),S[n+2]?=some (.mp (mpR kC l) c)/\∀m,dK l m=ld m
 bl:S[n+3]?=some (.cells 41 false [.map (n+2)])
 bt:S[n+4]?=some (.cells 4 false [.iv (.int .i64 st)])
 ba:S[n+5]?=some (.cells 80 false [.iv (.int .i64 ad)])
 lt:a.j<n/\a.jm<n
theorem On.keep{S S':aA}{n:Nat}{a d:Ax}{f:VF}{out:IV}{k k':Sk}{i:Int}{e:Int->Option Int}{st g:Int}(h:On S n a f out k i e st g)(b:KN [a.j] S S')(p:SpS S' d f out k')(m:d.j=a.j)(o:d.jm=a.jm):On S' n d f out k' i e st g:=by have r:=h.lt;obtain⟨l,c,h3,q⟩:=h.lm;exact⟨p,by rw[m];exact b.get1 A_ B_ h.bs,b.get1 A_ B_ h.bf,⟨l,c,b.get1 A_ B_ h3,q⟩,b.get1 A_ B_ h.bl,b.get1 A_ B_ h.bt,b.get1 A_ B_ h.ba,by rw[m,o];exact r⟩
theorem xM{l:Td_}{c:Nat}{m:Int}(h:dK l m=none):lkB (.leaf .int) (.agg [.int .i64 0]) true (some (.mp (mpR kC l) c)) (j_ m)=some (.tup [.iv (.agg [.int .i64 0]),z_]):=by rw[aAj,h];rfl
theorem uT{l:Td_}{c:Nat}{m v:Int}(h:dK l m=some v):lkB (.leaf .int) (.agg [.int .i64 0]) true (some (.mp (mpR kC l) c)) (j_ m)=some (.tup [.iv (.agg [.int .i64 v]),e_]):=by rw[aAj,h];rfl
section
variable {S:aA}{n:Nat}{a:Ax}{f:VF}{out:IV}{k:Sk}{i:Int}{ld:Int->Option Int}{st ad:Int}(h:On S n a f out k i ld st ad)
include h
theorem aDt{m:Int}(e:bV k.s m=none):(lim K).call 58 [j_ m,.ptr n 40 0,.ptr (n+3) 41 0,.ptr (n+1) 4 0] S=.ret (j_ m,S):=by have b:=h.bs;have a:=h.sp.blk;obtain⟨l,c,h3,d,_⟩:=h.sp.map;have f:=xM (c:=c) (l:=l) (m:=m) (by rw[d,e];rfl);unfold spB at a;refine aI K _ (fn:=t58) rfl rfl ?_;simp(disch:=omega)only[t58,go_sem,b,a,h3,f]
theorem bLp{m:Int}{q:Nat}{r:Int}(i:bV k.s m=some q)(b:ld m=some r):(lim K).call 58 [j_ m,.ptr n 40 0,.ptr (n+3) 41 0,.ptr (n+1) 4 0] S=.ret (j_ r,S):=by have e:=h.bs;have a:=h.sp.blk;have d:=h.bl;obtain⟨l,c,h3,f,_⟩:=h.sp.map;obtain⟨l',c',g,o⟩:=h.lm;have j:=uT (c:=c) (l:=l) (m:=m) (v:=(q:Int)) (by rw[f,i];rfl);have e2:=uT (c:=c') (l:=l') (m:=m) (v:=r) (by rw[o,b]);unfold spB at a;refine aI K _ (fn:=t58) rfl rfl ?_;simp(disch:=omega)only[t58,go_sem,e,a,h3,j,d,g,e2]
theorem aVc{m:Int}{q:Nat}(hm:bV k.s m=some q)(hr:ld m=none)(hk:0<=k.r/\k.r<=1000000)(W:k.c.length<=1000000)(ho:k.o.length<=1000000): ∃S' y,(lim K).call 58 [j_ m,.ptr n 40 0,.ptr (n+3) 41 0,.ptr (n+1) 4 0] S=.ret (j_ k.r,S')/\On S' n y f out (k.fresh.add (ldI k.r q) i) i (fun x=>if m=x then some k.r else ld x) st ad/\KN [a.j,n+2] S S'/\y.j=a.j/\y.jm=a.jm:=by
 have hl:=h.lt;have C:=h.bs;have z:=h.sp.blk;have Z:=h.bl;have h8:=h.bf;obtain⟨l,c,h3,h4,_⟩:=h.sp.map;obtain⟨l',c',R,N⟩:=h.lm;have e1:=uT (c:=c) (l:=l) (m:=m) (v:=(q:Int)) (by rw[h4,hm];rfl);have e2:=xM (c:=c') (l:=l') (m:=m) (by rw[N,hr]);obtain⟨D,T⟩:=bD3 h.sp hk;have F:KN [a.j] S (S.set a.j (spB a f out k.fresh)):=KN.set a.j S _;generalize hS1:S.set a.j (spB a f out k.fresh)=S1 at *
 have u:=h.keep F T rfl rfl;have Q:=u.bs;have L:=u.bl;have A:=F.get1 (q:=n+2) A_ B_ R;have V:=u.bf;have s2:=T.setO A B_ A_ A_ (.mp (mpR kC (gV l' c' m k.r)) (rP l' c' m));have E:=aN A;have d:=fun(q:Nat) (I:q≠n+2)=>aB (S:=S1) (B0 I) (.mp (mpR kC (gV l' c' m k.r)) (rP l' c' m));have U:=(d n A_).trans Q;have f3:=(d (n+3) A_).trans L;have J:=(d (n+1) A_).trans V;have f5:=(d (n+4) A_).trans u.bt;have f6:=(d (n+5) A_).trans u.ba;have f2:=aM E (.mp (mpR kC (gV l' c' m k.r)) (rP l' c' m));generalize hS2:S1.set (n+2) (.mp (mpR kC (gV l' c' m k.r)) (rP l' c' m))=S2 at *
 obtain⟨S3,y,p,s3,P,H,t⟩:=aQm s2 W ho (ldI k.r q) i;have kk:KN [a.j,n+2] S S3:=by
  refine((F.mono B_).trans ⟨?_,fun q b I hb G=>?_⟩).trans (P.mono B_);.rw[<-hS2];simp
  .rw[<-hS2,aB (fun e=>I (by simp[<-e]))];exact G
 have g:∀(q:Nat) (b:aG),q≠a.j->(∀n w e,b≠.tok n w e)->S2[q]?=some b->S3[q]?=some b:=fun q b C z h3=>P.get1 C z h3;refine⟨S3,y,?_,⟨s3,by rw[H];exact g _ _ A_ B_ U,g _ _ A_ B_ J,⟨_,_,g _ _ A_ B_ f2,fun x=>?_⟩,g _ _ A_ B_ f3,g _ _ A_ B_ f5,g _ _ A_ B_ f6,by rw[H,t];exact hl⟩,kk,H,t⟩
 .unfold spB at z;rw[show aJ (ldI k.r q)=[.int .i64 73,.int .i64 k.r,.int .i64 0,.int .i64 0,.int .i64 q,.int .i64 0,.sl .nil [],.sl .nil []] from rfl]at p;have Y:∀env:Env,upB (.leaf .int) env S1 (n+2) (some (.mp (mpR kC l') c')) (j_ m) (.iv (.agg [.int .i64 k.r]))=some (TM.undef,env,S2):=fun env=>by rw[aCx,hS2]
  refine aI K _ (fn:=t58) rfl rfl ?_;simp(disch:=omega)only[t58,go_sem,C,z,h3,e1,Z,R,e2,D,Q,A,L,Y,U,J,p]
 .rw[qI,N]
theorem bD4{m:Int}(e:bV k.s m=none):(lim K).call 61 [j_ m,.ptr n 40 0,.ptr (n+4) 4 0,.ptr (n+5) 80 0] S=.ret (j_ m,S):=by have b:=h.bs;have a:=h.sp.blk;obtain⟨l,c,h3,d,_⟩:=h.sp.map;have f:=xM (c:=c) (l:=l) (m:=m) (by rw[d,e];rfl);unfold spB at a;refine aI K _ (fn:=t61) rfl rfl ?_;simp(disch:=omega)only[t61,go_sem,b,a,h3,f]
theorem bLq{m:Int}{q:Nat}(J:bV k.s m=some q)(N:0<=k.r/\k.r<=1000000): ∃S',(lim K).call 61 [j_ m,.ptr n 40 0,.ptr (n+4) 4 0,.ptr (n+5) 80 0] S=.ret (j_ k.r,S')/\On S' n a f out k.fresh i ld k.r q/\KN [a.j,n+4,n+5] S S':=by
 have Q:=h.lt;have w:=h.bs;have g:=h.sp.blk;obtain⟨l,c,h3,I,_⟩:=h.sp.map;have L:=uT (c:=c) (l:=l) (m:=m) (v:=(q:Int)) (by rw[I,J];rfl);obtain⟨y,D⟩:=bD3 h.sp N;have G:KN [a.j] S (S.set a.j (spB a f out k.fresh)):=KN.set a.j S _;generalize hS1:S.set a.j (spB a f out k.fresh)=S1 at *
 have d:=h.keep G D rfl rfl;have C:=d.bs;have t:=d.bt;have u:=d.ba;have R:=D.setO t B_ A_ A_ (.cells 4 false [j_ k.r]);have e:=(aB (S:=S1) (show n+4≠n+5 by omega) (.cells 4 false [j_ k.r])).trans u;have H:=R.setO e B_ A_ A_ (.cells 80 false [j_ (q:Int)]);have o:∀x b,x≠n+4->x≠n+5->S1[x]?=some b->((S1.set (n+4) (.cells 4 false [j_ k.r])).set (n+5) (.cells 80 false [j_ (q:Int)]))[x]?=some b:=fun x b w g h3=>by rw[aB (B0 g),aB (B0 w)];exact h3
 have A:((S1.set (n+4) (.cells 4 false [j_ k.r])).set (n+5) (.cells 80 false [j_ (q:Int)]))[n+4]?=some (.cells 4 false [j_ k.r]):=by rw[aB A_,aM (aN t)]
 have P:((S1.set (n+4) (.cells 4 false [j_ k.r])).set (n+5) (.cells 80 false [j_ (q:Int)]))[n+5]?=some (.cells 80 false [j_ (q:Int)]):=aM (by have:=aN u;simpa using this) _;obtain⟨l',c',F,E⟩:=d.lm;refine⟨_,?_,⟨H,o _ _ A_ A_ C,o _ _ A_ A_ d.bf,⟨l',c',o _ _ A_ A_ F,E⟩,o _ _ A_ A_ d.bl,A,P,Q⟩,⟨by rw[<-hS1];simp,fun x b p T z=>?_⟩⟩;.unfold spB at g;refine aI K _ (fn:=t61) rfl rfl ?_;simp(disch:=omega)only[t61,go_sem,w,g,h3,L,y,C,t,u,e,A]
 .simp only[J_,D5,I4,H2]at p;rw[aB (B0 p.2.2),aB (B0 p.2.1),<-hS1,aB (B0 p.1)];exact z
end
theorem aVd{t:Tag}{C:Ta_}(y:C.length<=9000000)(m:Int)(S:aA)(x2:TV):∀(k i:Nat) (d x6 x7:TV),i+k=C.length->(∀x∈C.take i,x≠m) ->∃(b:aW) (j p u s r:TV),lp' (lim K) t74L0 [.iv (.sl t (TM.one (.int .i64) C)),j_ m,x2,d,j_ C.length,j_ i,x6,x7] S = .ret (b,[.iv (.sl t (TM.one (.int .i64) C)),j_ m,j,p,j_ C.length,u,s,r],S) /\(b=.exit 0/\m∉C\/b=.ret/\m∈C/\∃q:Nat,j=j_ q)
 |0,i,d,x6,x7,hk,hq=>by obtain rfl:i=C.length:=A_;rw[B9]at hq;refine⟨.exit 0,x2,d,j_ C.length,z_,x7,aE K _ _ t74L0.eq_1 ?_,.inl ⟨rfl,fun h=>hq m h rfl⟩⟩;simp(disch:=omega)only[go_sem]
 |k+1,i,d,x6,x7,hk,hq=>by
  have c:i<C.length:=A_;have n:=pI (f:=IV.int .i64) (t:=t) (l:=C) (i:=(i:Int)) A_;rw[Int.toNat_natCast]at n;have o:=iR c;by_cases hd:m=C.getD i 0;.refine⟨.ret,j_ i,j_ i,j_ i,e_,e_,aE K _ _ t74L0.eq_1 ?_,.inr ⟨rfl,by rw[hd];exact nU c,i,rfl⟩⟩;have a:m=C.getD i default:=hd;simp(disch:=omega)only[go_sem,n,<-a]
  .obtain⟨b,j,p,u,s,r,v,w⟩:=aVd (t:=t) y m S x2 k (i+1) (j_ i) e_ z_ A_ (fun x g=>by
    rw[o,a_,U_]at g;rcases g with g|rfl;.exact hq x g
    .exact fun e=>hd e.symm)
   rw[show((i+1:Nat):Int)=(i:Int)+1 by omega]at v;refine⟨b,j,p,u,s,r,aE K _ _ t74L0.eq_1 ?_,w⟩;have a:¬m=C.getD i default:=hd;simp(disch:=omega)only[go_sem,n,a,aC];exact X_ er v
theorem aQn(t:Tag)(C:Ta_)(d:C.length<=9000000)(m:Int):TM.Pure K 45 [.iv (.sl t (TM.one (.int .i64) C)),j_ m] (.iv (.bool (decide (m∈C)))):=by
 obtain⟨e,i,f,h,g,j,c,b⟩:=aVd (t:=t) d m [] (j_ 0) C.length 0 u_ u_ u_ A_ B_;rw[n0_]at c;rcases b with⟨rfl,b⟩|⟨rfl,b,q,rfl⟩
 .rw[l_ b];have a:TM.Pure K 74 [.iv (.sl t (TM.one (.int .i64) C)),j_ m] (j_ (-1)):=by refine aT t74 rfl rfl ?_;simp(disch:=omega)only[t74,go_sem];rw[c];simp(disch:=omega)only[go_sem]
  refine aT t45 rfl rfl ?_;simp(disch:=omega)only[t45,go_sem,aD a]
 .rw[V_ b];have a:TM.Pure K 74 [.iv (.sl t (TM.one (.int .i64) C)),j_ m] (j_ q):=by refine aT t74 rfl rfl ?_;simp(disch:=omega)only[t74,go_sem];rw[c];simp(disch:=omega)only[go_sem]
  refine aT t45 rfl rfl ?_;simp(disch:=omega)only[t45,go_sem,aD a]
def nZ(fu:Nat)(cu:List TV)(us:List Int)(a ra:Int)(S S':aA):Prop:=if a∈us then(lim K).call fu (.iv (.int .i64 a)::cu) S=.ret (.iv (.int .i64 ra),S')else ra=low a/\S'=S
theorem bUg{fu:Nat}{cu:Tn_}(g:cu.all kM=false)(e:cu.any cA=false){us:Ta_}(f:us.length<=9000000){tt:Tag}{q l:Int}{S S':aA}(h:nZ fu cu us q l S S')(k:List TM.Fr)(x0 x2 x4 x6 x7 x8 x9 x10 x11 x12 x13 x14 x15 x16 c d c0 i o j m p n:TV): go' K (lim K) (.block 2 (.seq (.region [⟨.mov (.loc 5),none,none⟩,⟨.fieldAddr 2 (.loc 3),none,none⟩,⟨.load1 (.reg 1),none,none⟩,⟨.call true false 45 [(.reg 0),(.reg 2)],none,none⟩,⟨.mov (.reg 3),(some 13),none⟩]) (.cond (.loc 13) (.region [⟨.mov (.loc 1),none,none⟩,⟨.fieldAddr 2 (.loc 3),none,none⟩,⟨.load1 (.reg 1),none,none⟩,⟨.callv (.reg 0) [(.reg 2)],none,none⟩,⟨.fieldAddr 2 (.loc 3),none,none⟩,⟨.store 1 (.reg 4) (.reg 3),none,none⟩]) (.seq (.region [⟨.fieldAddr 2 (.loc 3),none,none⟩,⟨.load1 (.reg 0),none,none⟩,⟨.call true false 23 [(.reg 1)],none,none⟩,⟨.mov (.reg 2),(some 14),none⟩]) (.cond (.loc 14) (.region [⟨.fieldAddr 2 (.loc 3),none,none⟩,⟨.store 1 (.reg 0) (.cst (.int .i64 0)),none,none⟩]) .skip))))) k [x0,.fn fu [] cu,x2,.lb [c0,i,j_ q,o,j,m,p,n],x4,.iv (.sl tt (TM.one (.int .i64) us)),x6,x7,x8,x9,x10,x11,x12,x13,x14,x15,x16,c,d] S=bk' K (lim K) k .normal [x0,.fn fu [] cu,x2,.lb [c0,i,j_ l,o,j,m,p,n],x4,.iv (.sl tt (TM.one (.int .i64) us)),x6,x7,x8,x9,x10,x11,x12,.iv (.bool (decide (q∈us))),(if q∈us then x14 else .iv (.bool (decide (32<=q)))),x15,x16,c,d] S':=by
 have a:=aQn tt us f q;have b:=zG q;unfold nZ at h;by_cases hm:q∈us;.rw[K_ hm]at h |-;rw[V_ hm]at a |-;simp(disch:=omega)only[go_sem,aD a,g,e,h]
 .rw[I_ hm]at h |-;obtain⟨rfl,rfl⟩:=h;rw[l_ hm]at a |-;unfold low;by_cases h32:32<=q;.rw[V_ h32]at b |-;rw[K_ h32];simp(disch:=omega)only[go_sem,aD a,aD b]
  .rw[l_ h32]at b |-;rw[I_ h32];simp(disch:=omega)only[go_sem,aD a,aD b]
theorem bUh{fu:Nat}{cu:Tn_}(g:cu.all kM=false)(e:cu.any cA=false){us:Ta_}(f:us.length<=9000000){tt:Tag}{q m:Int}{S S':aA}(h:nZ fu cu us q m S S')(l:List TM.Fr)(x0 x2 x4 x6 x7 x8 x9 x10 x11 x12 x13 x14 x15 x16 c d c0 i j k n p o:TV): go' K (lim K) (.block 3 (.seq (.region [⟨.mov (.loc 5),none,none⟩,⟨.fieldAddr 3 (.loc 3),none,none⟩,⟨.load1 (.reg 1),none,none⟩,⟨.call true false 45 [(.reg 0),(.reg 2)],none,none⟩,⟨.mov (.reg 3),(some 15),none⟩]) (.cond (.loc 15) (.region [⟨.mov (.loc 1),none,none⟩,⟨.fieldAddr 3 (.loc 3),none,none⟩,⟨.load1 (.reg 1),none,none⟩,⟨.callv (.reg 0) [(.reg 2)],none,none⟩,⟨.fieldAddr 3 (.loc 3),none,none⟩,⟨.store 1 (.reg 4) (.reg 3),none,none⟩]) (.seq (.region [⟨.fieldAddr 3 (.loc 3),none,none⟩,⟨.load1 (.reg 0),none,none⟩,⟨.call true false 23 [(.reg 1)],none,none⟩,⟨.mov (.reg 2),(some 16),none⟩]) (.cond (.loc 16) (.region [⟨.fieldAddr 3 (.loc 3),none,none⟩,⟨.store 1 (.reg 0) (.cst (.int .i64 0)),none,none⟩]) .skip))))) l [x0,.fn fu [] cu,x2,.lb [c0,i,j,j_ q,k,n,p,o],x4,.iv (.sl tt (TM.one (.int .i64) us)),x6,x7,x8,x9,x10,x11,x12,x13,x14,x15,x16,c,d] S=bk' K (lim K) l .normal [x0,.fn fu [] cu,x2,.lb [c0,i,j,j_ m,k,n,p,o],x4,.iv (.sl tt (TM.one (.int .i64) us)),x6,x7,x8,x9,x10,x11,x12,x13,x14,.iv (.bool (decide (q∈us))),(if q∈us then x16 else .iv (.bool (decide (32<=q)))),c,d] S':=by
 have a:=aQn tt us f q;have b:=zG q;unfold nZ at h;by_cases hm:q∈us;.rw[K_ hm]at h |-;rw[V_ hm]at a |-;simp(disch:=omega)only[go_sem,aD a,g,e,h]
 .rw[I_ hm]at h |-;obtain⟨rfl,rfl⟩:=h;rw[l_ hm]at a |-;unfold low;by_cases h32:32<=q;.rw[V_ h32]at b |-;rw[K_ h32];simp(disch:=omega)only[go_sem,aD a,aD b]
  .rw[l_ h32]at b |-;rw[I_ h32];simp(disch:=omega)only[go_sem,aD a,aD b]
theorem bUi{fu:Nat}{cu:Tn_}(g:cu.all kM=false)(e:cu.any cA=false){us:Ta_}(f:us.length<=9000000){tt:Tag}{q m:Int}{S S':aA}(h:nZ fu cu us q m S S')(l:List TM.Fr)(x0 k x4 x5 x7 x8 x9 x10 x11 x12 x13 x14 x15 x16 d c c0 i p j n r o:TV): go' K (lim K) (.block 4 (.seq (.region [⟨.mov (.loc 6),none,none⟩,⟨.fieldAddr 1 (.loc 3),none,none⟩,⟨.load1 (.reg 1),none,none⟩,⟨.call true false 45 [(.reg 0),(.reg 2)],none,none⟩,⟨.mov (.reg 3),(some 17),none⟩]) (.cond (.loc 17) (.region [⟨.mov (.loc 2),none,none⟩,⟨.fieldAddr 1 (.loc 3),none,none⟩,⟨.load1 (.reg 1),none,none⟩,⟨.callv (.reg 0) [(.reg 2)],none,none⟩,⟨.fieldAddr 1 (.loc 3),none,none⟩,⟨.store 1 (.reg 4) (.reg 3),none,none⟩]) (.seq (.region [⟨.fieldAddr 1 (.loc 3),none,none⟩,⟨.load1 (.reg 0),none,none⟩,⟨.call true false 23 [(.reg 1)],none,none⟩,⟨.mov (.reg 2),(some 18),none⟩]) (.cond (.loc 18) (.region [⟨.fieldAddr 1 (.loc 3),none,none⟩,⟨.store 1 (.reg 0) (.cst (.int .i64 0)),none,none⟩]) .skip))))) l [x0,k,.fn fu [] cu,.lb [c0,j_ q,i,p,j,n,r,o],x4,x5,.iv (.sl tt (TM.one (.int .i64) us)),x7,x8,x9,x10,x11,x12,x13,x14,x15,x16,d,c] S=bk' K (lim K) l .normal [x0,k,.fn fu [] cu,.lb [c0,j_ m,i,p,j,n,r,o],x4,x5,.iv (.sl tt (TM.one (.int .i64) us)),x7,x8,x9,x10,x11,x12,x13,x14,x15,x16,.iv (.bool (decide (q∈us))),(if q∈us then c else .iv (.bool (decide (32<=q))))] S':=by
 have a:=aQn tt us f q;have b:=zG q;unfold nZ at h;by_cases hm:q∈us;.rw[K_ hm]at h |-;rw[V_ hm]at a |-;simp(disch:=omega)only[go_sem,aD a,g,e,h]
 .rw[I_ hm]at h |-;obtain⟨rfl,rfl⟩:=h;rw[l_ hm]at a |-;unfold low;by_cases h32:32<=q;.rw[V_ h32]at b |-;rw[K_ h32];simp(disch:=omega)only[go_sem,aD a,aD b]
  .rw[l_ h32]at b |-;rw[I_ h32];simp(disch:=omega)only[go_sem,aD a,aD b]
theorem bLr(t:Tag)(l:Ta_)(a:cB t l)(b:l.length<=1000000)(S:aA): (l=[]/\(lim K).call 44 [.iv (.sl t (TM.one (.int .i64) l))] S=.ret (.iv (.sl (zC t l) []),S)) \/(l≠[]/\(lim K).call 44 [.iv (.sl t (TM.one (.int .i64) l))] S=.ret (.msl S.length 0 0 l.length l.length 1,S++[.cells 0 true (l.map vI)])):=by
 rcases aP2 t l a b S with⟨rfl,_⟩|h
 .refine .inl ⟨rfl,?_⟩;rw[qK];unfold zC;rw[K_ rfl];refine aI K S (fn:=t44) rfl rfl ?_;cases t with
  |nil=>simp(disch:=omega)only[t44,go_sem,aTy]
  |full =>rw[I_ C_];simp(disch:=omega)only[t44,go_sem,aTz,aIw]
  |no =>rw[I_ C_];simp(disch:=omega)only[t44,go_sem,aT0,aIw]
 .exact .inr h
theorem map_take{g:Int->Int}{us:Ta_}{i:Nat}(h:i<us.length):((us.take i).map g++us.drop i).set i (g (us.getD i 0))=(us.take (i+1)).map g++us.drop (i+1):=by
 have a:((us.take i).map g).length=i:=by simp;omega
 rw[E3 _ _ A_,a,M8,sO h,List.set_cons_zero,iR h,E1,List.map_singleton,A9];rfl
theorem bD5{g:Int->Int}{us:Ta_}{i:Nat}(h:i<us.length):((us.take i).map g++us.drop i).getD i 0=us.getD i 0:=by
 have a:((us.take i).map g).length=i:=by simp;omega
 simp only[List.getD,r_ (show((us.take i).map g).length<=i by omega),a,M8,G6,Nat.add_zero]
theorem bD6{fu:Nat}{cu:Tn_}(h:cu.all kM=false)(e:cu.any cA=false){us:Ta_}(s:us.length<=1000000){g:Int->Int}{q:Nat}{S:aA}(D:q<S.length)(E:∀(B:aG) (u:Int),u∈us->(lim K).call fu (j_ u::cu) (S.set q B)=.ret (j_ (g u),S.set q B)) (x0 x2 x4 x5 x6 x13 x14 x15 x16 b d c0 n o y p w x:TV):∀(k i:Nat) (x7 x8 x12:TV),i+k=us.length ->∃r t c,lp' (lim K) t17L0 [x0,.fn fu [] cu,x2,.lb [c0,n,o,y,p,w,.msl q 0 0 us.length us.length 1,x],x4,x5,x6,x7,x8,.msl q 0 0 us.length us.length 1,j_ us.length,j_ i,x12,x13,x14,x15,x16,b,d] (S.set q (.cells 0 true (((us.take i).map g++us.drop i).map vI))) = .ret (.exit 0,[x0,.fn fu [] cu,x2,.lb [c0,n,o,y,p,w,.msl q 0 0 us.length us.length 1,x],x4,x5,x6,r,t,.msl q 0 0 us.length us.length 1,j_ us.length,j_ us.length,c,x13,x14,x15,x16,b,d],S.set q (.cells 0 true ((us.map g).map vI)))
 |0,i,x7,x8,x12,hk=>by obtain rfl:i=us.length:=A_;rw[B9,E0,A4];refine⟨x7,x8,z_,aE K _ _ t17L0.eq_1 ?_⟩;simp(disch:=omega)only[go_sem]
 |k+1,i,x7,x8,x12,hk=>by
  have a:i<us.length:=A_;have f:((us.take i).map g++us.drop i).length=us.length:=by simp;omega
  have F:=iO (j:=q) (v:=0) (cap:=us.length) a;have m:=oY (C:=(us.take i).map g++us.drop i) (J:=[]) (i:=i) A_;have l:=aIp (C:=(us.take i).map g++us.drop i) (J:=[]) (i:=i) (g (us.getD i 0)) A_;rw[bD5 a]at m;rw[map_take a]at l;simp only[A4]at m l;have I:=E (.cells 0 true (((us.take i).map g++us.drop i).map vI)) (us.getD i 0) (nU a);have G:=aM D (.cells 0 true (((us.take i).map g++us.drop i).map vI));have H:∀B,(S.set q (.cells 0 true (((us.take i).map g++us.drop i).map vI))).set q B=S.set q B:=fun B=>G9 ..;have z:i+1<=(((us.take i).map g++us.drop i).map vI).length:=by rw[L_,f];omega
  obtain⟨r,t,c,A⟩:=bD6 h e s D E x0 x2 x4 x5 x6 x13 x14 x15 x16 b d c0 n o y p w x k (i+1) (j_ i) (j_ (us.getD i 0)) e_ A_;rw[show((i+1:Nat):Int)=(i:Int)+1 by omega]at A;simp only[vI]at l m;refine⟨r,t,c,aE K _ _ t17L0.eq_1 ?_⟩;generalize hS1:S.set q (.cells 0 true (((us.take i).map g++us.drop i).map vI))=S1 at *
  simp(disch:=omega)only[go_sem,F,G,m,h,e,I,aC,z,l,H];exact X_ er A
def cpS(S:aA)(us:List Int):aA:=if us=[]then S else S++[.cells 0 true (us.map vI)]
def frS(S:aA)(q:Nat)(us:List Int):aA:=if us=[]then S else S.set q (.frz 0 (us.map (IV.int .i64)))
theorem bLs{S:aA}{q:Nat}{l:Ta_}(h:S[q]?=some (.cells 0 true (l.map vI)))(a b a2 a3 a4 a5 a7:IV)(c:l≠[]): zN (.agg [.iv a,.iv b,.iv a2,.iv a3,.iv a4,.iv a5,.msl q 0 0 l.length l.length 1,.iv a7]) S=some (.iv (.agg [a,b,a2,a3,a4,a5,.sl .no (TM.one (.int .i64) l),a7]),frS S q l):=by
 have d:=aC6 (J:=[]) (by rw[A4];exact h) l.length;have e2:toIVs (l.map vI)=some (l.map (IV.int .i64)):=by
  have:l.map vI=(l.map (IV.int .i64)).map .iv:=by rw[M3];rfl
  rw[this,fM]
 unfold frS;rw[I_ c];simp only[zN,wI,xP,aDw,d,Option.map_some,cJ,cJ.freezeC,lY,h,e2]
theorem bD7(x:VI)(Q:x.us.length<=999990)(H:cB x.tu x.us){fu fd:Nat}{cu cd:Tn_}(k:cu.all kM=false)(j:cu.any cA=false)(y:cd.all kM=false)(z:cd.any cA=false){g:Int->Int}{S S2 S3 S4:aA}{ra rb rd:Int} (W:∀(B:aG) (u:Int),u∈x.us->(lim K).call fu (j_ u::cu) (S++[B])=.ret (j_ (g u),S++[B])) (U:nZ fu cu (bF x) x.a ra (cpS S (x.us.map g)) S2) (T:nZ fu cu (bF x) x.b rb S2 S3) (P:nZ fd cd (aY x) x.d rd S3 S4) (V:x.us≠[]->S4[S.length]?=some (.cells 0 true ((x.us.map g).map vI))): ∃v,(lim K).call 17 [.iv (.agg (aJ x)),.fn fu [] cu,.fn fd [] cd] S=.ret (v,S4)/\zN v S4=some (.iv (.agg (aJ {x with a:=ra,b:=rb,d:=rd,us:=x.us.map g,tu:=zC x.tu x.us})),frS S4 S.length (x.us.map g)):=by
 obtain⟨t5,_,e⟩:=bCh x Q H;obtain⟨t6,_,i⟩:=aP6 x;have p:(bF x).length<=9000000:=by
  have:∀l,l.length<=999992->(tdy l).length<=9000000:=fun l h=>by have:=uJ l;omega
  unfold bF;repeat' split
  .exact this _ B_
  .exact this _ B_
  .exact this _ (by simp;omega)
  .simp
 have G:(aY x).length<=9000000:=by have:=zA x;omega
 have s:=fun t=>bUg k j p (tt:=t) U;have N:=fun t=>bUh k j p (tt:=t) T;have J:=fun t=>bUi y z G (tt:=t) P;obtain⟨op,d,a,b,m,lb,tu,us,tm,mp⟩:=x;dsimp only at *
 rw[cV]at e i |-;dsimp only at *
 rcases bLr tu us H A_ S with⟨rfl,f⟩|⟨F,f⟩;.have C:cpS S (([]:Ta_).map g)=S:=rfl;rw[C]at s;rw[qK]at e i f |-;refine⟨.iv (.agg [.int .i64 op,.int .i64 rd,.int .i64 ra,.int .i64 rb,.int .i64 m,.int .i64 lb,.sl (zC tu []) [],.sl tm (TM.one (.int .i64) mp)]),aI K _ (fn:=t17) rfl rfl ?_,rfl⟩;have L0:∀(y1 y2 y5 y6 D E r y13 y14 y15 y16 y17 y18:TV) c,lp' (lim K) t17L0 [y1,.fn fu [] cu,y2,.lb c,.lb [j_ 0,j_ 0,j_ 0,j_ 0,j_ 0,j_ 0,k_,k_],y5,y6,D,E,.iv (.sl (zC tu []) []),j_ 0,j_ 0,r,y13,y14,y15,y16,y17,y18] S=.ret (.exit 0,[y1,.fn fu [] cu,y2,.lb c,.lb [j_ 0,j_ 0,j_ 0,j_ 0,j_ 0,j_ 0,k_,k_],y5,y6,D,E,.iv (.sl (zC tu []) []),j_ 0,j_ 0,z_,y13,y14,y15,y16,y17,y18],S):=fun _ _ _ _ _ _ _ _ _ _ _ _ _ _=>aE K _ _ t17L0.eq_1 (by simp(disch:=omega)only[go_sem]);simp(disch:=omega)only[t17,go_sem,aD e,aD i,f,n0_,L0,s,N,J]
 .have o:us.map g≠[]:=by simpa using F
  have C:cpS S (us.map g)=S++[.cells 0 true ((us.map g).map vI)]:=by unfold cpS;rw[I_ o]
  rw[C]at s;have A:=V F;have st:∀B:aG,(S++[aG.cells 0 true (us.map vI)]).set S.length B=S++[B]:=fun B=>B_;have w:(us.map g).length=us.length:=L_ _;have I:=bLs A (.int .i64 op) (.int .i64 rd) (.int .i64 ra) (.int .i64 rb) (.int .i64 m) (.int .i64 lb) (.sl tm (TM.one (.int .i64) mp)) o;rw[w]at I;have n:zC tu us=.no:=by unfold zC;rw[I_ F]
  rw[n];refine⟨_,aI K _ (fn:=t17) rfl rfl ?_,I⟩;have L:=fun(y1 y2 y5 y6 y13 y14 y15 y16 y17 y18 k0 k1 k2 k3 k4 k5 k7:TV)=>bD6 k j (us:=us) (g:=g) (q:=S.length) (S:=S++[.cells 0 true (us.map vI)]) A_ B_ (fun B u R=>by rw[st];exact W B u R) y1 y2 (.lb [j_ 0,j_ 0,j_ 0,j_ 0,j_ 0,j_ 0,k_,k_]) y5 y6 y13 y14 y15 y16 y17 y18 k0 k1 k2 k3 k4 k5 k7 us.length 0 u_ u_ u_ A_;obtain⟨D,E,r,L⟩:=L (.iv (.agg [.int .i64 op,.int .i64 d,.int .i64 a,.int .i64 b,.int .i64 m,.int .i64 lb,.sl tu (TM.one (.int .i64) us),.sl tm (TM.one (.int .i64) mp)])) (.fn fd [] cd) (.iv (.sl t5 (TM.one (.int .i64) (bF ⟨op,d,a,b,m,lb,tu,us,tm,mp⟩)))) (.iv (.sl t6 (TM.one (.int .i64) (aY ⟨op,d,a,b,m,lb,tu,us,tm,mp⟩)))) u_ u_ u_ u_ u_ u_ (j_ op) (j_ d) (j_ a) (j_ b) (j_ m) (j_ lb) (.iv (.sl tm (TM.one (.int .i64) mp)));rw[List.take_zero,C3,List.nil_append,C4,st,st,n0_]at L;simp(disch:=omega)only[t17,go_sem,aD e,aD i,f,L,s,N,J]
theorem KN.old{I:Tc_}{j:Nat}{S S':aA}(h:KN I S S')(g:∀q∈I,q=j\/S.length<=q):KN [j] S S':=⟨h.len,fun q b d f a=>h.get q b (fun c=>by
 rcases g q c with e|e
 .exact d (by simp[e])
 .have:=aN a;omega) f a⟩
theorem SpS.app{S:aA}{a:Ax}{f:VF}{out:IV}{k:Sk}(h:SpS S a f out k)(L:aA):SpS (S++L) a f out k:=by obtain⟨l,c,e,d⟩:=h.map;exact⟨aR h.blk L,⟨l,c,aR e L,d⟩,fun b=>aR (h.ti b) L,fun b=>aR (h.tf b) L,h.ne,h.oc⟩
theorem On.app{S:aA}{n:Nat}{a:Ax}{f:VF}{out:IV}{k:Sk}{i:Int}{b:Int->Option Int}{st d:Int}(h:On S n a f out k i b st d)(L:aA):On (S++L) n a f out k i b st d:=by obtain⟨l,c,g,e⟩:=h.lm;exact⟨h.sp.app L,aR h.bs L,aR h.bf L,⟨l,c,aR g L,e⟩,aR h.bl L,aR h.bt L,aR h.ba L,h.lt⟩
theorem On.row{S:aA}{n:Nat}{a:Ax}{f:VF}{out:IV}{k:Sk}{i:Int}{p:Int->Option Int}{st r:Int}(h:On S n a f out k i p st r){q:Nat}{b:Bool}{cs:Tn_}(m:S[q]?=some (.cells 0 b cs))(c:aG):On (S.set q c) n a f out k i p st r:=by
 obtain⟨l,d,u,s⟩:=h.lm;obtain⟨l',v,t,_⟩:=h.sp.map;have o:∀ {x:Nat} {b:aG},S[x]?=some b->(∀b' cs',b≠.cells 0 b' cs')->q≠x:=fun g j e=>by rw[e,g]at m;exact j _ _ (D6 m)
 have go:∀ {x:Nat} {b:aG},S[x]?=some b->(∀b' cs',b≠.cells 0 b' cs')->(S.set q c)[x]?=some b:=fun g j=>by rw[aB (o g j)];exact g
 exact⟨h.sp.setO m B_ (o h.sp.blk (by simp[spB])) (o t B_) c,go h.bs B_,go h.bf B_,⟨l,d,go u B_,s⟩,go h.bl B_,go h.bt B_,go h.ba B_,h.lt⟩
def Sk.grow(k:Sk)(r:Int)(L:List VI)(i:Int):Sk:=⟨k.s,r,k.c++L,k.o++List.replicate L.length i⟩
theorem aMo(k:Sk)(i:Int):k.grow k.r [] i=k:=by simp[Sk.grow]
theorem bD8(k:Sk)(y:VI)(i:Int):k.fresh.add y i=k.grow (k.r+1) [y] i:=rfl
theorem nZ.yes{fu:Nat}{cu:Tn_}{us:Ta_}{a ra:Int}{S S':aA}(b:a∈us)(h:(lim K).call fu (j_ a::cu) S=.ret (j_ ra,S')):nZ fu cu us a ra S S':=by unfold nZ;rw[K_ b];exact h
theorem nZ.no{fu:Nat}{cu:Tn_}{us:Ta_}{a:Int}{S:aA}(b:a∉us):nZ fu cu us a (low a) S S:=by unfold nZ;rw[I_ b];exact⟨rfl,rfl⟩
def aMp(n:Nat):List TV:=[.ptr n 40 0,.ptr (n+3) 41 0,.ptr (n+1) 4 0]
def bLt(n:Nat):List TV:=[.ptr n 40 0,.ptr (n+4) 4 0,.ptr (n+5) 80 0]
section
variable {S:aA}{n:Nat}{a:Ax}{f:VF}{out:IV}{k:Sk}{i st ad:Int}{x:VI}
theorem bV6(h:On S n a f out k i (fun _=>none) st ad)(t:0<=k.r/\k.r<=1000000)(u:k.c.length<=1000000)(v:k.o.length<=1000000): ∃S' d,nZ 58 (aMp n) (bF x) x.a (opA k.s k.r x).2.1 S S'/\On S' n d f out (k.grow (opA k.s k.r x).2.2 (opA k.s k.r x).1 i) i (fun m=>if m=x.a/\(opA k.s k.r x).1≠[]then some (opA k.s k.r x).2.1 else none) st ad/\KN [a.j,n+2] S S'/\d.j=a.j/\d.jm=a.jm:=by
 unfold opA;by_cases hm:x.a∈bF x
 .rw[K_ hm];unfold qN;cases hs:bV k.s x.a with
  |none =>refine⟨S,a,.yes hm (aDt h hs),?_,KN.refl _ _,rfl,rfl⟩;simp only[ne_eq,C9,and_false,↓reduceIte,aMo];exact h
  |some q =>
   obtain⟨S',d,g,b,l,p,e2⟩:=aVc h hs rfl t u v;refine⟨S',d,.yes hm g,?_,l,p,e2⟩;rw[bD8]at b;have:(fun m=>if x.a=m then some k.r else(none:Option Int))=fun m=>if m=x.a/\[ldI k.r q]≠[]then some k.r else none:=by
    funext m;by_cases e:x.a=m;.rw[K_ e,K_ ⟨e.symm,by simp⟩]
    .rw[I_ e,I_ (fun h=>e h.1.symm)]
   rw[this]at b;exact b
 .rw[I_ hm];refine⟨S,a,.no hm,?_,KN.refl _ _,rfl,rfl⟩;simp only[ne_eq,C9,and_false,↓reduceIte,aMo];exact h
theorem bV7(h:On S n a f out (k.grow (opA k.s k.r x).2.2 (opA k.s k.r x).1 i) i (fun m=>if m=x.a/\(opA k.s k.r x).1≠[]then some (opA k.s k.r x).2.1 else none) st ad)(I:0<=k.r/\k.r<=100000)(G:k.c.length<=100000)(H:k.o.length<=100000): ∃S' g u,nZ 58 (aMp n) (bF x) x.b (opB k.s k.r x).2.1 S S'/\On S' n g f out (k.grow (opB k.s k.r x).2.2 ((opA k.s k.r x).1++(opB k.s k.r x).1) i) i u st ad/\KN [a.j,n+2] S S'/\g.j=a.j/\g.jm=a.jm:=by
 have C:=xC k.s k.r x;have E:(opA k.s k.r x).1.length<=1:=by rcases C.2 with h|⟨_,_,_,h,_⟩<;>rw[h]<;>simp
 have d:∀t,([]:List VI)=(opB k.s k.r x).1->(opB k.s k.r x).2.2=(opA k.s k.r x).2.2->(opB k.s k.r x).2.1=t->nZ 58 (aMp n) (bF x) x.b t S S->∃S' g u,nZ 58 (aMp n) (bF x) x.b (opB k.s k.r x).2.1 S S'/\On S' n g f out (k.grow (opB k.s k.r x).2.2 ((opA k.s k.r x).1++(opB k.s k.r x).1) i) i u st ad/\KN [a.j,n+2] S S'/\g.j=a.j/\g.jm=a.jm:=fun t z e2 e3 l=>by refine⟨S,a,fun m=>if m=x.a/\(opA k.s k.r x).1≠[]then some (opA k.s k.r x).2.1 else none,by rw[e3];exact l,?_,KN.refl _ _,rfl,rfl⟩;rw[e2,<-z,A4];exact h
 by_cases hm:x.b∈bF x
 .cases hs:bV k.s x.b with
  |none =>
   have l:nZ 58 (aMp n) (bF x) x.b x.b S S:=.yes hm (aDt h hs);by_cases e:x.b=x.a
   .refine d x.b ?_ ?_ ?_ l;.unfold opB;rw[K_ hm,K_ e]
    .unfold opB;rw[K_ hm,K_ e]
    .unfold opB opA qN;rw[K_ hm,K_ e];dsimp only;rw[K_ (by rw[<-e];exact hm),<-e,hs]
   .refine d x.b ?_ ?_ ?_ l;.unfold opB qN;rw[K_ hm,I_ e,hs]
    .unfold opB qN;rw[K_ hm,I_ e,hs]
    .unfold opB qN;rw[K_ hm,I_ e,hs]
  |some q =>
   by_cases e:x.b=x.a
   .have v:x.a∈bF x:=by rw[<-e];exact hm
    have F:(opA k.s k.r x).1≠[]:=by unfold opA qN;rw[K_ v,<-e,hs];simp
    refine d (opA k.s k.r x).2.1 ?_ ?_ ?_ ?_;.unfold opB;rw[K_ hm,K_ e]
    .unfold opB;rw[K_ hm,K_ e]
    .unfold opB;rw[K_ hm,K_ e]
    .exact .yes hm (bLp h hs (by rw[K_ ⟨e,F⟩]))
   .have w:0<=(k.grow (opA k.s k.r x).2.2 (opA k.s k.r x).1 i).r/\(k.grow (opA k.s k.r x).2.2 (opA k.s k.r x).1 i).r<=1000000:=by show 0<=(opA k.s k.r x).2.2/\(opA k.s k.r x).2.2<=_;rw[C.1];omega
    obtain⟨S',g,p,y,A,z,e2⟩:=aVc h hs (by rw[I_ (fun h=>e h.1)]) w (by show(k.c++(opA k.s k.r x).1).length<=_;rw[H_];omega) (by show(k.o++List.replicate (opA k.s k.r x).1.length i).length<=_;rw[H_,F9];omega);refine⟨S',g,fun m=>if x.b=m then some (opA k.s k.r x).2.2 else if m=x.a/\(opA k.s k.r x).1≠[]then some (opA k.s k.r x).2.1 else none,?_,?_,A,z,e2⟩;.unfold opB qN;rw[K_ hm,I_ e,hs];exact .yes hm p
    .have D:opB k.s k.r x=([ldI (opA k.s k.r x).2.2 q],(opA k.s k.r x).2.2,(opA k.s k.r x).2.2+1):=by unfold opB qN;rw[K_ hm,I_ e,hs]
     rw[D];dsimp only;have:(k.grow (opA k.s k.r x).2.2 (opA k.s k.r x).1 i).fresh.add (ldI (opA k.s k.r x).2.2 q) i=k.grow ((opA k.s k.r x).2.2+1) ((opA k.s k.r x).1++[ldI (opA k.s k.r x).2.2 q]) i:=by unfold Sk.grow Sk.fresh Sk.add;rw[H_,List.length_singleton,<-N1,A9,A9];rfl
     rw[<-this];exact y
 .refine d (low x.b) ?_ ?_ ?_ ?_;.unfold opB;rw[I_ hm]
  .unfold opB;rw[I_ hm]
  .unfold opB;rw[I_ hm]
  .exact .no hm
theorem bV8{m:Int->Option Int}(h:On S n a f out (k.grow (opB k.s k.r x).2.2 (bZ k.s k.r x) i) i m (-1) ad)(p:0<=k.r/\k.r<=100000): ∃S' b,nZ 61 (bLt n) (aY x) x.d (opD k.s k.r x).1 S S'/\(∃c,On S' n a f out (k.grow (eL k.s k.r x) (bZ k.s k.r x) i) i m b c/\((b = -1/\fH k.s k.r x=[])\/(0<=b/\∃q:Nat,c=q/\fH k.s k.r x=[stI b q])))/\KN [a.j,n+4,n+5] S S':=by
 have o:=jV k.s k.r x;unfold eL fH opD;by_cases hm:x.d∈aY x
 .rw[K_ hm];cases hs:bV k.s x.d with
  |none=>exact⟨S,-1,.yes hm (bD4 h hs),⟨ad,h,.inl ⟨rfl,rfl⟩⟩,KN.refl _ _⟩
  |some q =>obtain⟨S',g,l,e⟩:=bLq h hs (by show 0<=(opB k.s k.r x).2.2/\(opB k.s k.r x).2.2<=_;omega);exact⟨S',_,.yes hm g,⟨_,l,.inr ⟨by show 0<=(opB k.s k.r x).2.2;omega,q,rfl,rfl⟩⟩,e⟩
 .rw[I_ hm];exact⟨S,-1,.no hm,⟨ad,h,.inl ⟨rfl,rfl⟩⟩,KN.refl _ _⟩
end
theorem bPs(n:Nat):(aMp n).all kM=false/\(aMp n).any cA=false:=⟨rfl,rfl⟩
theorem bPt(n:Nat):(bLt n).all kM=false/\(bLt n).any cA=false:=⟨rfl,rfl⟩
theorem bLu(S:aA)(us:Ta_):∃L,cpS S us=S++L:=by
 unfold cpS;split;.exact⟨[],(A4 S).symm⟩
 .exact⟨_,rfl⟩
theorem bRs{S:aA}{a:Ax}{f:VF}{out:IV}{k:Sk}(h:SpS S a f out k)(hk:0<=k.r/\k.r<=90000)(hc:k.c.length<=90000)(ho:k.o.length<=90000)(x:VI)(hu:x.us.length<=999990)(ht:cB x.tu x.us)(hf:∀u∈x.us,bV k.s u=none)(i:Int): ∃S' a',(lim K).call 33 [.ptr a.j 43 0,.iv (.agg (aJ x)),j_ i] S=.ret (u_,S')/\SpS S' a' f out (k.grow (eL k.s k.r x) (dM k.s k.r x) i)/\KN [a.j] S S'/\a'.j=a.j/\a'.jm=a.jm:=by
 have hh:=aN h.blk;have hi:a.jm<S.length:=by obtain⟨l,c,m,_⟩:=h.map;exact aN m
 obtain⟨n,hn⟩:∃n,S.length=n:=⟨_,rfl⟩
 obtain⟨S1,z⟩:∃T,S++[aG.cells 40 false [.ptr a.j 43 0]]=T:=⟨_,rfl⟩
 obtain⟨S2,D⟩:∃T,S1++[aG.cells 4 false [j_ i]]=T:=⟨_,rfl⟩
 obtain⟨S3,C⟩:∃T,S2++[aG.mp [] 0]=T:=⟨_,rfl⟩
 obtain⟨S4,y⟩:∃T,S3++[aG.cells 41 false [.map (n+2)]]=T:=⟨_,rfl⟩
 obtain⟨S5,w⟩:∃T,S4++[aG.cells 4 false [j_ (-1)]]=T:=⟨_,rfl⟩
 obtain⟨S6,A⟩:∃T,S5++[aG.cells 80 false [j_ 0]]=T:=⟨_,rfl⟩
 have l1:S1.length=n+1:=by rw[<-z,<-hn];simp
 have l2:S2.length=n+2:=by rw[<-D];simp[l1]
 have Y:S3.length=n+3:=by rw[<-C];simp[l2]
 have Z:S4.length=n+4:=by rw[<-y];simp[Y]
 have l5:S5.length=n+5:=by rw[<-w];simp[Z]
 have l6:S6.length=n+6:=by rw[<-A];simp[l5]
 have e6:S6=S++aG.cells 40 false [.ptr a.j 43 0]::aG.cells 4 false [j_ i]::aG.mp [] 0::aG.cells 41 false [.map (n+2)]::aG.cells 4 false [j_ (-1)]::aG.cells 80 false [j_ 0]::[]:=by rw[<-A,<-w,<-y,<-C,<-D,<-z];simp
 have Q:On S6 n a f out k i (fun _=>none) (-1) 0:=by
  refine⟨by rw[e6];exact h.app _,?_,?_,⟨[],0,?_,fun _=>rfl⟩,?_,?_,?_,by omega⟩;all_goals rw[e6,<-hn]
  .exact gN0 ..
  .exact gN1 ..
  .exact gN2 ..
  .exact gN3 ..
  .exact gN4 ..
  .exact gN5 ..
 have H:x.us.map (fun u=>u)=x.us:=List.map_id' _;obtain⟨L,hL⟩:=bLu S6 (x.us.map fun u=>u);obtain⟨T2,a2,rA,o2,k2,j2,m2⟩:=bV6 (x:=x) (by rw[hL];exact Q.app L:On (cpS S6 (x.us.map fun u=>u)) n a f out k i (fun _=>none) (-1) 0) A_ A_ A_;obtain⟨T3,a3,ld,rB,o3,k3,j3,m3⟩:=bV7 (x:=x) o2 A_ A_ A_;obtain⟨T4,st,rD,⟨ad,o4,hb⟩,k4⟩:=bV8 (x:=x) o3 A_;rw[j2]at k3 j3;rw[j3]at k4;rw[m2]at m3;have kT:KN [a.j,n+2,n+4,n+5] (cpS S6 (x.us.map fun u=>u)) T4:=(k2.mono B_).trans ((k3.mono B_).trans (k4.mono B_));have hq:x.us≠[]->T4[S6.length]?=some (.cells 0 true ((x.us.map fun u=>u).map vI)):=fun h0=>by refine kT.get _ _ (by simp;omega) B_ ?_;unfold cpS;rw[H,I_ h0];exact cN ..
 obtain⟨v,J,fz⟩:=bD7 x hu ht (bPs n).1 (bPs n).2 (bPt n).1 (bPt n).2 (g:=fun u=>u) (fun B u hm=>aDt (Q.app [B]) (hf u hm)) rA rB rD hq;have h8:({x with a:=(opA k.s k.r x).2.1,b:=(opB k.s k.r x).2.1,d:=(opD k.s k.r x).1,us:=x.us.map (fun u=>u),tu:=zC x.tu x.us}:VI)=eR k.s k.r x:=by rw[H];rfl
 rw[h8,l6]at fz;have o5:On (frS T4 (n+6) (x.us.map fun u=>u)) n a3 f out (k.grow (eL k.s k.r x) (bZ k.s k.r x) i) i ld st ad:=by
  unfold frS;split;.exact o4
  .rename_i h0;have:=hq (fun e=>h0 (by rw[e];rfl));rw[l6]at this;exact o4.row this _
 have k5:KN [n+6] T4 (frS T4 (n+6) (x.us.map fun u=>u)):=by
  unfold frS;split;.exact KN.refl _ _
  .exact KN.set ..
 generalize frS T4 (n+6) (x.us.map fun u=>u)=T5 at *
 have hj:=(jV k.s k.r x).2;obtain⟨T6,a6,P,s6,k6,V,m6⟩:=aQm o5.sp (by show(k.c++bZ k.s k.r x).length<=_;rw[H_];omega) (by show(k.o++List.replicate (bZ k.s k.r x).length i).length<=_;rw[H_,F9];omega) (eR k.s k.r x) i;have p:=o5.keep k6 s6 V m6;rw[j3]at P k6 V;rw[m3]at m6;have b3:=o5.bs;rw[j3]at b3;have G:KN [a.j,n+2,n+4,n+5,n+6] S T6:=by
  have q1:KN [a.j,n+2,n+4,n+5,n+6] S S6:=by rw[e6];exact KN.app _ _ _
  have q2:KN [a.j,n+2,n+4,n+5,n+6] S6 (cpS S6 (x.us.map fun u=>u)):=by rw[hL];exact KN.app _ _ _
  exact q1.trans (q2.trans ((kT.mono B_).trans ((k5.mono B_).trans (k6.mono B_))))
 have hg:(k.grow (eL k.s k.r x) (bZ k.s k.r x) i).add (eR k.s k.r x) i=k.grow (eL k.s k.r x) (bZ k.s k.r x++[eR k.s k.r x]) i:=by unfold Sk.grow Sk.add;rw[H_,List.length_singleton,<-N1,A9,A9];rfl
 rw[hg]at s6 p;have b1:=Q.bs;have h9:=o5.bf;have U:=p.bt;have h1:=p.bs;have ha:=p.ba;have he:=p.bf;rw[V]at h1;have g3:=Q.bl;have I:∀b c:aG,(S3++[c]).set (n+3) b=S3++[b]:=fun b c=>by rw[<-Y];simp
 have F:∀b c:aG,(S4++[c]).set (n+4) b=S4++[b]:=fun b c=>by rw[<-Z];simp
 have E:∀b c:aG,(S5++[c]).set (n+5) b=S5++[b]:=fun b c=>by rw[<-l5];simp
 have R:∀b:aG,(S3++[b])[n+3]?=some b:=fun b=>by rw[<-Y];exact cN ..
 have h2:∀b:aG,(S4++[b])[n+4]?=some b:=fun b=>by rw[<-Z];exact cN ..
 have h5:∀b:aG,(S5++[b])[n+5]?=some b:=fun b=>by rw[<-l5];exact cN ..
 have ba:=Q.ba;have W:=Q.bf;have h7:=jU ba;unfold aMp bLt at J;rcases hb with⟨rfl,N⟩|⟨h0,q,rfl,N⟩
 .refine⟨T6,a6,aI K _ (fn:=t33) rfl rfl ?_,?_,G.old (by simp;omega),V,m6⟩
  .rw[cV]at *
   simp(disch:=omega)only[t33,go_sem,z,D,C,y,w,A,hn,l1,l2,Y,Z,l5,R,h2,h5,ba,W,h7,I,F,E,b1,h9,J,fz,P,U,b3]
  .have:dM k.s k.r x=bZ k.s k.r x++[eR k.s k.r x]:=by unfold dM;rw[N]
   rw[this];exact s6
 .have h4:(k.grow (eL k.s k.r x) (bZ k.s k.r x++[eR k.s k.r x]) i).c.length<=1000000:=by show(k.c++(bZ k.s k.r x++[eR k.s k.r x])).length<=_;rw[H_,H_,List.length_singleton];omega
  have h6:(k.grow (eL k.s k.r x) (bZ k.s k.r x++[eR k.s k.r x]) i).o.length<=1000000:=by show(k.o++List.replicate (bZ k.s k.r x++[eR k.s k.r x]).length i).length<=_;rw[H_,F9,H_,List.length_singleton];omega
  obtain⟨T7,a7,t,s7,k7,j7,m7⟩:=aQm s6 h4 h6 (stI st q) i;rw[V]at t k7 j7;rw[m6]at m7;refine⟨T7,a7,aI K _ (fn:=t33) rfl rfl ?_,?_,(G.trans (k7.mono B_)).old (by simp;omega),j7,m7⟩
  .rw[show aJ (stI st q)=[.int .i64 74,.int .i64 0,.int .i64 st,.int .i64 0,.int .i64 q,.int .i64 0,.sl .nil [],.sl .nil []] from rfl]at t;rw[cV]at *
   simp(disch:=omega)only[t33,go_sem,z,D,C,y,w,A,hn,l1,l2,Y,Z,l5,R,h2,h5,ba,W,h7,I,F,E,b1,h9,J,fz,P,U,b3,h1,ha,he,t]
  .have:dM k.s k.r x=(bZ k.s k.r x++[eR k.s k.r x])++[stI st q]:=by unfold dM;rw[N,A9];rfl
   rw[this];have hd:(k.grow (eL k.s k.r x) (bZ k.s k.r x++[eR k.s k.r x]) i).add (stI st q) i=k.grow (eL k.s k.r x) ((bZ k.s k.r x++[eR k.s k.r x])++[stI st q]) i:=by unfold Sk.grow Sk.add;dsimp only;simp only[H_,List.length_singleton,<-N1,A9];rfl
   rw[<-hd];exact s7
def frM(σ:List Int):Int->List VI->Nat->List Int
 |_,[],_=>[]
 |r,x::l,i=>List.replicate (dM σ r x).length (i:Int)++frM σ (eL σ r x) l (i+1)
def Sk.all(k:Sk)(l:List VI)(i:Nat):Sk:=⟨k.s,rwR k.s k.r l,k.c++bG k.s k.r l,k.o++frM k.s k.r l i⟩
theorem all_cons(k:Sk)(x:VI)(l:List VI)(i:Nat):(k.grow (eL k.s k.r x) (dM k.s k.r x) i).all l (i+1)=k.all (x::l) i:=by unfold Sk.all Sk.grow bG;rw[rwM,rwR,frM,List.flatten_cons,A9,A9]
theorem bLv(σ:Ta_)(r:Int)(x:VI):(dM σ r x).length<=4/\r<=eL σ r x/\eL σ r x<=r+3:=by have:=jV σ r x;have:=sN σ r x;have:=aCc σ r x;unfold dM;rw[H_,List.length_cons];omega
theorem bD9{f:VF}{out:IV}(L:f.ins.length<=10000)(q:∀x∈f.ins,x.us.length<=999990/\cB x.tu x.us){σ:Ta_}(g:∀x∈f.ins,∀u∈x.us,bV σ u=none)(j jm:Nat):∀(m i:Nat) (S:aA) (a:Ax) (k:Sk) (p x2 x6:TV),i+m=f.ins.length->SpS S a f out k->k.s=σ->a.j=j->a.jm=jm->0<=k.r/\k.r+4*m<=80000->k.c.length+4*m<=80000->k.o.length+4*m<=80000 ->∃S' n A z y,lp' (lim K) t14L0 [.ptr j 43 0,p,x2,.iv (.sl f.ti (f.ins.map aJ)),j_ f.ins.length,j_ i,x6] S = .ret (.exit 0,[.ptr j 43 0,A,z,.iv (.sl f.ti (f.ins.map aJ)),j_ f.ins.length,j_ f.ins.length,y],S')/\SpS S' n f out (k.all (f.ins.drop i) i)/\KN [j] S S'/\n.j=j/\n.jm=jm
 |0,i,S,a,k,p,x2,x6,h,hs,hk,hj,hjm,hr,hc,ho=>by
  obtain rfl:i=f.ins.length:=A_;refine⟨S,a,p,x2,z_,aE K _ _ t14L0.eq_1 ?_,?_,KN.refl _ _,hj,hjm⟩;.simp(disch:=omega)only[go_sem]
  .rw[E0];have:k.all [] f.ins.length=k:=by unfold Sk.all;simp[rwR,bG,rwM,frM]
   rw[this];exact hs
 |m+1,i,S,a,k,p,x2,x6,h,hs,hk,hj,hjm,hr,hc,ho=>by
  have b:i<f.ins.length:=A_;have e:=gC (w:=8) (f:=aJ) eZ (t:=f.ti) (l:=f.ins) (i:=(i:Int)) A_;rw[Int.toNat_natCast,cV]at e;have v:=bQ b;have C:f.ins.drop i=f.ins.getD i default::f.ins.drop (i+1):=by rw[A6 b];simp[List.getD,D_ b]
  have P:=bLv k.s k.r (f.ins.getD i default);obtain⟨S1,J,d,N,D,E,G⟩:=bRs hs ⟨hr.1,by omega⟩ A_ A_ (f.ins.getD i default) (q _ v).1 (q _ v).2 (by rw[hk];exact g _ v) (i:Int);rw[hj]at d D E;obtain⟨S',n,A,z,y,F,s',k',I,H⟩:=bD9 (out:=out) L q g j jm m (i+1) S1 J _ (j_ i) (.lb ((aJ (f.ins.getD i default)).map .iv)) e_ A_ N hk E (G.trans hjm) (by show 0<=eL k.s k.r _/\eL k.s k.r _+_<=_;omega) (by show(k.c++_).length+_<=_;rw[H_];omega) (by show(k.o++List.replicate _ _).length+_<=_;rw[H_,F9];omega);rw[show((i+1:Nat):Int)=(i:Int)+1 by omega,aS]at F;refine⟨S',n,A,z,y,aE K _ _ t14L0.eq_1 ?_,?_,D.trans k',I,H⟩
  .rw[cV]at d;generalize f.ins.getD i default=x at *
   simp(disch:=omega)only[go_sem,e,d,aC];exact X_ er F
  .rw[C,<-all_cons];exact s'
def sk0(σ:List Int)(f:VF):Sk:=⟨σ,rwR σ f.regs f.ins,bG σ f.regs f.ins,frM σ f.regs f.ins 0⟩
theorem SpS.start{S:aA}{a:Ax}{f:VF}{out:IV}{k:Sk}(h:SpS S a f out k):SpS (S.set a.j (spB a f out ⟨k.s,f.regs,[],[]⟩)) a f out ⟨k.s,f.regs,[],[]⟩ :=
 ⟨aM (aN h.blk) _,h.map.keep (KN.set a.j S _) h.jne,fun b=>absurd rfl b,fun b=>absurd rfl b,fun b=>absurd rfl b,h.oc⟩
theorem aVe{S:aA}{a:Ax}{f:VF}{out:IV}{σ:Ta_}(q o t A D w y G:TV)(l:S[a.j]?=some (.cells 43 false [j_ f.fn,j_ f.regs,j_ f.sl,j_ f.nd,j_ f.pr,.iv (.bool f.rs),.iv (.sl f.ti (f.ins.map aJ)),q,o,t,A,D,w,y,G,.map a.jm,.iv out]))(h:SpS (S.set a.j (spB a f out ⟨σ,f.regs,[],[]⟩)) a f out ⟨σ,f.regs,[],[]⟩)(F:f.ins.length<=10000)(J:f.regs<=30000)(n:∀x∈f.ins,x.us.length<=999990/\cB x.tu x.us)(g:∀x∈f.ins,∀u∈x.us,bV σ u=none): ∃S' d,(lim K).call 14 [.ptr a.j 43 0] S=.ret (u_,S')/\SpS S' d f out (sk0 σ f)/\KN [a.j] S S'/\d.j=a.j/\d.jm=a.jm:=by
 have e:=aN l;obtain⟨S',d,L,I,H,i,s',k',v,r⟩:=bD9 F n g a.j a.jm f.ins.length 0 _ a ⟨σ,f.regs,[],[]⟩ u_ u_ u_ A_ h rfl rfl rfl ⟨by show(0:Int)<=(f.regs:Int);omega,by show(f.regs:Int)+_<=_;omega⟩ (by simp;omega) (by simp;omega);rw[n0_]at i;have C:(⟨σ,f.regs,[],[]⟩:Sk).all (f.ins.drop 0) 0=sk0 σ f:=rfl;rw[C]at s';refine⟨S',d,aI K _ (fn:=t14) rfl rfl ?_,s',(KN.set a.j S _).trans k',v,r⟩;have E:=fun b=>aM e b;have p:=fun b c:aG=>(G9 ..:(S.set a.j b).set a.j c=S.set a.j c)
 have z:(f.ins.map aJ).length=f.ins.length:=L_ _;unfold spB at *
 rw[show(([]:List VI).map aJ)=[] from rfl,show aZ []=[] from rfl,mB,mB]at i;simp(disch:=omega)only[t14,go_sem,l,E,p,z];rw[i];simp(disch:=omega)only[go_sem]
theorem bRt{S:aA}{a:Ax}{f:VF}{out:IV}{k:Sk}(h:SpS S a f out k)(g:f.ins.length<=10000)(d:f.regs<=30000)(e:∀x∈f.ins,x.us.length<=999990/\cB x.tu x.us)(c:∀x∈f.ins,∀u∈x.us,bV k.s u=none): ∃S' b,(lim K).call 14 [.ptr a.j 43 0] S=.ret (u_,S')/\SpS S' b f out (sk0 k.s f)/\KN [a.j] S S'/\b.j=a.j/\b.jm=a.jm:=aVe _ _ _ _ _ _ _ _ h.blk h.start g d e c
def cC(C:List VI):List TV:=(TM.bC (C.map aJ)).map .iv
theorem gW(x:VI)(C:List VI):cC (x::C)=(aJ x).map .iv++cC C:=by unfold cC;rw[Q_,show TM.bC (aJ x::C.map aJ)=aJ x++TM.bC (C.map aJ) from rfl,E1]
theorem lG:∀C:List VI,(cC C).length=C.length*8
 |[]=>rfl
 |x::C=>by rw[gW,H_,lG C,List.length_cons];show 8+_=_;omega
theorem aF3(x:VI):((aJ x).map TV.iv).length=8:=rfl
theorem bPu:∀(C:List VI) (i:Nat),i<C.length->sub (cC C) (i*8) 8=some ((aJ (C.getD i default)).map .iv)
 |[],i,h=>by simp at h
 |x::C,0,h=>by rw[gW];simp only[sub,H_,aF3,show 0*8+8<=8+(cC C).length by omega,↓reduceIte,P8,C4];rw[K4 (aF3 x)];rfl
 |x::C,i+1,h=>by
  have a:=bPu C i (by simpa using h);have c:=lG C;have b:i<C.length:=by simpa using h
  unfold sub at a |-;rw[gW,H_,aF3];rw[K_ A_]at a |-;rw[show(i+1)*8=8+i*8 by omega,<-U0,L6 (aF3 x)];exact a
theorem bPv:∀(C:List VI) (i:Nat) (y:VI),i<C.length->put (cC C) (i*8) ((aJ y).map .iv)=cC (C.set i y)
 |[],i,y,h=>by simp at h
 |x::C,0,y,h=>by rw[List.set_cons_zero,gW,gW];unfold put;rw[aF3,P8,List.take_zero,A7,L6 (aF3 x),List.nil_append]
 |x::C,i+1,y,h=>by
  have a:=bPv C i y (by simpa using h);have c:=lG C;have b:i<C.length:=by simpa using h
  unfold put at a |-;rw[List.set_cons_succ,gW,gW,<-a,aF3,show(i+1)*8=8+i*8 by omega,show 8+i*8+8=8+(i*8+8) by omega,<-U0,L6 (aF3 x),X0,aF3];rw[K5 (by rw[aF3];omega),show 8+i*8-8=i*8 by omega];simp only[A9]
theorem bV9{q n i:Nat}(h:i<n):indexAddrS 8 (.msl q 0 0 n n 8) (i:Int)=some (.ptr q 0 (i*8)):=by unfold indexAddrS;rw[I_ A_];simp only[Int.toNat_natCast,A7];rw[K_ ⟨by omega,trivial⟩]
theorem aMq:∀C:List VI,cP 8 C.length (TM.bC (C.map aJ))=C.map aJ
 |[]=>rfl
 |x::C=>by rw[List.length_cons,Q_,show TM.bC (aJ x::C.map aJ)=aJ x++TM.bC (C.map aJ) from rfl,cP,K4 (show(aJ x).length=8 from rfl),L6 (show(aJ x).length=8 from rfl),aMq C]
theorem bLw{S:aA}{q:Nat}{b:Bool}{C:List VI}(h:S[q]?=some (.cells 0 b (cC C))):cH S (.msl q 0 0 C.length C.length 8)=some (C.map aJ):=by
 have a:sub (cC C) 0 (C.length*8)=some (cC C):=mC (lG C);have e2:toIVs (cC C)=some (TM.bC (C.map aJ)):=by unfold cC;rw[fM]
 simp only[cH,h,ne_eq,C9,↓reduceIte,a,e2,Option.map_some,aMq]
theorem bUj(C:List VI):(cC C).any bJ=false:=by
 induction C with
 |nil=>rfl
 |cons x C ih=>rw[gW,R0,ih];rfl
theorem bRu{S:aA}{j:Nat}{C:List VI}(b:C≠[])(g:C.length<=1000000):(lim K).call 64 [.tsl j (C.map aJ)] S=.ret (.msl S.length 0 0 C.length C.length 8,S++[.cells 0 true (cC C)]):=by
 have c:dU S (.tsl j (C.map aJ))=some (cC C):=rfl;have e2:lenOf S (.tsl j (C.map aJ))=some C.length:=by simp[lenOf]
 have e3:=bUj C;have f:C.length≠0:=fun h=>b (H4.1 h);have a:eA C.length 96=true:=bR A_;have e:bA true 8 96 28 S (.iv (.sl .full [])) (.tsl j (C.map aJ))=some (.msl S.length 0 0 C.length C.length 8,S++[.cells 0 true (cC C)]):=by simp[bA,c,e2,e3,f,a,bC,oL,lG]
 have d:TM.eqB .sl (.tsl j (C.map aJ)) k_=some false:=rfl;refine aI K S (fn:=t64) rfl rfl ?_;simp(disch:=omega)only[t64,go_sem,e,d]
theorem bLx{C:List VI}{i:Nat}(h:i<C.length):((C.take i).map plI++C.drop i).getD i default=C.getD i default/\((C.take i).map plI++C.drop i).set i (plI (C.getD i default))=(C.take (i+1)).map plI++C.drop (i+1):=by
 have a:((C.take i).map plI).length=i:=by simp;omega
 have b:C.drop i=C.getD i default::C.drop (i+1):=by rw[A6 h];simp[List.getD,D_ h]
 have c:C.take (i+1)=C.take i++[C.getD i default]:=by rw[H0,D_ h];simp[List.getD,D_ h]
 constructor;.simp only[List.getD,r_ (show((C.take i).map plI).length<=i by omega),a,M8,G6,Nat.add_zero]
 .rw[E3 _ _ A_,a,M8,b,List.set_cons_zero,c,E1,List.map_singleton,A9];rfl
theorem bEa{C:List VI}(J:C.length<=1000000){q:Nat}{S:aA}(I:q<S.length)(x0 z x9:TV)(c0 v w E y D:TV):∀(k i:Nat) (t x4 x8 x9 x10 x11:TV),i+k=C.length ->∃m h l j c b,lp' (lim K) t35L0 [x0,z,.lb [c0,v,w,E,y,D,.msl q 0 0 C.length C.length 8],t,x4,.msl q 0 0 C.length C.length 8,j_ C.length,j_ i,x8,x9,x10,x11] (S.set q (.cells 0 true (cC ((C.take i).map plI++C.drop i)))) = .ret (.exit 0,[x0,z,.lb [c0,v,w,E,y,D,.msl q 0 0 C.length C.length 8],m,h,.msl q 0 0 C.length C.length 8,j_ C.length,j_ C.length,l,j,c,b],S.set q (.cells 0 true (cC (C.map plI))))
 |0,i,t,x4,x8,x9,x10,x11,hk=>by obtain rfl:i=C.length:=A_;rw[B9,E0,A4];refine⟨t,x4,z_,x9,x10,x11,aE K _ _ t35L0.eq_1 ?_⟩;simp(disch:=omega)only[go_sem]
 |k+1,i,t,x4,x8,x9,x10,x11,hk=>by
  have p:i<C.length:=A_;obtain⟨G,p2⟩:=bLx p;have r:((C.take i).map plI++C.drop i).length=C.length:=by simp;omega
  have u:=bV9 (q:=q) p;have o:=bPu ((C.take i).map plI++C.drop i) i A_;have f:=bPv ((C.take i).map plI++C.drop i) i (plI (C.getD i default)) A_;rw[G,aS]at o;rw[p2]at f;have A:=aM I (.cells 0 true (cC ((C.take i).map plI++C.drop i)));have H:∀B,(S.set q (.cells 0 true (cC ((C.take i).map plI++C.drop i)))).set q B=S.set q B:=fun B=>G9 ..;have s:i*8+8<=(cC ((C.take i).map plI++C.drop i)).length:=by rw[lG,r];omega
  have IH:=fun(m h l j c b:TV)=>bEa J I x0 z x9 c0 v w E y D k (i+1) m h l j c b A_;have n:((i+1:Nat):Int)=(i:Int)+1:=A_;have same:plI (C.getD i default)=C.getD i default->S.set q (.cells 0 true (cC ((C.take (i+1)).map plI++C.drop (i+1))))=S.set q (.cells 0 true (cC ((C.take i).map plI++C.drop i))):=fun e=>by rw[<-p2,e,<-G,W_,D_ A_,Option.getD_some,J9]
  generalize hS1:S.set q (.cells 0 true (cC ((C.take i).map plI++C.drop i)))=S1 at *
  by_cases h1:(C.getD i default).op=73
  .have F:plI (C.getD i default)=⟨69,(C.getD i default).d,0,0,0,0,.nil,[],.nil,[]⟩:=by unfold plI;rw[K_ h1]
   rw[F,aS]at f;obtain⟨m,h,l,j,c,b,g⟩:=IH (j_ i) (.lb ((aJ (C.getD i default)).map .iv)) e_ (j_ 73) e_ x11;rw[n,aS,h1]at g;rw[h1]at o;refine⟨m,h,l,j,c,b,aE K _ _ t35L0.eq_1 ?_⟩;generalize C.getD i default=x at *
   dsimp only at f;rw[show TM.one (IV.int .i64) []=[] from rfl]at f;unfold put at f;simp only[List.length_cons,List.length_nil,A7,Nat.reduceAdd]at f;rw[<-f]at g;simp(disch:=omega)only[go_sem,u,A,o,aC,s,H];exact X_ er g
  .by_cases h2:(C.getD i default).op=74
   .have F:plI (C.getD i default)=⟨64,0,(C.getD i default).a,0,0,0,.nil,[],.nil,[]⟩:=by unfold plI;rw[I_ h1,K_ h2]
    rw[F,aS]at f;obtain⟨m,h,l,j,c,b,g⟩:=IH (j_ i) (.lb ((aJ (C.getD i default)).map .iv)) e_ (j_ 74) z_ e_;rw[n,aS,h2]at g;rw[h2]at o;refine⟨m,h,l,j,c,b,aE K _ _ t35L0.eq_1 ?_⟩;generalize C.getD i default=x at *
    dsimp only at f;rw[show TM.one (IV.int .i64) []=[] from rfl]at f;unfold put at f;simp only[List.length_cons,List.length_nil,A7,Nat.reduceAdd]at f;rw[<-f]at g;simp(disch:=omega)only[go_sem,u,A,o,aC,s,H];exact X_ er g
   .have same:=same (by unfold plI;rw[I_ h1,I_ h2]);obtain⟨m,h,l,j,c,b,g⟩:=IH (j_ i) (.lb ((aJ (C.getD i default)).map .iv)) e_ (.iv (.int .i64 (C.getD i default).op)) z_ z_;rw[n,aS,same]at g;refine⟨m,h,l,j,c,b,aE K _ _ t35L0.eq_1 ?_⟩;generalize C.getD i default=x at *
    simp(disch:=omega)only[go_sem,u,A,o,aC,h1,h2];exact X_ er g
theorem bRv{S:aA}{a:Ax}{f:VF}{out:IV}{k:Sk}(h:SpS S a f out k)(i:k.c≠[])(m:k.c.length<=1000000): (lim K).call 35 [.ptr a.j 43 0] S=.ret (.agg [j_ f.fn,j_ k.r,j_ f.sl,j_ f.nd,j_ f.pr,.iv (.bool f.rs),.msl S.length 0 0 k.c.length k.c.length 8],S++[.cells 0 true (cC (k.c.map plI))]):=by
 have b:=h.blk;have d:k.c.map aJ≠[]:=by simpa using i
 have e:=bRu (S:=S) (j:=a.ji) i m;have l:=aR b [aG.cells 0 true (cC k.c)];obtain⟨t,s,p,u,o,n,g⟩:=bEa (C:=k.c) m (q:=S.length) (S:=S++[.cells 0 true (cC k.c)]) B_ (.ptr a.j 43 0) (.lb [j_ 0,j_ 0,j_ 0,j_ 0,j_ 0,z_,k_]) u_ (j_ f.fn) (j_ k.r) (j_ f.sl) (j_ f.nd) (j_ f.pr) (.iv (.bool f.rs)) k.c.length 0 u_ u_ u_ u_ u_ u_ A_;have st:∀B:aG,(S++[aG.cells 0 true (cC k.c)]).set S.length B=S++[B]:=fun B=>B_;rw[List.take_zero,C3,List.nil_append,C4,st,st,n0_]at g;unfold spB at b l;rw[lO _ d]at b l;refine aI K _ (fn:=t35) rfl rfl ?_;simp(disch:=omega)only[t35,go_sem,b,e];rw[g];simp(disch:=omega)only[go_sem]
def rwV(j:Nat)(l:List Int):TV:=if l=[]then .iv (.sl .nil [])else .msl j (l.length-1) 0 l.length l.length 1
def RwB(S:aA)(j:Nat)(l:List Int):Prop:=l≠[]->S[j]?=some (.cells (l.length-1) true (l.map vI))
theorem bLy(j:Nat):rwV j []=k_:=rfl
theorem sU(j:Nat){l:Ta_}(h:l≠[]):rwV j l=.msl j (l.length-1) 0 l.length l.length 1:=I_ h
theorem bLz(S:aA)(j:Nat)(l:Ta_):rZ .sl S (rwV j l)=some (j_ l.length):=by
 unfold rwV;split;.rename_i h;rw[h];rfl
 .rfl
theorem lV{S:aA}{j:Nat}{l:Ta_}(h:RwB S j l):Slc S (rwV j l) l:=by
 by_cases h0:l=[]
 .subst h0;exact Slc.iv S .nil []
 .rw[sU j h0];exact Slc.msl (J:=[]) (by rw[A4];exact h h0)
theorem bEb{S:aA}{j:Nat}{l:Ta_}(h:RwB S j l)(f:l.length<=1000000)(r:Int): ∃a S',bA true 1 8 3 S (rwV j l) (.iv (.sl .full [[.int .i64 r]]))=some (rwV a (l++[r]),S')/\RwB S' a (l++[r])/\bL [a] S S'/\(l≠[]->a=j)/\(l=[]->a=S.length):=by
 by_cases h0:l=[]
 .subst h0;refine⟨S.length,S++[.cells 0 true [vI r]],aLz r C_ .full,fun _=>cN ..,bL.app _ _ _,fun h=>absurd rfl h,fun _=>rfl⟩
 .have c:=h h0;have g:0<l.length:=N2.2 h0;have e:=aP1 true r c f .full;have d:l++[r]≠[]:=B_;have b:(l++[r]).length=l.length+1:=B_;rw[show l.length-1+1=l.length by omega]at e;refine⟨j,_,by rw[sU j h0,sU j d,b,N6];exact e,fun _=>?_,bL.set S B_ _,fun _=>rfl,fun h=>absurd h h0⟩;rw[b,N6,aM (aN c)]
def aBy(C:List Int):List Int:=((List.range C.length).filter fun i=>decide (C.getD i 0<0)).map fun i:Nat=>(i:Int)
def aBz(C:List Int)(i:Nat):List Int:=((List.range i).filter fun i=>decide (C.getD i 0<0)).map fun i:Nat=>(i:Int)
theorem aXo(C:Ta_)(i:Nat):aBz C (i+1)=if C.getD i 0<0 then aBz C i++[(i:Int)]else aBz C i:=by
 unfold aBz;rw[R2,I5,E1];by_cases h:C.getD i 0<0;.rw[K_ h,E4,K_ (V_ h)];rfl
 .rw[I_ h,E4,I_ (by rw[l_ h];decide)];simp
theorem aMr(C:Ta_)(i:Nat):(aBz C i).length<=i:=by unfold aBz;rw[L_];exact C0 (D8 ..) B_
theorem aQo{t:Tag}{C:Ta_}(L:C.length<=100000)(a:Nat)(x0:TV):∀(k i:Nat) (S:aA) (j:Nat) (x2 z x7 x8:TV),i+k=C.length->RwB S j (aBz C i)->a<=S.length->(aBz C i≠[]->a<=j) ->∃S' d r v s u,lp' (lim K) t37L0 [x0,rwV j (aBz C i),x2,z,.iv (.sl t (TM.one (.int .i64) C)),j_ C.length,j_ i,x7,x8] S = .ret (.exit 0,[x0,rwV d (aBy C),r,v,.iv (.sl t (TM.one (.int .i64) C)),j_ C.length,j_ C.length,s,u],S')/\RwB S' d (aBy C)/\(∀q b,q<a->S[q]?=some b->S'[q]?=some b)/\S.length<=S'.length/\(aBy C≠[]->a<=d)
 |0,i,S,j,x2,z,x7,x8,hk,hb,hn,hj=>by obtain rfl:i=C.length:=A_;refine⟨S,j,x2,z,z_,x8,aE K _ _ t37L0.eq_1 ?_,hb,fun q b _ h=>h,O_ _,hj⟩;simp(disch:=omega)only[go_sem];rfl
 |k+1,i,S,j,x2,z,x7,x8,hk,hb,hn,hj=>by
  have Q:i<C.length:=A_;have A:=pI (f:=IV.int .i64) (t:=t) (l:=C) (i:=(i:Int)) A_;rw[Int.toNat_natCast]at A;have c:=aXo C i;have R:C.getD i default=C.getD i 0:=rfl;rw[R]at A;have n:=lV hb;have N:=n.wb;have H:=n.loc;by_cases hd:C.getD i 0<0
  .rw[K_ hd]at c;have T:=aMr C i;obtain⟨J,S1,V,w,I,F,E⟩:=bEb hb A_ (i:Int);have p:a<=J:=by
    by_cases h0:aBz C i=[]
    .rw[E h0];exact hn
    .rw[F h0];exact hj h0
   have P:=(lV w).wb;have D:=I.len;obtain⟨S',d,r,v,s,u,y,m,e,o,g⟩:=aQo (t:=t) L a x0 k (i+1) S1 J (j_ i) (j_ (C.getD i 0)) e_ e_ A_ (by rw[c];exact w) A_ (fun _=>p);rw[c,show((i+1:Nat):Int)=(i:Int)+1 by omega]at y;refine⟨S',d,r,v,s,u,aE K _ _ t37L0.eq_1 ?_,m,fun q b U G=>e q b U ?_,by omega,g⟩
   .generalize C.getD i 0=x at *
    simp(disch:=omega)only[go_sem,A,hd,N,H,V,P,aC];exact X_ er y
   .exact I.get q b (by simp;omega) G
  .rw[I_ hd]at c;obtain⟨S',d,r,v,s,u,y,m,e,o,g⟩:=aQo (t:=t) L a x0 k (i+1) S j (j_ i) (j_ (C.getD i 0)) e_ z_ A_ (by rw[c];exact hb) hn (by rw[c];exact hj);rw[c,show((i+1:Nat):Int)=(i:Int)+1 by omega]at y;refine⟨S',d,r,v,s,u,aE K _ _ t37L0.eq_1 ?_,m,e,o,g⟩;generalize C.getD i 0=x at *
   simp(disch:=omega)only[go_sem,A,hd,N,H,aC];exact X_ er y
def Kp0(n0:Nat)(S S':aA):Prop:=S.length<=S'.length/\∀q b,q<n0->S[q]?=some b->S'[q]?=some b
theorem bRw(t:Tag)(C:Ta_)(s:C.length<=100000)(S:aA):∃S' i,(lim K).call 37 [.iv (.sl t (TM.one (.int .i64) C))] S=.ret (rwV i (aBy C),S')/\RwB S' i (aBy C)/\Kp0 S.length S S'/\(aBy C≠[]->S.length<=i):=by
 obtain⟨S',i,w,r,x,q,m,k,v,y,n⟩:=aQo (t:=t) s S.length (.iv (.sl t (TM.one (.int .i64) C))) C.length 0 S 0 u_ u_ u_ u_ A_ (fun h=>absurd rfl h) (O_ _) (fun h=>absurd rfl h);rw[n0_,show rwV 0 (aBz C 0)=k_ from rfl]at m;have g:=lV k;have u:=g.wb;have p:=g.loc;have o:∀S,kP [.loc 1] [.iv (.sl t (TM.one (.int .i64) C)),rwV i (aBy C),w,r,.iv (.sl t (TM.one (.int .i64) C)),j_ C.length,j_ C.length,x,q] S=some (rwV i (aBy C)):=fun S=>by rcases g.frm with⟨a,e⟩|⟨j,l,e⟩|⟨a,b,c,d,z,f,e⟩<;>rw[e]<;>rfl
 refine⟨S',i,aI K _ (fn:=t37) rfl rfl ?_,k,⟨y,v⟩,n⟩;simp(disch:=omega)only[t37,go_sem];rw[m];simp(disch:=omega)only[go_sem,u,p,o]
def pR(r:Nat)(x:Int):Bool:=decide ((r:Int)<=x)
theorem bRx{S:aA}{a:Ax}{f:VF}{out:IV}{k:Sk}{b:Nat}(h:SpS S a f out k)(d:S[b]?=some (.cells 40 false [.ptr a.j 43 0]))(x:Int):(lim K).call 38 [j_ x,.ptr b 40 0] S=.ret (.iv (.bool (pR f.regs x)),S):=by
 have c:=h.blk;unfold spB at c;unfold pR;refine aI K _ (fn:=t38) rfl rfl ?_;by_cases hx:(f.regs:Int)<=x;.rw[V_ hx];simp(disch:=omega)only[t38,go_sem,d,c]
 .rw[l_ hx];simp(disch:=omega)only[t38,go_sem,d,c]
theorem bRy{S:aA}{a:Ax}{f:VF}{out:IV}{k:Sk}{b:Nat}(h:SpS S a f out k)(d:S[b]?=some (.cells 40 false [.ptr a.j 43 0]))(x:Int):(lim K).call 41 [j_ x,.ptr b 40 0] S=.ret (.iv (.bool (pR f.regs x)),S):=by
 have c:=h.blk;unfold spB at c;unfold pR;refine aI K _ (fn:=t41) rfl rfl ?_;by_cases hx:(f.regs:Int)<=x;.rw[V_ hx];simp(disch:=omega)only[t41,go_sem,d,c]
 .rw[l_ hx];simp(disch:=omega)only[t41,go_sem,d,c]
theorem aVf{g b:Nat}{x:Int}{v:TV}{S:aA}(h:(lim K).call g [j_ x,.ptr b 40 0] S=.ret (v,S)):cvA (lim K) false S g (j_ x::[.ptr b 40 0])=.ret (v,S):=by simp only[go_sem,h]
def nA(r:Nat)(i:Nat):List Int:=(List.range' i (r-i)).map fun n:Nat=>(n:Int)
theorem aDu{r i:Nat}(h:i<r):nA r i=(i:Int)::nA r (i+1):=by unfold nA;rw[show r-i=(r-(i+1))+1 by omega,W9,Q_]
theorem aXp{r i:Nat}(h:r<=i):nA r i=[]:=by unfold nA;rw[show r-i=0 by omega];rfl
theorem SpS.keepO{S S':aA}{a:Ax}{f:VF}{out:IV}{k:Sk}(h:SpS S a f out k){q:Nat}{b:aG}(g:bL [q] S S')(m:S[q]?=some b)(i:∀n w e,b≠.tok n w e)(s:q≠a.j)(r:q≠a.jm):SpS S' a f out k:=by
 obtain⟨l,d,p,o⟩:=h.map;refine⟨g.get _ _ (by simp;omega) h.blk,⟨l,d,g.get _ _ (by simp;omega) p,o⟩,fun c=>?_,fun c=>?_,h.ne,h.oc⟩;.exact g.get _ _ (by have:=mT (h.ti c) m i;simp;omega) (h.ti c)
 .exact g.get _ _ (by have:=mT (h.tf c) m i;simp;omega) (h.tf c)
theorem aVg{a:Ax}{f:VF}{out:IV}{k0:Sk}{b j:Nat}(w:f.regs<=100000)(r:j≠a.j)(jm:j≠a.jm)(jb:j≠b)(x0 x2 h x4 x7 x8:TV):∀(k i:Nat) (S:aA) (l:Ta_) (x9:TV),i+k=max i f.regs->l.length+k<=500000->l≠[]->RwB S j l->SpS S a f out k0->S[b]?=some (.cells 40 false [.ptr a.j 43 0]) ->∃S' n,lp' (lim K) t15L0 [x0,.ptr b 40 0,x2,h,x4,rwV j l,j_ i,x7,x8,x9] S = .ret (.exit 2,[x0,.ptr b 40 0,x2,h,x4,rwV j (l++nA f.regs i),j_ (max i f.regs:Nat),x7,x8,n],S')/\RwB S' j (l++nA f.regs i)/\bL [j] S S'
 |0,i,S,l,x9,hk,hl,h0,hb,hs,hbx=>by have g:f.regs<=i:=A_;rw[aXp g,A4,show max i f.regs=i by omega];have c:=hs.blk;unfold spB at c;refine⟨S,z_,aE K _ _ t15L0.eq_1 ?_,hb,bL.refl _ _⟩;simp(disch:=omega)only[go_sem,hbx,c]
 |k+1,i,S,l,x9,hk,hl,h0,hb,hs,hbx=>by have g:i<f.regs:=A_;have c:=hs.blk;obtain⟨C,S1,A,d,m,p,_⟩:=bEb hb A_ (i:Int);obtain rfl:=p h0;have z:=hs.keepO m (hb h0) B_ r jm;have v:=m.get _ _ (by simp;omega) hbx;have q:=lV hb;have t:=lV d;have y:=q.wb;have u:=q.loc;have x:=t.wb;obtain⟨S',n,s,e,o⟩:=aVg w r jm jb x0 x2 h x4 x7 x8 k (i+1) S1 (l++[(i:Int)]) e_ A_ (by simp;omega) B_ d z v;rw[show((i+1:Nat):Int)=(i:Int)+1 by omega,show max (i+1) f.regs=max i f.regs by omega,A9,List.singleton_append,<-aDu g]at s;rw[A9,List.singleton_append,<-aDu g]at e;refine⟨S',n,aE K _ _ t15L0.eq_1 ?_,e,m.trans o⟩;unfold spB at c;simp(disch:=omega)only[go_sem,hbx,c,y,u,A,x,aC];exact X_ er s
def wH:List Int->List Int->List Int
 |σ,[]=>σ
 |σ,n::l=>wH (if n∈σ then σ else σ++[n]) l
theorem aXq(σ:Ta_)(n m:Int)(a:n∉σ):bV (σ++[n]) m=if n=m then some σ.length else bV σ m:=by
 unfold bV;rw[Y1];by_cases e:n=m;.rw[K_ e,<-e];have:σ.findIdx? (fun x=>x==n)=none:=jA.2 a;rw[this];simp
 .rw[I_ e];have:[n].findIdx? (fun x=>x==m)=none:=by simp[e]
  rw[this];simp
theorem aQp{f:VF}{out:IV}{a:Ax}{e cp:Nat}{l:Ta_}{J:Tn_}{v:Nat}(hl:l.length<=1000000)(Z:e≠a.j)(P:e≠a.jm):∀(m i:Nat) (S:aA) (k:Sk) (x2 L x4 x8 x9:TV),i+m=l.length->SpS S a f out k->S[e]?=some (.cells v true (l.map vI++J)) ->∃S' A E y C z,lp' (lim K) t39L0 [.ptr a.j 43 0,.msl e v 0 l.length cp 1,x2,L,x4,.msl e v 0 l.length cp 1,j_ l.length,j_ i,x8,x9] S = .ret (.exit 0,[.ptr a.j 43 0,.msl e v 0 l.length cp 1,A,E,y,.msl e v 0 l.length cp 1,j_ l.length,j_ l.length,C,z],S')/\SpS S' a f out ⟨wH k.s (l.drop i),k.r,k.c,k.o⟩/\KN [a.jm] S S'
 |0,i,S,k,x2,L,x4,x8,x9,h,hs,hj=>by
  obtain rfl:i=l.length:=A_;refine⟨S,x2,L,x4,z_,x9,aE K _ _ t39L0.eq_1 ?_,?_,KN.refl _ _⟩;.simp(disch:=omega)only[go_sem]
  .rw[E0];exact hs
 |m+1,i,S,k,x2,L,x4,x8,x9,h,hs,hj=>by
  have g:i<l.length:=A_;have V:=sO g;have Y:=iO (j:=e) (v:=v) (cap:=cp) g;have T:=oY (J:=J) g;have N:=hs.blk;obtain⟨d,c,u,I,W⟩:=hs.map;have G:=hj;rw[V,wH];generalize l.getD i 0=n at *
  simp only[vI]at T;by_cases hn:n∈k.s;.obtain⟨q,w⟩:=aW1 hn;have R:=uT (c:=c) (l:=d) (m:=n) (v:=(q:Int)) (by rw[I,w];rfl);rw[K_ hn];obtain⟨S',A,E,y,C,z,H,t,p⟩:=aQp (cp:=cp) hl Z P m (i+1) S k (j_ n) (.lb [j_ q]) e_ e_ z_ A_ hs hj;rw[show((i+1:Nat):Int)=(i:Int)+1 by omega]at H;refine⟨S',A,E,y,C,z,aE K _ _ t39L0.eq_1 ?_,t,p⟩;unfold spB at N;simp(disch:=omega)only[go_sem,Y,G,T,N,u,R,aC];exact X_ er H
  .have w:=jA.2 hn;have R:=xM (c:=c) (l:=d) (m:=n) (by rw[I,w];rfl);rw[I_ hn];have Q:=aN u;have kn:KN [a.jm] S (S.set a.jm (.mp (mpR kC (gV d c n k.s.length)) (rP d c n))):=KN.set ..;have g0:∀q b,q≠a.jm->S[q]?=some b->(S.set a.jm (.mp (mpR kC (gV d c n k.s.length)) (rP d c n)))[q]?=some b:=fun q b w hb=>by rw[aB (B0 w)];exact hb
   have U:SpS (S.set a.jm (.mp (mpR kC (gV d c n k.s.length)) (rP d c n))) a f out ⟨k.s++[n],k.r,k.c,k.o⟩:=by
    refine⟨g0 _ _ (B0 hs.jne) hs.blk,⟨_,_,aM Q _,fun x=>?_,?_⟩,fun F=>g0 _ _ ?_ (hs.ti F),fun F=>g0 _ _ ?_ (hs.tf F),hs.ne,hs.oc⟩;.rw[qI,I,aXq _ _ _ hn];split<;>rfl
    .rw[bPb];have:cG d n=false:=by unfold cG;rw[I,w];rfl
     rw[this,W];simp
    .exact mT (hs.ti F) u B_
    .exact mT (hs.tf F) u B_
   have D:rZ .mp S (.map a.jm)=some (j_ k.s.length):=by
    have:(mpR kC d).length=k.s.length:=by rw[aLp,W]
    simp[rZ,zM,lenOf,u,this];rfl
   have up:∀env:Env,upB (.leaf .int) env S a.jm (some (.mp (mpR kC d) c)) (j_ n) (.iv (.agg [.int .i64 (k.s.length:Int)]))=some (TM.undef,env,S.set a.jm (.mp (mpR kC (gV d c n k.s.length)) (rP d c n))):=fun env=>aCx ..;obtain⟨S',A,E,y,C,z,H,t,p⟩:=aQp (cp:=cp) hl Z P m (i+1) _ ⟨k.s++[n],k.r,k.c,k.o⟩ (j_ n) (.lb [j_ 0]) z_ e_ e_ A_ U (g0 _ _ P hj);rw[show((i+1:Nat):Int)=(i:Int)+1 by omega]at H;refine⟨S',A,E,y,C,z,aE K _ _ t39L0.eq_1 ?_,t,kn.trans p⟩;unfold spB at N;generalize hS1:S.set a.jm (.mp (mpR kC (gV d c n k.s.length)) (rP d c n))=S1 at *
   simp(disch:=omega)only[go_sem,Y,G,T,N,u,R,D,up,aC];exact X_ er H
theorem bRz{f:VF}{out:IV}{a:Ax}{d cp:Nat}{l:Ta_}{J:Tn_}{v:Nat}(p:l.length<=1000000)(n:d≠a.j)(i:d≠a.jm){S:aA}{k:Sk}(m:SpS S a f out k)(h:S[d]?=some (.cells v true (l.map vI++J))): ∃S',(lim K).call 39 [.ptr a.j 43 0,.msl d v 0 l.length cp 1] S=.ret (u_,S')/\SpS S' a f out ⟨wH k.s l,k.r,k.c,k.o⟩/\KN [a.jm] S S':=by obtain⟨S',x,u,t,q,w,g,b,e⟩:=aQp (cp:=cp) p n i l.length 0 S k u_ u_ u_ u_ u_ A_ m h;rw[n0_]at g;rw[C4]at b;refine⟨S',aI K _ (fn:=t39) rfl rfl ?_,b,e⟩;simp(disch:=omega)only[t39,go_sem];rw[g];simp(disch:=omega)only[go_sem]
def zJ(r:Nat)(l:List Int):List Int:=flp (pR r) (if l.any (pR r)then l++nA r 32 else l)
def jN(n:Nat)(o:Nat->Int):List Int:=aBy ((List.range n).map o)
inductive Reach (f:VF):List Int->Prop
 |nil:Reach f []
 |step {σ:List Int} {n:Nat} {o:Nat->Int} (h:Reach f σ) (hn:(n:Int)=rwR σ f.regs f.ins) (hc:aDs (plC σ f.regs f.ins) n o) (h0:jN n o≠[]):Reach f (wH σ (zJ f.regs (jN n o)))
structure aJ0 (f:VF) (σ:List Int):Prop where
 virt:aBw σ
 lt:∀n∈σ,n<f.regs
 nd:σ.Nodup
theorem aJ1{n:Nat}{o:Tg_}{x:Int}:x∈jN n o↔∃m:Nat,m<n/\x=m/\o m<0:=by
 unfold jN aBy;have c:∀m,m<n->((List.range n).map o).getD m 0=o m:=fun m a=>by rw[W_,p_,F0 a];rfl
 simp only[A0,D1,C5,L_,F8,q_];constructor;.rintro⟨m,⟨a,b⟩,rfl⟩;rw[c m a]at b;exact⟨m,a,rfl,b⟩
 .rintro⟨m,a,rfl,b⟩;exact⟨m,⟨a,by rw[c m a];exact b⟩,rfl⟩
theorem aDv{r:Nat}{x:Int}:x∈nA r 32↔32<=x/\x<r:=by
 unfold nA;simp only[A0,List.mem_range'_1];constructor;.rintro⟨m,c,rfl⟩;omega
 .rintro⟨a,b⟩;exact⟨x.toNat,by omega,by omega⟩
theorem xN:∀(l σ:Ta_) (x:Int),x∈wH σ l↔x∈σ\/x∈l
 |[],σ,x=>by simp[wH]
 |n::l,σ,x=>by
  rw[wH,xN l];by_cases h:n∈σ
  .rw[K_ h,J_];constructor
   .rintro(a|a);.exact .inl a
    .exact .inr (.inr a)
   .rintro(a|rfl|a);.exact .inl a
    .exact .inl h
    .exact .inr a
  .rw[I_ h,a_,U_,J_,Z7]
theorem bEc:∀(l σ:Ta_),σ.Nodup->(wH σ l).Nodup
 |[],σ,h=>h
 |n::l,σ,h=>by
  rw[wH];refine bEc l _ ?_;split;.exact h
  .rename_i hn;rw[H9];exact⟨h,by simp,fun a d b c e=>hn (by rw[U_]at c;rw[<-c,<-e];exact d)⟩
theorem aVh{f:VF}{n:Nat}{o:Tg_}(b:∀m,m<32->o m=m){x:Int}(h:x∈zJ f.regs (jN n o)):32<=x/\x<f.regs:=by
 unfold zJ flp at h;obtain⟨a,e⟩:=D1.1 h;have d:x<f.regs:=by unfold pR at e;simp at e;omega
 refine⟨?_,d⟩;have c:x∈jN n o->32<=x:=fun g=>by
  obtain⟨m,_,rfl,h3⟩:=aJ1.1 g;by_cases h4:m<32;.rw[b m h4]at h3;omega
  .omega
 split at a
 .rcases a_.1 a with a|a;.exact c a
  .exact(aDv.1 a).1
 .exact c a
theorem aJ0.put{f:VF}{σ:Ta_}(h:aJ0 f σ){n:Nat}{o:Tg_}(a:∀m,m<32->o m=m):aJ0 f (wH σ (zJ f.regs (jN n o))):=by
 refine⟨fun x b=>?_,fun x b=>?_,bEc _ _ h.nd⟩
 .rcases(xN ..).1 b with h1|h1;.exact h.virt x h1
  .exact(aVh a h1).1
 .rcases(xN ..).1 b with h1|h1;.exact h.lt x h1
  .exact(aVh a h1).2
theorem aJ0.nil(f:VF):aJ0 f []:=⟨fun x a=>(by cases a),fun x a=>(by cases a),Y4⟩
theorem Reach.ok{f:VF}{σ:Ta_}(h:Reach f σ):aJ0 f σ:=by
 induction h with
 |nil=>exact .nil f
 |step _ _ hc _ ih=>exact ih.put hc.mach
theorem aJ0.len{f:VF}{σ:Ta_}(h:aJ0 f σ):σ.length<=f.regs-32:=by have:=xF σ (nA f.regs 32) h.nd fun x a=>aDv.2 ⟨h.virt x a,h.lt x a⟩;unfold nA at this;rw[L_,List.length_range']at this;exact this
theorem more{f:VF}(w:sP f){σ:Ta_}(h:aJ0 f σ){n:Nat}{o:Tg_}(Q:(n:Int)=rwR σ f.regs f.ins)(r:aDs (plC σ f.regs f.ins) n o)(N:jN n o≠[]):σ.length<(wH σ (zJ f.regs (jN n o))).length:=by
 have A:=xI w;have g:=bPp w;have P:=(qP w).1.1;have key:∃x,x∈zJ f.regs (jN n o)/\x∉σ:=by
  have u:∀m:Nat,m<n->o m<0->32<=m/\o m = -1:=fun m i a=>by
   by_cases h4:m<32;.rw[r.mach m h4]at a;omega
   .have:=r.virt m A_ i;omega
  cases ha:(jN n o).any (pR f.regs)with
  |true =>
   apply J7;intro C;have q:∀x:Int,32<=x->x<f.regs->x∈σ:=fun x v s=>by apply J7;intro k;refine C ⟨x,?_,k⟩;unfold zJ flp;rw[ha,K_ rfl];refine D1.2 ⟨G0 _ (aDv.2 ⟨v,s⟩),?_⟩;unfold pR;simp;omega
   obtain⟨x,k,G⟩:=E8.1 ha;obtain⟨m,i,rfl,a⟩:=aJ1.1 k;obtain⟨b,F⟩:=u m i a;unfold pR at G;have z:(f.regs:Int)<=(m:Int):=M9 G;have H:=r.spill m b i F;obtain⟨t,j,_⟩:=H 1 (O_ _) A_;obtain⟨c,e,l,D⟩:=aW7 A h.virt A_ g z j;obtain⟨Li,Lo,J,p2,p3,L⟩:=w.crd c l.1;exact aF0 A h.virt A_ g q l J p2 p3 L r.mach (fun d v s=>by rw[<-D];exact H d v s)
  |false =>
   obtain⟨x,k⟩:=List.exists_mem_of_ne_nil _ N;obtain⟨m,i,rfl,a⟩:=aJ1.1 k;obtain⟨b,F⟩:=u m i a;have p:=t_.1 ha _ k;unfold pR at p;simp at p;refine⟨m,?_,fun I=>?_⟩;.unfold zJ flp;rw[ha,I_ C_];refine D1.2 ⟨k,?_⟩;unfold pR;simp;omega
   .obtain⟨t,j,_⟩:=r.spill m b i F 1 (O_ _) A_;exact aW6 A h.virt A_ g I A_ j
 obtain⟨x,v,s⟩:=key;have:=xF (x::σ) (wH σ (zJ f.regs (jN n o))) (C8.2 ⟨s,h.nd⟩) fun y E=>by
  rcases J_.1 E with rfl|E;.exact(xN ..).2 (.inr v)
  .exact(xN ..).2 (.inl E)
 rw[List.length_cons]at this;omega
end Go.Proofs.YtehlgnfhkidgoaaGreatDoor
