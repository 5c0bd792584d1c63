/- Some texts of the proof, joined. Condition: none. -/
import Derived.Test.YtehlgnfhkidgoaaGreatDoorJb
import Derived.Test.YtehlgnfhkidgoaaGreatDoorJc
import Derived.Test.YtehlgnfhkidgoaaGreatDoorJd
import Derived.Test.YtehlgnfhkidgoaaGreatDoorJe
import Derived.Test.YtehlgnfhkidgoaaGreatDoorJg
set_option linter.unusedSectionVars false
set_option maxRecDepth 100000
set_option maxHeartbeats 64000000
set_option linter.unusedSimpArgs false
set_option linter.unusedVariables false
namespace Go.Proofs.YtehlgnfhkidgoaaGreatDoor
open Go Go.TM
structure Sk where
 s:List Int
 r:Int
 c:List VI
 o:List Int
structure Ax where
 j:Nat
 jm:Nat
 ji:Nat
 jf:Nat
def spB(a:Ax)(f:VF)(out:IV)(k:Sk):aG:=.cells 43 false [.iv (.int .i64 f.fn),.iv (.int .i64 f.regs),.iv (.int .i64 f.sl),.iv (.int .i64 f.nd),.iv (.int .i64 f.pr),.iv (.bool f.rs),.iv (.sl f.ti (f.ins.map aJ)),.iv (.int .i64 f.fn),.iv (.int .i64 k.r),.iv (.int .i64 f.sl),.iv (.int .i64 f.nd),.iv (.int .i64 f.pr),.iv (.bool f.rs),acc a.ji (k.c.map aJ),acc a.jf (aZ k.o),.map a.jm,.iv out]
def SlM(S:aA)(jm:Nat)(σ:List Int):Prop:=∃(l:List (Nat×Int×Int)) (c:Nat),S[jm]?=some (.mp (mpR kE l) c)/\(∀n,dI l n=(cC σ n).map fun i:Nat=>(i:Int))/\l.length=σ.length
structure SpS (S:aA) (a:Ax) (f:VF) (out:IV) (k:Sk):Prop where
 blk:S[a.j]?=some (spB a f out k)
 map:SlM S a.jm k.s
 ti:At 8 28 (k.c.map aJ) a.ji S
 tf:At 1 3 (aZ k.o) a.jf S
 ne:k.c≠[]->k.o≠[]->a.ji≠a.jf
 oc:nB out=true
structure KN (I:List Nat) (S S':aA):Prop where
 len:S.length<=S'.length
 get:∀q b,q∉I->(∀n w e,b≠.tok n w e)->S[q]?=some b->S'[q]?=some b
theorem KN.refl(I:Tc_)(S:aA):KN I S S:=⟨L_ _,fun _ _ _ _ h=>h⟩
theorem KN.trans{I:Tc_}{S S' S'':aA}(h:KN I S S')(g:KN I S' S''):KN I S S'':=⟨C0 h.len g.len,fun q b a c d=>g.get q b a c (h.get q b a c d)⟩
theorem KN.mono{I J:Tc_}{S S':aA}(h:KN I S S')(a:∀q∈I,q∈J):KN J S S':=⟨h.len,fun q b c d f=>h.get q b (fun e=>c (a q e)) d f⟩
theorem KN.app(I:Tc_)(S L:aA):KN I S (S++L):=⟨by simp,fun q b _ _ h=>aR h L⟩
theorem KN.set(j:Nat)(S:aA)(b:aG):KN [j] S (S.set j b):=⟨by simp,fun q c h _ a=>by rw[aB (fun e=>h (by simp[e]))];exact a⟩
theorem KN.get1{j:Nat}{S S':aA}(h:KN [j] S S'){q:Nat}{b:aG}(d:q≠j)(a:∀n w e,b≠.tok n w e)(c:S[q]?=some b):S'[q]?=some b:=h.get q b (by simpa using d) a c
theorem KN.grow{w el:Nat}{l:M_}{i:Nat}{S:aA}(I:Tc_)(h:At w el l i S):KN I S (gS1 w el l i S):=⟨by unfold gS1;split<;>simp,fun q b _ a c=>nV h c a⟩
theorem mV{S:aA}{i q w el:Nat}{n:Nat}{b:aG}(h:S[i]?=some (.tok n w el))(a:S[q]?=some b)(c:∀n w e,b≠.tok n w e):i≠q:=by rintro rfl;rw[h]at a;exact c _ _ _ (D9 a).symm
theorem SlM.keep{S S':aA}{jm j:Nat}{σ:Ta_}(h:SlM S jm σ)(k:KN [j] S S')(d:jm≠j):SlM S' jm σ:=by obtain⟨l,c,a,b⟩:=h;exact⟨l,c,k.get1 d B_ a,b⟩
theorem SpS.jne{S:aA}{a:Ax}{f:VF}{out:IV}{k:Sk}(h:SpS S a f out k):a.jm≠a.j:=by intro e;obtain⟨l,c,b,_⟩:=h.map;have:=h.blk;rw[<-e,b]at this;unfold spB at this;simp at this
def Sk.fresh(k:Sk):Sk:=⟨k.s,k.r+1,k.c,k.o⟩
theorem bD3{S:aA}{a:Ax}{f:VF}{out:IV}{k:Sk}(h:SpS S a f out k)(i:0<=k.r/\k.r<=1000000):(lim K).call 59 [.ptr a.j 43 0] S=.ret (j_ k.r,S.set a.j (spB a f out k.fresh))/\SpS (S.set a.j (spB a f out k.fresh)) a f out k.fresh:=by
 have d:=h.blk;have e:=aN d;have g:=fun b=>aM e b;refine⟨?_,aM e _,h.map.keep (KN.set a.j S _) h.jne,fun c=>?_,fun c=>?_,h.ne,h.oc⟩
 .unfold spB Sk.fresh at *
  refine aI K _ (fn:=t59) rfl rfl ?_;simp(disch:=omega)only[t59,go_sem,d,g,aC,Int.add_sub_cancel]
 .rw[aB (B0 (mV (h.ti c) d (by simp[spB])))];exact h.ti c
 .rw[aB (B0 (mV (h.tf c) d (by simp[spB])))];exact h.tf c
theorem qF(x:VI):(aJ x).length=8/\(aJ x).all nB=true:=⟨rfl,rfl⟩
theorem aJz(l:List VI):jL 8 (l.map aJ):=fun y a=>by
 obtain⟨x,_,rfl⟩:=r_.1 a
 exact qF x
def Sk.add(k:Sk)(x:VI)(i:Int):Sk:=⟨k.s,k.r,k.c++[x],k.o++[i]⟩
theorem aQi{S:aA}{a:Ax}{f:VF}{out:IV}{k:Sk}(h:SpS S a f out k)(U:k.c.length<=1000000)(T:k.o.length<=1000000)(x:VI)(i:Int): ∃S' G,(lim K).call 60 [.ptr a.j 43 0,.iv (.agg (aJ x)),j_ i] S=.ret (u_,S')/\SpS S' G f out (k.add x i)/\KN [a.j] S S'/\G.j=a.j/\G.jm=a.jm:=by
 have J:=h.blk;have Q:(k.c.map aJ).length=k.c.length:=P_ _;have C:=bCk (b:=96) (t:=.full) h.ti (qF x) (aJz _) (bR (by rw[Q];omega));have N:=KN.grow [a.j] h.ti;have A:=nV h.ti J (by simp[spB]);have D:=aC7 h.ti (aJ x);have v:At 1 3 (aZ k.o) a.jf (gS1 8 28 (k.c.map aJ) a.ji S):=fun d=>by
  have I:=h.tf d;unfold gS1;by_cases hc0:k.c.map aJ=[]
  .rw[K_ hc0];exact aR I _
  .rw[I_ hc0,aB (h.ne (fun e=>hc0 (by rw[e];rfl)) (fun e=>d (by rw[e];rfl)))];exact I
 generalize hS1:gS1 8 28 (k.c.map aJ) a.ji S=S1 at *
 generalize hji:gI (k.c.map aJ) a.ji S=ji at *
 have p:=aN A;generalize hB1:(spB ⟨a.j,a.jm,ji,a.jf⟩ f out ⟨k.s,k.r,k.c++[x],k.o⟩)=B1 at *
 have H:∀n w e,B1≠.tok n w e:=by rw[<-hB1];simp[spB]
 have b2:(S1.set a.j B1)[a.j]?=some B1:=aM p _;have m:At 1 3 (aZ k.o) a.jf (S1.set a.j B1):=fun d=>by rw[aB (B0 (mV (v d) A (by simp[spB])))];exact v d
 have u:At 8 28 ((k.c++[x]).map aJ) ji (S1.set a.j B1):=by rw[D0];intro d;have:=D d;rw[aB (B0 (mV this A (by simp[spB])))];exact this
 have y:=bCk (b:=8) (t:=.full) (c:=[.int .i64 i]) m ⟨rfl,rfl⟩ (nF _) (bR (by rw[eG];omega));have b3:=nV m b2 H;have P:=KN.grow [a.j] m;have q:=aC7 m [.int .i64 i];rw[bBx]at y q;have l:ji≠gI (aZ k.o) a.jf (S1.set a.j B1):=by
  have g:=u B_;unfold gI;split;.have:=aN g;omega
  .rename_i d;rw[<-hji];unfold gI;split;.rename_i hc0;have I:=aN (h.tf d);omega
   .rename_i hc0;exact h.ne (fun e=>hc0 (by rw[e];rfl)) (fun e=>d (by rw[e];rfl))
 have E:At 8 28 ((k.c++[x]).map aJ) ji (gS1 1 3 (aZ k.o) a.jf (S1.set a.j B1)):=fun d=>by
  have g:=u d;unfold gI at l;unfold gS1;split;.exact aR g _
  .rename_i ho0;rw[I_ ho0]at l;rw[aB (B0 l)];exact g
 generalize hS3:gS1 1 3 (aZ k.o) a.jf (S1.set a.j B1)=S3 at *
 generalize hjf:gI (aZ k.o) a.jf (S1.set a.j B1)=jf at *
 have z:=aN b3;have L:KN [a.j] S (S3.set a.j (spB ⟨a.j,a.jm,ji,jf⟩ f out (k.add x i))):=(N.trans (KN.set a.j S1 B1)).trans (P.trans (KN.set a.j S3 _));refine⟨S3.set a.j (spB ⟨a.j,a.jm,ji,jf⟩ f out (k.add x i)),⟨a.j,a.jm,ji,jf⟩,?_,⟨aM z _,h.map.keep L h.jne,fun d=>?_,fun d=>?_,fun _ _=>l,h.oc⟩,L,rfl,rfl⟩
 .have F:(k.c++[x]).map aJ=k.c.map aJ++[aJ x]:=by rw[D0];rfl
  unfold spB Sk.add at *
  dsimp only at *
  rw[F]at hB1 |-;subst hB1;rw[dH]at *
  generalize k.c.map aJ=Cs at *
  generalize aZ (k.o++[i])=Os at *
  generalize aZ k.o=O0 at *
  have R:=fun b=>aM p b;refine aI K _ (fn:=t60) rfl rfl ?_;simp(disch:=omega)only[t60,go_sem,J,C,A,b2,y,b3]
 .have:=E d;rw[aB (B0 (mV this b3 H))];exact this
 .have:=q (by simp[aZ,TM.one]);rw[aB (B0 (mV this b3 H))];exact this
theorem SpS.setO{S:aA}{a:Ax}{f:VF}{out:IV}{k:Sk}(h:SpS S a f out k){q:Nat}{b:aG}(m:S[q]?=some b)(i:∀n w e,b≠.tok n w e)(r:q≠a.j)(s:q≠a.jm)(c:aG):SpS (S.set q c) a f out k:=by
 obtain⟨l,d,p,o⟩:=h.map;refine⟨by rw[aB r];exact h.blk,⟨l,d,by rw[aB s];exact p,o⟩,fun g=>?_,fun g=>?_,h.ne,h.oc⟩;.rw[aB (B0 (mV (h.ti g) m i))];exact h.ti g
 .rw[aB (B0 (mV (h.tf g) m i))];exact h.tf g
structure On (S:aA) (n:Nat) (a:Ax) (f:VF) (out:IV) (k:Sk) (i:Int) (ld:Int->Option Int) (st ad:Int):Prop where
 sp:SpS S a f out k
 bs:S[n]?=some (.cells 40 false [.ptr a.j 43 0])
 bf:S[n+1]?=some (.cells 4 false [.iv (.int .i64 i)])
 lm:∃(l:List (Nat×Int×Int)) (c:Nat),S[n+2]?=some (.mp (mpR kE l) c)/\∀m,dI l m=ld m
 bl:S[n+3]?=some (.cells 41 false [.map (n+2)])
 bt:S[n+4]?=some (.cells 4 false [.iv (.int .i64 st)])
 ba:S[n+5]?=some (.cells 80 false [.iv (.int .i64 ad)])
 lt:a.j<n/\a.jm<n
theorem On.keep{S S':aA}{n:Nat}{a d:Ax}{f:VF}{out:IV}{k k':Sk}{i:Int}{e:Int->Option Int}{st g:Int}(h:On S n a f out k i e st g)(b:KN [a.j] S S')(o:SpS S' d f out k')(m:d.j=a.j)(r:d.jm=a.jm):On S' n d f out k' i e st g:=by have p:=h.lt;obtain⟨l,c,s,q⟩:=h.lm;exact⟨o,by rw[m];exact b.get1 A_ B_ h.bs,b.get1 A_ B_ h.bf,⟨l,c,b.get1 A_ B_ s,q⟩,b.get1 A_ B_ h.bl,b.get1 A_ B_ h.bt,b.get1 A_ B_ h.ba,by rw[m,r];exact p⟩
theorem xS{l:Td_}{c:Nat}{m:Int}(h:dI l m=none):lkB (.leaf .int) (.agg [.int .i64 0]) true (some (.mp (mpR kE l) c)) (j_ m)=some (.tup [.iv (.agg [.int .i64 0]),z_]):=by rw[aAo,h];rfl
theorem uW{l:Td_}{c:Nat}{m v:Int}(h:dI l m=some v):lkB (.leaf .int) (.agg [.int .i64 0]) true (some (.mp (mpR kE l) c)) (j_ m)=some (.tup [.iv (.agg [.int .i64 v]),e_]):=by rw[aAo,h];rfl
section
variable {S:aA}{n:Nat}{a:Ax}{f:VF}{out:IV}{k:Sk}{i:Int}{ld:Int->Option Int}{st ad:Int}(h:On S n a f out k i ld st ad)
include h
theorem aDv{m:Int}(e:cC k.s m=none):(lim K).call 58 [j_ m,.ptr n 40 0,.ptr (n+3) 41 0,.ptr (n+1) 4 0] S=.ret (j_ m,S):=by have b:=h.bs;have a:=h.sp.blk;obtain⟨l,c,g,f,_⟩:=h.sp.map;have d:=xS (c:=c) (l:=l) (m:=m) (by rw[f,e];rfl);unfold spB at a;refine aI K _ (fn:=t58) rfl rfl ?_;simp(disch:=omega)only[t58,go_sem,b,a,g,d]
theorem bLy{m:Int}{q:Nat}{r:Int}(b:cC k.s m=some q)(e:ld m=some r):(lim K).call 58 [j_ m,.ptr n 40 0,.ptr (n+3) 41 0,.ptr (n+1) 4 0] S=.ret (j_ r,S):=by have f:=h.bs;have a:=h.sp.blk;have o:=h.bl;obtain⟨l,c,p,i,_⟩:=h.sp.map;obtain⟨l',c',d,j⟩:=h.lm;have g:=uW (c:=c) (l:=l) (m:=m) (v:=(q:Int)) (by rw[i,b];rfl);have e2:=uW (c:=c') (l:=l') (m:=m) (v:=r) (by rw[j,e]);unfold spB at a;refine aI K _ (fn:=t58) rfl rfl ?_;simp(disch:=omega)only[t58,go_sem,f,a,p,g,o,d,e2]
theorem aU7{m:Int}{q:Nat}(hm:cC k.s m=some q)(Z:ld m=none)(hk:0<=k.r/\k.r<=1000000)(hc:k.c.length<=1000000)(Y:k.o.length<=1000000): ∃S' u,(lim K).call 58 [j_ m,.ptr n 40 0,.ptr (n+3) 41 0,.ptr (n+1) 4 0] S=.ret (j_ k.r,S')/\On S' n u f out (k.fresh.add (ldI k.r q) i) i (fun x=>if m=x then some k.r else ld x) st ad/\KN [a.j,n+2] S S'/\u.j=a.j/\u.jm=a.jm:=by
 have hl:=h.lt;have C:=h.bs;have z:=h.sp.blk;have h5:=h.bl;have h8:=h.bf;obtain⟨l,c,J,h4,_⟩:=h.sp.map;obtain⟨l',c',L,P⟩:=h.lm;have e1:=uW (c:=c) (l:=l) (m:=m) (v:=(q:Int)) (by rw[h4,hm];rfl);have e2:=xS (c:=c') (l:=l') (m:=m) (by rw[P,Z]);obtain⟨D,T⟩:=bD3 h.sp hk;have E:KN [a.j] S (S.set a.j (spB a f out k.fresh)):=KN.set a.j S _;generalize hS1:S.set a.j (spB a f out k.fresh)=S1 at *
 have t:=h.keep E T rfl rfl;have Q:=t.bs;have R:=t.bl;have F:=E.get1 (q:=n+2) A_ B_ L;have g4:=t.bf;have s2:=T.setO F B_ A_ A_ (.mp (mpR kE (gT l' c' m k.r)) (rV l' c' m));have A:=aN F;have d:=fun(q:Nat) (H:q≠n+2)=>aB (S:=S1) (B0 H) (.mp (mpR kE (gT l' c' m k.r)) (rV l' c' m));have N:=(d n A_).trans Q;have f3:=(d (n+3) A_).trans R;have U:=(d (n+1) A_).trans g4;have f5:=(d (n+4) A_).trans t.bt;have W:=(d (n+5) A_).trans t.ba;have f2:=aM A (.mp (mpR kE (gT l' c' m k.r)) (rV l' c' m));generalize hS2:S1.set (n+2) (.mp (mpR kE (gT l' c' m k.r)) (rV l' c' m))=S2 at *
 obtain⟨S3,u,y,s3,V,G,p⟩:=aQi s2 hc Y (ldI k.r q) i;have kk:KN [a.j,n+2] S S3:=by
  refine((E.mono B_).trans ⟨?_,fun q b H hb I=>?_⟩).trans (V.mono B_);.rw[<-hS2];simp
  .rw[<-hS2,aB (fun e=>H (by simp[<-e]))];exact I
 have g:∀(q:Nat) (b:aG),q≠a.j->(∀n w e,b≠.tok n w e)->S2[q]?=some b->S3[q]?=some b:=fun q b C z J=>V.get1 C z J;refine⟨S3,u,?_,⟨s3,by rw[G];exact g _ _ A_ B_ N,g _ _ A_ B_ U,⟨_,_,g _ _ A_ B_ f2,fun x=>?_⟩,g _ _ A_ B_ f3,g _ _ A_ B_ f5,g _ _ A_ B_ W,by rw[G,p];exact hl⟩,kk,G,p⟩
 .unfold spB at z;rw[show aJ (ldI k.r q)=[.int .i64 73,.int .i64 k.r,.int .i64 0,.int .i64 0,.int .i64 q,.int .i64 0,.sl .nil [],.sl .nil []] from rfl]at y;have up:∀env:Env,upB (.leaf .int) env S1 (n+2) (some (.mp (mpR kE l') c')) (j_ m) (.iv (.agg [.int .i64 k.r]))=some (TM.undef,env,S2):=fun env=>by rw[aCw,hS2]
  refine aI K _ (fn:=t58) rfl rfl ?_;simp(disch:=omega)only[t58,go_sem,C,z,J,e1,h5,L,e2,D,Q,F,R,up,N,U,y]
 .rw[qS,P]
theorem bD4{m:Int}(e:cC k.s m=none):(lim K).call 61 [j_ m,.ptr n 40 0,.ptr (n+4) 4 0,.ptr (n+5) 80 0] S=.ret (j_ m,S):=by have b:=h.bs;have a:=h.sp.blk;obtain⟨l,c,g,f,_⟩:=h.sp.map;have d:=xS (c:=c) (l:=l) (m:=m) (by rw[f,e];rfl);unfold spB at a;refine aI K _ (fn:=t61) rfl rfl ?_;simp(disch:=omega)only[t61,go_sem,b,a,g,d]
theorem bLz{m:Int}{q:Nat}(G:cC k.s m=some q)(T:0<=k.r/\k.r<=1000000): ∃S',(lim K).call 61 [j_ m,.ptr n 40 0,.ptr (n+4) 4 0,.ptr (n+5) 80 0] S=.ret (j_ k.r,S')/\On S' n a f out k.fresh i ld k.r q/\KN [a.j,n+4,n+5] S S':=by
 have J:=h.lt;have w:=h.bs;have o:=h.sp.blk;obtain⟨l,c,z,R,_⟩:=h.sp.map;have L:=uW (c:=c) (l:=l) (m:=m) (v:=(q:Int)) (by rw[R,G];rfl);obtain⟨y,C⟩:=bD3 h.sp T;have F:KN [a.j] S (S.set a.j (spB a f out k.fresh)):=KN.set a.j S _;generalize hS1:S.set a.j (spB a f out k.fresh)=S1 at *
 have d:=h.keep F C rfl rfl;have E:=d.bs;have A:=d.bt;have t:=d.ba;have Q:=C.setO A B_ A_ A_ (.cells 4 false [j_ k.r]);have e:=(aB (S:=S1) (show n+4≠n+5 by omega) (.cells 4 false [j_ k.r])).trans t;have N:=Q.setO e B_ A_ A_ (.cells 80 false [j_ (q:Int)]);have p:∀x b,x≠n+4->x≠n+5->S1[x]?=some b->((S1.set (n+4) (.cells 4 false [j_ k.r])).set (n+5) (.cells 80 false [j_ (q:Int)]))[x]?=some b:=fun x b w o z=>by rw[aB (B0 o),aB (B0 w)];exact z
 have D:((S1.set (n+4) (.cells 4 false [j_ k.r])).set (n+5) (.cells 80 false [j_ (q:Int)]))[n+4]?=some (.cells 4 false [j_ k.r]):=by rw[aB A_,aM (aN A)]
 have I:((S1.set (n+4) (.cells 4 false [j_ k.r])).set (n+5) (.cells 80 false [j_ (q:Int)]))[n+5]?=some (.cells 80 false [j_ (q:Int)]):=aM (by have:=aN t;simpa using this) _;obtain⟨l',c',P,H⟩:=d.lm;refine⟨_,?_,⟨N,p _ _ A_ A_ E,p _ _ A_ A_ d.bf,⟨l',c',p _ _ A_ A_ P,H⟩,p _ _ A_ A_ d.bl,D,I,J⟩,⟨by rw[<-hS1];simp,fun x b g U u=>?_⟩⟩;.unfold spB at o;refine aI K _ (fn:=t61) rfl rfl ?_;simp(disch:=omega)only[t61,go_sem,w,o,z,L,y,E,A,t,e,D]
 .simp only[J_,D1,H2,G6]at g;rw[aB (B0 g.2.2),aB (B0 g.2.1),<-hS1,aB (B0 g.1)];exact u
end
theorem aU8{t:Tag}{C:Ta_}(w:C.length<=9000000)(m:Int)(S:aA)(x2:TV):∀(k i:Nat) (d x6 x7:TV),i+k=C.length->(∀x∈C.take i,x≠m) ->∃(c:aV) (g p r s n:TV),lp' (lim K) t74L0 [.iv (.sl t (TM.one (.int .i64) C)),j_ m,x2,d,j_ C.length,j_ i,x6,x7] S = .ret (c,[.iv (.sl t (TM.one (.int .i64) C)),j_ m,g,p,j_ C.length,r,s,n],S) /\(c=.exit 0/\m∉C\/c=.ret/\m∈C/\∃q:Nat,g=j_ q)
 |0,i,d,x6,x7,hk,hq=>by obtain rfl:i=C.length:=A_;rw[C5]at hq;refine⟨.exit 0,x2,d,j_ C.length,z_,x7,aE K _ _ t74L0.eq_1 ?_,.inl ⟨rfl,fun h=>hq m h rfl⟩⟩;simp(disch:=omega)only[go_sem]
 |k+1,i,d,x6,x7,hk,hq=>by
  have b:i<C.length:=A_;have u:=pO (f:=IV.int .i64) (t:=t) (l:=C) (i:=(i:Int)) A_;rw[Int.toNat_natCast]at u;have o:=iV b;by_cases hd:m=C.getD i 0;.refine⟨.ret,j_ i,j_ i,j_ i,e_,e_,aE K _ _ t74L0.eq_1 ?_,.inr ⟨rfl,by rw[hd];exact nY b,i,rfl⟩⟩;have a:m=C.getD i default:=hd;simp(disch:=omega)only[go_sem,u,<-a]
  .obtain⟨c,g,p,r,s,n,v,y⟩:=aU8 (t:=t) w m S x2 k (i+1) (j_ i) e_ z_ A_ (fun x j=>by
    rw[o,U_,S_]at j;rcases j with j|rfl;.exact hq x j
    .exact fun e=>hd e.symm)
   rw[show((i+1:Nat):Int)=(i:Int)+1 by omega]at v;refine⟨c,g,p,r,s,n,aE K _ _ t74L0.eq_1 ?_,y⟩;have a:¬m=C.getD i default:=hd;simp(disch:=omega)only[go_sem,u,a,aC];exact X_ er v
theorem aQj(t:Tag)(C:Ta_)(d:C.length<=9000000)(m:Int):TM.Pure K 45 [.iv (.sl t (TM.one (.int .i64) C)),j_ m] (.iv (.bool (decide (m∈C)))):=by
 obtain⟨h,i,j,f,g,e,c,b⟩:=aU8 (t:=t) d m [] (j_ 0) C.length 0 u_ u_ u_ A_ B_;rw[n0_]at c;rcases b with⟨rfl,b⟩|⟨rfl,b,q,rfl⟩
 .rw[Z_ b];have a:TM.Pure K 74 [.iv (.sl t (TM.one (.int .i64) C)),j_ m] (j_ (-1)):=by refine aT t74 rfl rfl ?_;simp(disch:=omega)only[t74,go_sem];rw[c];simp(disch:=omega)only[go_sem]
  refine aT t45 rfl rfl ?_;simp(disch:=omega)only[t45,go_sem,aD a]
 .rw[V_ b];have a:TM.Pure K 74 [.iv (.sl t (TM.one (.int .i64) C)),j_ m] (j_ q):=by refine aT t74 rfl rfl ?_;simp(disch:=omega)only[t74,go_sem];rw[c];simp(disch:=omega)only[go_sem]
  refine aT t45 rfl rfl ?_;simp(disch:=omega)only[t45,go_sem,aD a]
def oE(fu:Nat)(cu:List TV)(us:List Int)(a ra:Int)(S S':aA):Prop:=if a∈us then(lim K).call fu (.iv (.int .i64 a)::cu) S=.ret (.iv (.int .i64 ra),S')else ra=low a/\S'=S
theorem bUk{fu:Nat}{cu:Tn_}(f:cu.all kQ=false)(g:cu.any bY=false){us:Ta_}(e:us.length<=9000000){tt:Tag}{q j:Int}{S S':aA}(h:oE fu cu us q j S S')(m:List TM.Fr)(x0 x2 x4 x6 x7 x8 x9 x10 x11 x12 x13 x14 x15 x16 c d c0 l k i o p n:TV): go' K (lim K) (.block 2 (.seq (.region [⟨.mov (.loc 5),none,none⟩,⟨.fieldAddr 2 (.loc 3),none,none⟩,⟨.load1 (.reg 1),none,none⟩,⟨.call true false 45 [(.reg 0),(.reg 2)],none,none⟩,⟨.mov (.reg 3),(some 13),none⟩]) (.cond (.loc 13) (.region [⟨.mov (.loc 1),none,none⟩,⟨.fieldAddr 2 (.loc 3),none,none⟩,⟨.load1 (.reg 1),none,none⟩,⟨.callv (.reg 0) [(.reg 2)],none,none⟩,⟨.fieldAddr 2 (.loc 3),none,none⟩,⟨.store 1 (.reg 4) (.reg 3),none,none⟩]) (.seq (.region [⟨.fieldAddr 2 (.loc 3),none,none⟩,⟨.load1 (.reg 0),none,none⟩,⟨.call true false 23 [(.reg 1)],none,none⟩,⟨.mov (.reg 2),(some 14),none⟩]) (.cond (.loc 14) (.region [⟨.fieldAddr 2 (.loc 3),none,none⟩,⟨.store 1 (.reg 0) (.cst (.int .i64 0)),none,none⟩]) .skip))))) m [x0,.fn fu [] cu,x2,.lb [c0,l,j_ q,k,i,o,p,n],x4,.iv (.sl tt (TM.one (.int .i64) us)),x6,x7,x8,x9,x10,x11,x12,x13,x14,x15,x16,c,d] S=bk' K (lim K) m .normal [x0,.fn fu [] cu,x2,.lb [c0,l,j_ j,k,i,o,p,n],x4,.iv (.sl tt (TM.one (.int .i64) us)),x6,x7,x8,x9,x10,x11,x12,.iv (.bool (decide (q∈us))),(if q∈us then x14 else .iv (.bool (decide (32<=q)))),x15,x16,c,d] S':=by
 have a:=aQj tt us e q;have b:=wJ q;unfold oE at h;by_cases hm:q∈us;.rw[K_ hm]at h |-;rw[V_ hm]at a |-;simp(disch:=omega)only[go_sem,aD a,f,g,h]
 .rw[I_ hm]at h |-;obtain⟨rfl,rfl⟩:=h;rw[Z_ hm]at a |-;unfold low;by_cases h32:32<=q;.rw[V_ h32]at b |-;rw[K_ h32];simp(disch:=omega)only[go_sem,aD a,aD b]
  .rw[Z_ h32]at b |-;rw[I_ h32];simp(disch:=omega)only[go_sem,aD a,aD b]
theorem bUl{fu:Nat}{cu:Tn_}(f:cu.all kQ=false)(g:cu.any bY=false){us:Ta_}(e:us.length<=9000000){tt:Tag}{q j:Int}{S S':aA}(h:oE fu cu us q j S S')(l:List TM.Fr)(x0 x2 x4 x6 x7 x8 x9 x10 x11 x12 x13 x14 x15 x16 c d c0 k n i o p m:TV): go' K (lim K) (.block 3 (.seq (.region [⟨.mov (.loc 5),none,none⟩,⟨.fieldAddr 3 (.loc 3),none,none⟩,⟨.load1 (.reg 1),none,none⟩,⟨.call true false 45 [(.reg 0),(.reg 2)],none,none⟩,⟨.mov (.reg 3),(some 15),none⟩]) (.cond (.loc 15) (.region [⟨.mov (.loc 1),none,none⟩,⟨.fieldAddr 3 (.loc 3),none,none⟩,⟨.load1 (.reg 1),none,none⟩,⟨.callv (.reg 0) [(.reg 2)],none,none⟩,⟨.fieldAddr 3 (.loc 3),none,none⟩,⟨.store 1 (.reg 4) (.reg 3),none,none⟩]) (.seq (.region [⟨.fieldAddr 3 (.loc 3),none,none⟩,⟨.load1 (.reg 0),none,none⟩,⟨.call true false 23 [(.reg 1)],none,none⟩,⟨.mov (.reg 2),(some 16),none⟩]) (.cond (.loc 16) (.region [⟨.fieldAddr 3 (.loc 3),none,none⟩,⟨.store 1 (.reg 0) (.cst (.int .i64 0)),none,none⟩]) .skip))))) l [x0,.fn fu [] cu,x2,.lb [c0,k,n,j_ q,i,o,p,m],x4,.iv (.sl tt (TM.one (.int .i64) us)),x6,x7,x8,x9,x10,x11,x12,x13,x14,x15,x16,c,d] S=bk' K (lim K) l .normal [x0,.fn fu [] cu,x2,.lb [c0,k,n,j_ j,i,o,p,m],x4,.iv (.sl tt (TM.one (.int .i64) us)),x6,x7,x8,x9,x10,x11,x12,x13,x14,.iv (.bool (decide (q∈us))),(if q∈us then x16 else .iv (.bool (decide (32<=q)))),c,d] S':=by
 have a:=aQj tt us e q;have b:=wJ q;unfold oE at h;by_cases hm:q∈us;.rw[K_ hm]at h |-;rw[V_ hm]at a |-;simp(disch:=omega)only[go_sem,aD a,f,g,h]
 .rw[I_ hm]at h |-;obtain⟨rfl,rfl⟩:=h;rw[Z_ hm]at a |-;unfold low;by_cases h32:32<=q;.rw[V_ h32]at b |-;rw[K_ h32];simp(disch:=omega)only[go_sem,aD a,aD b]
  .rw[Z_ h32]at b |-;rw[I_ h32];simp(disch:=omega)only[go_sem,aD a,aD b]
theorem bUm{fu:Nat}{cu:Tn_}(e:cu.all kQ=false)(g:cu.any bY=false){us:Ta_}(d:us.length<=9000000){tt:Tag}{q j:Int}{S S':aA}(h:oE fu cu us q j S S')(m:List TM.Fr)(x0 k x4 x5 x7 x8 x9 x10 x11 x12 x13 x14 x15 x16 f c c0 o l i p r n:TV): go' K (lim K) (.block 4 (.seq (.region [⟨.mov (.loc 6),none,none⟩,⟨.fieldAddr 1 (.loc 3),none,none⟩,⟨.load1 (.reg 1),none,none⟩,⟨.call true false 45 [(.reg 0),(.reg 2)],none,none⟩,⟨.mov (.reg 3),(some 17),none⟩]) (.cond (.loc 17) (.region [⟨.mov (.loc 2),none,none⟩,⟨.fieldAddr 1 (.loc 3),none,none⟩,⟨.load1 (.reg 1),none,none⟩,⟨.callv (.reg 0) [(.reg 2)],none,none⟩,⟨.fieldAddr 1 (.loc 3),none,none⟩,⟨.store 1 (.reg 4) (.reg 3),none,none⟩]) (.seq (.region [⟨.fieldAddr 1 (.loc 3),none,none⟩,⟨.load1 (.reg 0),none,none⟩,⟨.call true false 23 [(.reg 1)],none,none⟩,⟨.mov (.reg 2),(some 18),none⟩]) (.cond (.loc 18) (.region [⟨.fieldAddr 1 (.loc 3),none,none⟩,⟨.store 1 (.reg 0) (.cst (.int .i64 0)),none,none⟩]) .skip))))) m [x0,k,.fn fu [] cu,.lb [c0,j_ q,o,l,i,p,r,n],x4,x5,.iv (.sl tt (TM.one (.int .i64) us)),x7,x8,x9,x10,x11,x12,x13,x14,x15,x16,f,c] S=bk' K (lim K) m .normal [x0,k,.fn fu [] cu,.lb [c0,j_ j,o,l,i,p,r,n],x4,x5,.iv (.sl tt (TM.one (.int .i64) us)),x7,x8,x9,x10,x11,x12,x13,x14,x15,x16,.iv (.bool (decide (q∈us))),(if q∈us then c else .iv (.bool (decide (32<=q))))] S':=by
 have a:=aQj tt us d q;have b:=wJ q;unfold oE at h;by_cases hm:q∈us;.rw[K_ hm]at h |-;rw[V_ hm]at a |-;simp(disch:=omega)only[go_sem,aD a,e,g,h]
 .rw[I_ hm]at h |-;obtain⟨rfl,rfl⟩:=h;rw[Z_ hm]at a |-;unfold low;by_cases h32:32<=q;.rw[V_ h32]at b |-;rw[K_ h32];simp(disch:=omega)only[go_sem,aD a,aD b]
  .rw[Z_ h32]at b |-;rw[I_ h32];simp(disch:=omega)only[go_sem,aD a,aD b]
theorem bL0(t:Tag)(l:Ta_)(b:cY t l)(a:l.length<=1000000)(S:aA): (l=[]/\(lim K).call 44 [.iv (.sl t (TM.one (.int .i64) l))] S=.ret (.iv (.sl (zI t l) []),S)) \/(l≠[]/\(lim K).call 44 [.iv (.sl t (TM.one (.int .i64) l))] S=.ret (.msl S.length 0 0 l.length l.length 1,S++[.cells 0 true (l.map vI)])):=by
 rcases aP0 t l b a S with⟨rfl,_⟩|h
 .refine .inl ⟨rfl,?_⟩;rw[qU];unfold zI;rw[K_ rfl];refine aI K S (fn:=t44) rfl rfl ?_;cases t with
  |nil=>simp(disch:=omega)only[t44,go_sem,aTv]
  |full =>rw[I_ C_];simp(disch:=omega)only[t44,go_sem,aTw,aIv]
  |no =>rw[I_ C_];simp(disch:=omega)only[t44,go_sem,aTx,aIv]
 .exact .inr h
theorem map_take{g:Int->Int}{us:Ta_}{i:Nat}(h:i<us.length):((us.take i).map g++us.drop i).set i (g (us.getD i 0))=(us.take (i+1)).map g++us.drop (i+1):=by
 have a:((us.take i).map g).length=i:=by simp;omega
 rw[E1 _ _ A_,a,M3,sU h,List.set_cons_zero,iV h,D0,List.map_singleton,A8];rfl
theorem bD5{g:Int->Int}{us:Ta_}{i:Nat}(h:i<us.length):((us.take i).map g++us.drop i).getD i 0=us.getD i 0:=by
 have a:((us.take i).map g).length=i:=by simp;omega
 simp only[List.getD,t_ (show((us.take i).map g).length<=i by omega),a,M3,F9,Nat.add_zero]
theorem bD6{fu:Nat}{cu:Tn_}(e:cu.all kQ=false)(h:cu.any bY=false){us:Ta_}(p:us.length<=1000000){g:Int->Int}{q:Nat}{S:aA}(A:q<S.length)(E:∀(B:aG) (u:Int),u∈us->(lim K).call fu (j_ u::cu) (S.set q B)=.ret (j_ (g u),S.set q B)) (x0 x2 x4 x5 x6 x13 x14 x15 x16 b d c0 s x r o z t:TV):∀(k i:Nat) (x7 x8 x12:TV),i+k=us.length ->∃n w c,lp' (lim K) t17L0 [x0,.fn fu [] cu,x2,.lb [c0,s,x,r,o,z,.msl q 0 0 us.length us.length 1,t],x4,x5,x6,x7,x8,.msl q 0 0 us.length us.length 1,j_ us.length,j_ i,x12,x13,x14,x15,x16,b,d] (S.set q (.cells 0 true (((us.take i).map g++us.drop i).map vI))) = .ret (.exit 0,[x0,.fn fu [] cu,x2,.lb [c0,s,x,r,o,z,.msl q 0 0 us.length us.length 1,t],x4,x5,x6,n,w,.msl q 0 0 us.length us.length 1,j_ us.length,j_ us.length,c,x13,x14,x15,x16,b,d],S.set q (.cells 0 true ((us.map g).map vI)))
 |0,i,x7,x8,x12,hk=>by obtain rfl:i=us.length:=A_;rw[C5,D7,A0];refine⟨x7,x8,z_,aE K _ _ t17L0.eq_1 ?_⟩;simp(disch:=omega)only[go_sem]
 |k+1,i,x7,x8,x12,hk=>by
  have a:i<us.length:=A_;have f:((us.take i).map g++us.drop i).length=us.length:=by simp;omega
  have H:=jK (j:=q) (v:=0) (cap:=us.length) a;have l:=pE (C:=(us.take i).map g++us.drop i) (J:=[]) (i:=i) A_;have m:=aIo (C:=(us.take i).map g++us.drop i) (J:=[]) (i:=i) (g (us.getD i 0)) A_;rw[bD5 a]at l;rw[map_take a]at m;simp only[A0]at l m;have F:=E (.cells 0 true (((us.take i).map g++us.drop i).map vI)) (us.getD i 0) (nY a);have I:=aM A (.cells 0 true (((us.take i).map g++us.drop i).map vI));have G:∀B,(S.set q (.cells 0 true (((us.take i).map g++us.drop i).map vI))).set q B=S.set q B:=fun B=>H1 ..;have y:i+1<=(((us.take i).map g++us.drop i).map vI).length:=by rw[P_,f];omega
  obtain⟨n,w,c,D⟩:=bD6 e h p A E x0 x2 x4 x5 x6 x13 x14 x15 x16 b d c0 s x r o z t k (i+1) (j_ i) (j_ (us.getD i 0)) e_ A_;rw[show((i+1:Nat):Int)=(i:Int)+1 by omega]at D;simp only[vI]at m l;refine⟨n,w,c,aE K _ _ t17L0.eq_1 ?_⟩;generalize hS1:S.set q (.cells 0 true (((us.take i).map g++us.drop i).map vI))=S1 at *
  simp(disch:=omega)only[go_sem,H,I,l,e,h,F,aC,y,m,G];exact X_ er D
def cpS(S:aA)(us:List Int):aA:=if us=[]then S else S++[.cells 0 true (us.map vI)]
def frS(S:aA)(q:Nat)(us:List Int):aA:=if us=[]then S else S.set q (.frz 0 (us.map (IV.int .i64)))
theorem bL1{S:aA}{q:Nat}{l:Ta_}(h:S[q]?=some (.cells 0 true (l.map vI)))(a b a2 a3 c a5 a7:IV)(d:l≠[]): zT (.agg [.iv a,.iv b,.iv a2,.iv a3,.iv c,.iv a5,.msl q 0 0 l.length l.length 1,.iv a7]) S=some (.iv (.agg [a,b,a2,a3,c,a5,.sl .no (TM.one (.int .i64) l),a7]),frS S q l):=by
 have e:=aC5 (J:=[]) (by rw[A0];exact h) l.length;have e2:toIVs (l.map vI)=some (l.map (IV.int .i64)):=by
  have:l.map vI=(l.map (IV.int .i64)).map .iv:=by rw[L6];rfl
  rw[this,fL]
 unfold frS;rw[I_ d];simp only[zT,wO,xU,aDy,e,Option.map_some,bW,bW.freezeC,mA,h,e2]
theorem bD7(x:VI)(Q:x.us.length<=999990)(H:cY x.tu x.us){fu fd:Nat}{cu cd:Tn_}(j:cu.all kQ=false)(k:cu.any bY=false)(A:cd.all kQ=false)(z:cd.any bY=false){g:Int->Int}{S S2 S3 S4:aA}{ra rb rd:Int} (W:∀(B:aG) (u:Int),u∈x.us->(lim K).call fu (j_ u::cu) (S++[B])=.ret (j_ (g u),S++[B])) (R:oE fu cu (bB x) x.a ra (cpS S (x.us.map g)) S2) (P:oE fu cu (bB x) x.b rb S2 S3) (U:oE fd cd (aW x) x.d rd S3 S4) (V:x.us≠[]->S4[S.length]?=some (.cells 0 true ((x.us.map g).map vI))): ∃v,(lim K).call 17 [.iv (.agg (aJ x)),.fn fu [] cu,.fn fd [] cd] S=.ret (v,S4)/\zT v S4=some (.iv (.agg (aJ {x with a:=ra,b:=rb,d:=rd,us:=x.us.map g,tu:=zI x.tu x.us})),frS S4 S.length (x.us.map g)):=by
 obtain⟨t5,_,i⟩:=bCe x Q H;obtain⟨t6,_,f⟩:=aP4 x;have o:(bB x).length<=9000000:=by
  have:∀l,l.length<=999992->(tdy l).length<=9000000:=fun l h=>by have:=uM l;omega
  unfold bB;repeat' split
  .exact this _ B_
  .exact this _ B_
  .exact this _ (by simp;omega)
  .simp
 have E:(aW x).length<=9000000:=by have:=zG x;omega
 have s:=fun t=>bUk j k o (tt:=t) R;have N:=fun t=>bUl j k o (tt:=t) P;have I:=fun t=>bUm A z E (tt:=t) U;obtain⟨op,d,a,b,m,lb,tu,us,tm,mp⟩:=x;dsimp only at *
 rw[dH]at i f |-;dsimp only at *
 rcases bL0 tu us H A_ S with⟨rfl,e⟩|⟨D,e⟩;.have y:cpS S (([]:Ta_).map g)=S:=rfl;rw[y]at s;rw[qU]at i f e |-;refine⟨.iv (.agg [.int .i64 op,.int .i64 rd,.int .i64 ra,.int .i64 rb,.int .i64 m,.int .i64 lb,.sl (zI tu []) [],.sl tm (TM.one (.int .i64) mp)]),aI K _ (fn:=t17) rfl rfl ?_,rfl⟩;have L0:∀(y1 y2 y5 y6 w F r y13 y14 y15 y16 y17 y18:TV) c,lp' (lim K) t17L0 [y1,.fn fu [] cu,y2,.lb c,.lb [j_ 0,j_ 0,j_ 0,j_ 0,j_ 0,j_ 0,k_,k_],y5,y6,w,F,.iv (.sl (zI tu []) []),j_ 0,j_ 0,r,y13,y14,y15,y16,y17,y18] S=.ret (.exit 0,[y1,.fn fu [] cu,y2,.lb c,.lb [j_ 0,j_ 0,j_ 0,j_ 0,j_ 0,j_ 0,k_,k_],y5,y6,w,F,.iv (.sl (zI tu []) []),j_ 0,j_ 0,z_,y13,y14,y15,y16,y17,y18],S):=fun _ _ _ _ _ _ _ _ _ _ _ _ _ _=>aE K _ _ t17L0.eq_1 (by simp(disch:=omega)only[go_sem]);simp(disch:=omega)only[t17,go_sem,aD i,aD f,e,n0_,L0,s,N,I]
 .have p:us.map g≠[]:=by simpa using D
  have y:cpS S (us.map g)=S++[.cells 0 true ((us.map g).map vI)]:=by unfold cpS;rw[I_ p]
  rw[y]at s;have G:=V D;have st:∀B:aG,(S++[aG.cells 0 true (us.map vI)]).set S.length B=S++[B]:=fun B=>B_;have C:(us.map g).length=us.length:=P_ _;have J:=bL1 G (.int .i64 op) (.int .i64 rd) (.int .i64 ra) (.int .i64 rb) (.int .i64 m) (.int .i64 lb) (.sl tm (TM.one (.int .i64) mp)) p;rw[C]at J;have n:zI tu us=.no:=by unfold zI;rw[I_ D]
  rw[n];refine⟨_,aI K _ (fn:=t17) rfl rfl ?_,J⟩;have L:=fun(y1 y2 y5 y6 y13 y14 y15 y16 y17 y18 k0 k1 k2 k3 k4 k5 k7:TV)=>bD6 j k (us:=us) (g:=g) (q:=S.length) (S:=S++[.cells 0 true (us.map vI)]) A_ B_ (fun B u T=>by rw[st];exact W B u T) y1 y2 (.lb [j_ 0,j_ 0,j_ 0,j_ 0,j_ 0,j_ 0,k_,k_]) y5 y6 y13 y14 y15 y16 y17 y18 k0 k1 k2 k3 k4 k5 k7 us.length 0 u_ u_ u_ A_;obtain⟨w,F,r,L⟩:=L (.iv (.agg [.int .i64 op,.int .i64 d,.int .i64 a,.int .i64 b,.int .i64 m,.int .i64 lb,.sl tu (TM.one (.int .i64) us),.sl tm (TM.one (.int .i64) mp)])) (.fn fd [] cd) (.iv (.sl t5 (TM.one (.int .i64) (bB ⟨op,d,a,b,m,lb,tu,us,tm,mp⟩)))) (.iv (.sl t6 (TM.one (.int .i64) (aW ⟨op,d,a,b,m,lb,tu,us,tm,mp⟩)))) u_ u_ u_ u_ u_ u_ (j_ op) (j_ d) (j_ a) (j_ b) (j_ m) (j_ lb) (.iv (.sl tm (TM.one (.int .i64) mp)));rw[List.take_zero,C3,List.nil_append,C4,st,st,n0_]at L;simp(disch:=omega)only[t17,go_sem,aD i,aD f,e,L,s,N,I]
theorem KN.old{I:Tc_}{j:Nat}{S S':aA}(h:KN I S S')(f:∀q∈I,q=j\/S.length<=q):KN [j] S S':=⟨h.len,fun q b g c a=>h.get q b (fun d=>by
 rcases f q d with e|e
 .exact g (by simp[e])
 .have:=aN a;omega) c a⟩
theorem SpS.app{S:aA}{a:Ax}{f:VF}{out:IV}{k:Sk}(h:SpS S a f out k)(L:aA):SpS (S++L) a f out k:=by obtain⟨l,c,d,e⟩:=h.map;exact⟨aR h.blk L,⟨l,c,aR d L,e⟩,fun b=>aR (h.ti b) L,fun b=>aR (h.tf b) L,h.ne,h.oc⟩
theorem On.app{S:aA}{n:Nat}{a:Ax}{f:VF}{out:IV}{k:Sk}{i:Int}{b:Int->Option Int}{st d:Int}(h:On S n a f out k i b st d)(L:aA):On (S++L) n a f out k i b st d:=by obtain⟨l,c,g,e⟩:=h.lm;exact⟨h.sp.app L,aR h.bs L,aR h.bf L,⟨l,c,aR g L,e⟩,aR h.bl L,aR h.bt L,aR h.ba L,h.lt⟩
theorem On.row{S:aA}{n:Nat}{a:Ax}{f:VF}{out:IV}{k:Sk}{i:Int}{p:Int->Option Int}{st r:Int}(h:On S n a f out k i p st r){q:Nat}{b:Bool}{cs:Tn_}(j:S[q]?=some (.cells 0 b cs))(c:aG):On (S.set q c) n a f out k i p st r:=by
 obtain⟨l,d,u,t⟩:=h.lm;obtain⟨l',v,s,_⟩:=h.sp.map;have m:∀ {x:Nat} {b:aG},S[x]?=some b->(∀b' cs',b≠.cells 0 b' cs')->q≠x:=fun g o e=>by rw[e,g]at j;exact o _ _ (D9 j)
 have go:∀ {x:Nat} {b:aG},S[x]?=some b->(∀b' cs',b≠.cells 0 b' cs')->(S.set q c)[x]?=some b:=fun g o=>by rw[aB (m g o)];exact g
 exact⟨h.sp.setO j B_ (m h.sp.blk (by simp[spB])) (m s B_) c,go h.bs B_,go h.bf B_,⟨l,d,go u B_,t⟩,go h.bl B_,go h.bt B_,go h.ba B_,h.lt⟩
def Sk.grow(k:Sk)(r:Int)(L:List VI)(i:Int):Sk:=⟨k.s,r,k.c++L,k.o++List.replicate L.length i⟩
theorem aMn(k:Sk)(i:Int):k.grow k.r [] i=k:=by simp[Sk.grow]
theorem bD8(k:Sk)(y:VI)(i:Int):k.fresh.add y i=k.grow (k.r+1) [y] i:=rfl
theorem oE.yes{fu:Nat}{cu:Tn_}{us:Ta_}{a ra:Int}{S S':aA}(b:a∈us)(h:(lim K).call fu (j_ a::cu) S=.ret (j_ ra,S')):oE fu cu us a ra S S':=by unfold oE;rw[K_ b];exact h
theorem oE.no{fu:Nat}{cu:Tn_}{us:Ta_}{a:Int}{S:aA}(b:a∉us):oE fu cu us a (low a) S S:=by unfold oE;rw[I_ b];exact⟨rfl,rfl⟩
def aMo(n:Nat):List TV:=[.ptr n 40 0,.ptr (n+3) 41 0,.ptr (n+1) 4 0]
def bL2(n:Nat):List TV:=[.ptr n 40 0,.ptr (n+4) 4 0,.ptr (n+5) 80 0]
section
variable {S:aA}{n:Nat}{a:Ax}{f:VF}{out:IV}{k:Sk}{i st ad:Int}{x:VI}
theorem bWh(h:On S n a f out k i (fun _=>none) st ad)(t:0<=k.r/\k.r<=1000000)(v:k.c.length<=1000000)(u:k.o.length<=1000000): ∃S' d,oE 58 (aMo n) (bB x) x.a (opA k.s k.r x).2.1 S S'/\On S' n d f out (k.grow (opA k.s k.r x).2.2 (opA k.s k.r x).1 i) i (fun m=>if m=x.a/\(opA k.s k.r x).1≠[]then some (opA k.s k.r x).2.1 else none) st ad/\KN [a.j,n+2] S S'/\d.j=a.j/\d.jm=a.jm:=by
 unfold opA;by_cases hm:x.a∈bB x
 .rw[K_ hm];unfold nZ;cases hs:cC k.s x.a with
  |none =>refine⟨S,a,.yes hm (aDv h hs),?_,KN.refl _ _,rfl,rfl⟩;simp only[ne_eq,C8,and_false,↓reduceIte,aMn];exact h
  |some q =>
   obtain⟨S',d,g,b,l,p,e2⟩:=aU7 h hs rfl t v u;refine⟨S',d,.yes hm g,?_,l,p,e2⟩;rw[bD8]at b;have:(fun m=>if x.a=m then some k.r else(none:Option Int))=fun m=>if m=x.a/\[ldI k.r q]≠[]then some k.r else none:=by
    funext m;by_cases e:x.a=m;.rw[K_ e,K_ ⟨e.symm,by simp⟩]
    .rw[I_ e,I_ (fun h=>e h.1.symm)]
   rw[this]at b;exact b
 .rw[I_ hm];refine⟨S,a,.no hm,?_,KN.refl _ _,rfl,rfl⟩;simp only[ne_eq,C8,and_false,↓reduceIte,aMn];exact h
theorem bWi(h:On S n a f out (k.grow (opA k.s k.r x).2.2 (opA k.s k.r x).1 i) i (fun m=>if m=x.a/\(opA k.s k.r x).1≠[]then some (opA k.s k.r x).2.1 else none) st ad)(G:0<=k.r/\k.r<=100000)(I:k.c.length<=100000)(H:k.o.length<=100000): ∃S' g t,oE 58 (aMo n) (bB x) x.b (opB k.s k.r x).2.1 S S'/\On S' n g f out (k.grow (opB k.s k.r x).2.2 ((opA k.s k.r x).1++(opB k.s k.r x).1) i) i t st ad/\KN [a.j,n+2] S S'/\g.j=a.j/\g.jm=a.jm:=by
 have C:=xI k.s k.r x;have D:(opA k.s k.r x).1.length<=1:=by rcases C.2 with h|⟨_,_,_,h,_⟩<;>rw[h]<;>simp
 have d:∀w,([]:List VI)=(opB k.s k.r x).1->(opB k.s k.r x).2.2=(opA k.s k.r x).2.2->(opB k.s k.r x).2.1=w->oE 58 (aMo n) (bB x) x.b w S S->∃S' g t,oE 58 (aMo n) (bB x) x.b (opB k.s k.r x).2.1 S S'/\On S' n g f out (k.grow (opB k.s k.r x).2.2 ((opA k.s k.r x).1++(opB k.s k.r x).1) i) i t st ad/\KN [a.j,n+2] S S'/\g.j=a.j/\g.jm=a.jm:=fun w A e2 e3 l=>by refine⟨S,a,fun m=>if m=x.a/\(opA k.s k.r x).1≠[]then some (opA k.s k.r x).2.1 else none,by rw[e3];exact l,?_,KN.refl _ _,rfl,rfl⟩;rw[e2,<-A,A0];exact h
 by_cases hm:x.b∈bB x
 .cases hs:cC k.s x.b with
  |none =>
   have l:oE 58 (aMo n) (bB x) x.b x.b S S:=.yes hm (aDv h hs);by_cases e:x.b=x.a
   .refine d x.b ?_ ?_ ?_ l;.unfold opB;rw[K_ hm,K_ e]
    .unfold opB;rw[K_ hm,K_ e]
    .unfold opB opA nZ;rw[K_ hm,K_ e];dsimp only;rw[K_ (by rw[<-e];exact hm),<-e,hs]
   .refine d x.b ?_ ?_ ?_ l;.unfold opB nZ;rw[K_ hm,I_ e,hs]
    .unfold opB nZ;rw[K_ hm,I_ e,hs]
    .unfold opB nZ;rw[K_ hm,I_ e,hs]
  |some q =>
   by_cases e:x.b=x.a
   .have z:x.a∈bB x:=by rw[<-e];exact hm
    have E:(opA k.s k.r x).1≠[]:=by unfold opA nZ;rw[K_ z,<-e,hs];simp
    refine d (opA k.s k.r x).2.1 ?_ ?_ ?_ ?_;.unfold opB;rw[K_ hm,K_ e]
    .unfold opB;rw[K_ hm,K_ e]
    .unfold opB;rw[K_ hm,K_ e]
    .exact .yes hm (bLy h hs (by rw[K_ ⟨e,E⟩]))
   .have u:0<=(k.grow (opA k.s k.r x).2.2 (opA k.s k.r x).1 i).r/\(k.grow (opA k.s k.r x).2.2 (opA k.s k.r x).1 i).r<=1000000:=by show 0<=(opA k.s k.r x).2.2/\(opA k.s k.r x).2.2<=_;rw[C.1];omega
    obtain⟨S',g,p,v,y,A,e2⟩:=aU7 h hs (by rw[I_ (fun h=>e h.1)]) u (by show(k.c++(opA k.s k.r x).1).length<=_;rw[H_];omega) (by show(k.o++List.replicate (opA k.s k.r x).1.length i).length<=_;rw[H_,G3];omega);refine⟨S',g,fun m=>if x.b=m then some (opA k.s k.r x).2.2 else if m=x.a/\(opA k.s k.r x).1≠[]then some (opA k.s k.r x).2.1 else none,?_,?_,y,A,e2⟩;.unfold opB nZ;rw[K_ hm,I_ e,hs];exact .yes hm p
    .have F:opB k.s k.r x=([ldI (opA k.s k.r x).2.2 q],(opA k.s k.r x).2.2,(opA k.s k.r x).2.2+1):=by unfold opB nZ;rw[K_ hm,I_ e,hs]
     rw[F];dsimp only;have:(k.grow (opA k.s k.r x).2.2 (opA k.s k.r x).1 i).fresh.add (ldI (opA k.s k.r x).2.2 q) i=k.grow ((opA k.s k.r x).2.2+1) ((opA k.s k.r x).1++[ldI (opA k.s k.r x).2.2 q]) i:=by unfold Sk.grow Sk.fresh Sk.add;rw[H_,List.length_singleton,<-M6,A8,A8];rfl
     rw[<-this];exact v
 .refine d (low x.b) ?_ ?_ ?_ ?_;.unfold opB;rw[I_ hm]
  .unfold opB;rw[I_ hm]
  .unfold opB;rw[I_ hm]
  .exact .no hm
theorem bWj{m:Int->Option Int}(h:On S n a f out (k.grow (opB k.s k.r x).2.2 (cE k.s k.r x) i) i m (-1) ad)(p:0<=k.r/\k.r<=100000): ∃S' b,oE 61 (bL2 n) (aW x) x.d (opD k.s k.r x).1 S S'/\(∃c,On S' n a f out (k.grow (eH k.s k.r x) (cE k.s k.r x) i) i m b c/\((b = -1/\fE k.s k.r x=[])\/(0<=b/\∃q:Nat,c=q/\fE k.s k.r x=[stI b q])))/\KN [a.j,n+4,n+5] S S':=by
 have o:=jY k.s k.r x;unfold eH fE opD;by_cases hm:x.d∈aW x
 .rw[K_ hm];cases hs:cC k.s x.d with
  |none=>exact⟨S,-1,.yes hm (bD4 h hs),⟨ad,h,.inl ⟨rfl,rfl⟩⟩,KN.refl _ _⟩
  |some q =>obtain⟨S',l,g,e⟩:=bLz h hs (by show 0<=(opB k.s k.r x).2.2/\(opB k.s k.r x).2.2<=_;omega);exact⟨S',_,.yes hm l,⟨_,g,.inr ⟨by show 0<=(opB k.s k.r x).2.2;omega,q,rfl,rfl⟩⟩,e⟩
 .rw[I_ hm];exact⟨S,-1,.no hm,⟨ad,h,.inl ⟨rfl,rfl⟩⟩,KN.refl _ _⟩
end
theorem bP1(n:Nat):(aMo n).all kQ=false/\(aMo n).any bY=false:=⟨rfl,rfl⟩
theorem bP2(n:Nat):(bL2 n).all kQ=false/\(bL2 n).any bY=false:=⟨rfl,rfl⟩
theorem bL3(S:aA)(us:Ta_):∃L,cpS S us=S++L:=by
 unfold cpS;split;.exact⟨[],(A0 S).symm⟩
 .exact⟨_,rfl⟩
theorem bR3{S:aA}{a:Ax}{f:VF}{out:IV}{k:Sk}(h:SpS S a f out k)(hk:0<=k.r/\k.r<=90000)(hc:k.c.length<=90000)(ho:k.o.length<=90000)(x:VI)(hu:x.us.length<=999990)(ht:cY x.tu x.us)(h9:∀u∈x.us,cC k.s u=none)(i:Int): ∃S' a',(lim K).call 33 [.ptr a.j 43 0,.iv (.agg (aJ x)),j_ i] S=.ret (u_,S')/\SpS S' a' f out (k.grow (eH k.s k.r x) (dR k.s k.r x) i)/\KN [a.j] S S'/\a'.j=a.j/\a'.jm=a.jm:=by
 have he:=aN h.blk;have hf:a.jm<S.length:=by obtain⟨l,c,m,_⟩:=h.map;exact aN m
 obtain⟨n,hn⟩:∃n,S.length=n:=⟨_,rfl⟩
 obtain⟨S1,y⟩:∃T,S++[aG.cells 40 false [.ptr a.j 43 0]]=T:=⟨_,rfl⟩
 obtain⟨S2,C⟩:∃T,S1++[aG.cells 4 false [j_ i]]=T:=⟨_,rfl⟩
 obtain⟨S3,w⟩:∃T,S2++[aG.mp [] 0]=T:=⟨_,rfl⟩
 obtain⟨S4,D⟩:∃T,S3++[aG.cells 41 false [.map (n+2)]]=T:=⟨_,rfl⟩
 obtain⟨S5,z⟩:∃T,S4++[aG.cells 4 false [j_ (-1)]]=T:=⟨_,rfl⟩
 obtain⟨S6,A⟩:∃T,S5++[aG.cells 80 false [j_ 0]]=T:=⟨_,rfl⟩
 have l1:S1.length=n+1:=by rw[<-y,<-hn];simp
 have l2:S2.length=n+2:=by rw[<-C];simp[l1]
 have Y:S3.length=n+3:=by rw[<-w];simp[l2]
 have l4:S4.length=n+4:=by rw[<-D];simp[Y]
 have l5:S5.length=n+5:=by rw[<-z];simp[l4]
 have l6:S6.length=n+6:=by rw[<-A];simp[l5]
 have e6:S6=S++aG.cells 40 false [.ptr a.j 43 0]::aG.cells 4 false [j_ i]::aG.mp [] 0::aG.cells 41 false [.map (n+2)]::aG.cells 4 false [j_ (-1)]::aG.cells 80 false [j_ 0]::[]:=by rw[<-A,<-z,<-D,<-w,<-C,<-y];simp
 have Q:On S6 n a f out k i (fun _=>none) (-1) 0:=by
  refine⟨by rw[e6];exact h.app _,?_,?_,⟨[],0,?_,fun _=>rfl⟩,?_,?_,?_,by omega⟩;all_goals rw[e6,<-hn]
  .exact gN0 ..
  .exact gN1 ..
  .exact gN2 ..
  .exact gN3 ..
  .exact gN4 ..
  .exact gN5 ..
 have H:x.us.map (fun u=>u)=x.us:=List.map_id' _;obtain⟨L,hL⟩:=bL3 S6 (x.us.map fun u=>u);obtain⟨T2,a2,rA,o2,k2,j2,m2⟩:=bWh (x:=x) (by rw[hL];exact Q.app L:On (cpS S6 (x.us.map fun u=>u)) n a f out k i (fun _=>none) (-1) 0) A_ A_ A_;obtain⟨T3,a3,ld,rB,o3,k3,j3,m3⟩:=bWi (x:=x) o2 A_ A_ A_;obtain⟨T4,st,rD,⟨ad,o4,ha⟩,k4⟩:=bWj (x:=x) o3 A_;rw[j2]at k3 j3;rw[j3]at k4;rw[m2]at m3;have kT:KN [a.j,n+2,n+4,n+5] (cpS S6 (x.us.map fun u=>u)) T4:=(k2.mono B_).trans ((k3.mono B_).trans (k4.mono B_));have hq:x.us≠[]->T4[S6.length]?=some (.cells 0 true ((x.us.map fun u=>u).map vI)):=fun h0=>by refine kT.get _ _ (by simp;omega) B_ ?_;unfold cpS;rw[H,I_ h0];exact cM ..
 obtain⟨v,P,fz⟩:=bD7 x hu ht (bP1 n).1 (bP1 n).2 (bP2 n).1 (bP2 n).2 (g:=fun u=>u) (fun B u hm=>aDv (Q.app [B]) (h9 u hm)) rA rB rD hq;have W:({x with a:=(opA k.s k.r x).2.1,b:=(opB k.s k.r x).2.1,d:=(opD k.s k.r x).1,us:=x.us.map (fun u=>u),tu:=zI x.tu x.us}:VI)=eP k.s k.r x:=by rw[H];rfl
 rw[W,l6]at fz;have o5:On (frS T4 (n+6) (x.us.map fun u=>u)) n a3 f out (k.grow (eH k.s k.r x) (cE k.s k.r x) i) i ld st ad:=by
  unfold frS;split;.exact o4
  .rename_i h0;have:=hq (fun e=>h0 (by rw[e];rfl));rw[l6]at this;exact o4.row this _
 have k5:KN [n+6] T4 (frS T4 (n+6) (x.us.map fun u=>u)):=by
  unfold frS;split;.exact KN.refl _ _
  .exact KN.set ..
 generalize frS T4 (n+6) (x.us.map fun u=>u)=T5 at *
 have hh:=(jY k.s k.r x).2;obtain⟨T6,a6,J,s6,k6,Z,m6⟩:=aQi o5.sp (by show(k.c++cE k.s k.r x).length<=_;rw[H_];omega) (by show(k.o++List.replicate (cE k.s k.r x).length i).length<=_;rw[H_,G3];omega) (eP k.s k.r x) i;have p:=o5.keep k6 s6 Z m6;rw[j3]at J k6 Z;rw[m3]at m6;have b3:=o5.bs;rw[j3]at b3;have I:KN [a.j,n+2,n+4,n+5,n+6] S T6:=by
  have q1:KN [a.j,n+2,n+4,n+5,n+6] S S6:=by rw[e6];exact KN.app _ _ _
  have q2:KN [a.j,n+2,n+4,n+5,n+6] S6 (cpS S6 (x.us.map fun u=>u)):=by rw[hL];exact KN.app _ _ _
  exact q1.trans (q2.trans ((kT.mono B_).trans ((k5.mono B_).trans (k6.mono B_))))
 have hg:(k.grow (eH k.s k.r x) (cE k.s k.r x) i).add (eP k.s k.r x) i=k.grow (eH k.s k.r x) (cE k.s k.r x++[eP k.s k.r x]) i:=by unfold Sk.grow Sk.add;rw[H_,List.length_singleton,<-M6,A8,A8];rfl
 rw[hg]at s6 p;have b1:=Q.bs;have h1:=o5.bf;have h5:=p.bt;have h7:=p.bs;have h8:=p.ba;have hd:=p.bf;rw[Z]at h7;have g3:=Q.bl;have G:∀b c:aG,(S3++[c]).set (n+3) b=S3++[b]:=fun b c=>by rw[<-Y];simp
 have E:∀b c:aG,(S4++[c]).set (n+4) b=S4++[b]:=fun b c=>by rw[<-l4];simp
 have F:∀b c:aG,(S5++[c]).set (n+5) b=S5++[b]:=fun b c=>by rw[<-l5];simp
 have h4:∀b:aG,(S3++[b])[n+3]?=some b:=fun b=>by rw[<-Y];exact cM ..
 have h3:∀b:aG,(S4++[b])[n+4]?=some b:=fun b=>by rw[<-l4];exact cM ..
 have U:∀b:aG,(S5++[b])[n+5]?=some b:=fun b=>by rw[<-l5];exact cM ..
 have ba:=Q.ba;have h6:=Q.bf;have R:=jX ba;unfold aMo bL2 at P;rcases ha with⟨rfl,N⟩|⟨h0,q,rfl,N⟩
 .refine⟨T6,a6,aI K _ (fn:=t33) rfl rfl ?_,?_,I.old (by simp;omega),Z,m6⟩
  .rw[dH]at *
   simp(disch:=omega)only[t33,go_sem,y,C,w,D,z,A,hn,l1,l2,Y,l4,l5,h4,h3,U,ba,h6,R,G,E,F,b1,h1,P,fz,J,h5,b3]
  .have:dR k.s k.r x=cE k.s k.r x++[eP k.s k.r x]:=by unfold dR;rw[N]
   rw[this];exact s6
 .have h2:(k.grow (eH k.s k.r x) (cE k.s k.r x++[eP k.s k.r x]) i).c.length<=1000000:=by show(k.c++(cE k.s k.r x++[eP k.s k.r x])).length<=_;rw[H_,H_,List.length_singleton];omega
  have V:(k.grow (eH k.s k.r x) (cE k.s k.r x++[eP k.s k.r x]) i).o.length<=1000000:=by show(k.o++List.replicate (cE k.s k.r x++[eP k.s k.r x]).length i).length<=_;rw[H_,G3,H_,List.length_singleton];omega
  obtain⟨T7,a7,t,s7,k7,j7,m7⟩:=aQi s6 h2 V (stI st q) i;rw[Z]at t k7 j7;rw[m6]at m7;refine⟨T7,a7,aI K _ (fn:=t33) rfl rfl ?_,?_,(I.trans (k7.mono B_)).old (by simp;omega),j7,m7⟩
  .rw[show aJ (stI st q)=[.int .i64 74,.int .i64 0,.int .i64 st,.int .i64 0,.int .i64 q,.int .i64 0,.sl .nil [],.sl .nil []] from rfl]at t;rw[dH]at *
   simp(disch:=omega)only[t33,go_sem,y,C,w,D,z,A,hn,l1,l2,Y,l4,l5,h4,h3,U,ba,h6,R,G,E,F,b1,h1,P,fz,J,h5,b3,h7,h8,hd,t]
  .have:dR k.s k.r x=(cE k.s k.r x++[eP k.s k.r x])++[stI st q]:=by unfold dR;rw[N,A8];rfl
   rw[this];have hb:(k.grow (eH k.s k.r x) (cE k.s k.r x++[eP k.s k.r x]) i).add (stI st q) i=k.grow (eH k.s k.r x) ((cE k.s k.r x++[eP k.s k.r x])++[stI st q]) i:=by unfold Sk.grow Sk.add;dsimp only;simp only[H_,List.length_singleton,<-M6,A8];rfl
   rw[<-hb];exact s7
def frM(σ:List Int):Int->List VI->Nat->List Int
 |_,[],_=>[]
 |r,x::l,i=>List.replicate (dR σ r x).length (i:Int)++frM σ (eH σ r x) l (i+1)
def Sk.all(k:Sk)(l:List VI)(i:Nat):Sk:=⟨k.s,rwR k.s k.r l,k.c++bK k.s k.r l,k.o++frM k.s k.r l i⟩
theorem all_cons(k:Sk)(x:VI)(l:List VI)(i:Nat):(k.grow (eH k.s k.r x) (dR k.s k.r x) i).all l (i+1)=k.all (x::l) i:=by unfold Sk.all Sk.grow bK;rw[rwM,rwR,frM,List.flatten_cons,A8,A8]
theorem bL4(σ:Ta_)(r:Int)(x:VI):(dR σ r x).length<=4/\r<=eH σ r x/\eH σ r x<=r+3:=by have:=jY σ r x;have:=sT σ r x;have:=aCf σ r x;unfold dR;rw[H_,List.length_cons];omega
theorem bD9{f:VF}{out:IV}(J:f.ins.length<=10000)(q:∀x∈f.ins,x.us.length<=999990/\cY x.tu x.us){σ:Ta_}(e:∀x∈f.ins,∀u∈x.us,cC σ u=none)(j jm:Nat):∀(m i:Nat) (S:aA) (a:Ax) (k:Sk) (p x2 x6:TV),i+m=f.ins.length->SpS S a f out k->k.s=σ->a.j=j->a.jm=jm->0<=k.r/\k.r+4*m<=80000->k.c.length+4*m<=80000->k.o.length+4*m<=80000 ->∃S' g z A C,lp' (lim K) t14L0 [.ptr j 43 0,p,x2,.iv (.sl f.ti (f.ins.map aJ)),j_ f.ins.length,j_ i,x6] S = .ret (.exit 0,[.ptr j 43 0,z,A,.iv (.sl f.ti (f.ins.map aJ)),j_ f.ins.length,j_ f.ins.length,C],S')/\SpS S' g f out (k.all (f.ins.drop i) i)/\KN [j] S S'/\g.j=j/\g.jm=jm
 |0,i,S,a,k,p,x2,x6,h,hs,hk,hj,hjm,hr,hc,ho=>by
  obtain rfl:i=f.ins.length:=A_;refine⟨S,a,p,x2,z_,aE K _ _ t14L0.eq_1 ?_,?_,KN.refl _ _,hj,hjm⟩;.simp(disch:=omega)only[go_sem]
  .rw[D7];have:k.all [] f.ins.length=k:=by unfold Sk.all;simp[rwR,bK,rwM,frM]
   rw[this];exact hs
 |m+1,i,S,a,k,p,x2,x6,h,hs,hk,hj,hjm,hr,hc,ho=>by
  have b:i<f.ins.length:=A_;have n:=jF (w:=8) (f:=aJ) iF (t:=f.ti) (l:=f.ins) (i:=(i:Int)) A_;rw[Int.toNat_natCast,dH]at n;have y:=bS b;have v:f.ins.drop i=f.ins.getD i default::f.ins.drop (i+1):=by rw[A7 b];simp[List.getD,D_ b]
  have P:=bL4 k.s k.r (f.ins.getD i default);obtain⟨S1,N,d,I,D,E,L⟩:=bR3 hs ⟨hr.1,by omega⟩ A_ A_ (f.ins.getD i default) (q _ y).1 (q _ y).2 (by rw[hk];exact e _ y) (i:Int);rw[hj]at d D E;obtain⟨S',g,z,A,C,F,s',k',H,G⟩:=bD9 (out:=out) J q e j jm m (i+1) S1 N _ (j_ i) (.lb ((aJ (f.ins.getD i default)).map .iv)) e_ A_ I hk E (L.trans hjm) (by show 0<=eH k.s k.r _/\eH k.s k.r _+_<=_;omega) (by show(k.c++_).length+_<=_;rw[H_];omega) (by show(k.o++List.replicate _ _).length+_<=_;rw[H_,G3];omega);rw[show((i+1:Nat):Int)=(i:Int)+1 by omega,aY]at F;refine⟨S',g,z,A,C,aE K _ _ t14L0.eq_1 ?_,?_,D.trans k',H,G⟩
  .rw[dH]at d;generalize f.ins.getD i default=x at *
   simp(disch:=omega)only[go_sem,n,d,aC];exact X_ er F
  .rw[v,<-all_cons];exact s'
def sk0(σ:List Int)(f:VF):Sk:=⟨σ,rwR σ f.regs f.ins,bK σ f.regs f.ins,frM σ f.regs f.ins 0⟩
theorem SpS.start{S:aA}{a:Ax}{f:VF}{out:IV}{k:Sk}(h:SpS S a f out k):SpS (S.set a.j (spB a f out ⟨k.s,f.regs,[],[]⟩)) a f out ⟨k.s,f.regs,[],[]⟩ :=
 ⟨aM (aN h.blk) _,h.map.keep (KN.set a.j S _) h.jne,fun b=>absurd rfl b,fun b=>absurd rfl b,fun b=>absurd rfl b,h.oc⟩
theorem aU9{S:aA}{a:Ax}{f:VF}{out:IV}{σ:Ta_}(v t E z p n D r:TV)(l:S[a.j]?=some (.cells 43 false [j_ f.fn,j_ f.regs,j_ f.sl,j_ f.nd,j_ f.pr,.iv (.bool f.rs),.iv (.sl f.ti (f.ins.map aJ)),v,t,E,z,p,n,D,r,.map a.jm,.iv out]))(i:SpS (S.set a.j (spB a f out ⟨σ,f.regs,[],[]⟩)) a f out ⟨σ,f.regs,[],[]⟩)(G:f.ins.length<=10000)(H:f.regs<=30000)(q:∀x∈f.ins,x.us.length<=999990/\cY x.tu x.us)(g:∀x∈f.ins,∀u∈x.us,cC σ u=none): ∃S' d,(lim K).call 14 [.ptr a.j 43 0] S=.ret (u_,S')/\SpS S' d f out (sk0 σ f)/\KN [a.j] S S'/\d.j=a.j/\d.jm=a.jm:=by
 have e:=aN l;obtain⟨S',d,I,J,L,h,s',k',w,o⟩:=bD9 G q g a.j a.jm f.ins.length 0 _ a ⟨σ,f.regs,[],[]⟩ u_ u_ u_ A_ i rfl rfl rfl ⟨by show(0:Int)<=(f.regs:Int);omega,by show(f.regs:Int)+_<=_;omega⟩ (by simp;omega) (by simp;omega);rw[n0_]at h;have C:(⟨σ,f.regs,[],[]⟩:Sk).all (f.ins.drop 0) 0=sk0 σ f:=rfl;rw[C]at s';refine⟨S',d,aI K _ (fn:=t14) rfl rfl ?_,s',(KN.set a.j S _).trans k',w,o⟩;have y:=fun b=>aM e b;have A:=fun b c:aG=>(H1 ..:(S.set a.j b).set a.j c=S.set a.j c)
 have F:(f.ins.map aJ).length=f.ins.length:=P_ _;unfold spB at *
 rw[show(([]:List VI).map aJ)=[] from rfl,show aZ []=[] from rfl,mD,mD]at h;simp(disch:=omega)only[t14,go_sem,l,y,A,F];rw[h];simp(disch:=omega)only[go_sem]
theorem bR4{S:aA}{a:Ax}{f:VF}{out:IV}{k:Sk}(h:SpS S a f out k)(d:f.ins.length<=10000)(g:f.regs<=30000)(e:∀x∈f.ins,x.us.length<=999990/\cY x.tu x.us)(c:∀x∈f.ins,∀u∈x.us,cC k.s u=none): ∃S' b,(lim K).call 14 [.ptr a.j 43 0] S=.ret (u_,S')/\SpS S' b f out (sk0 k.s f)/\KN [a.j] S S'/\b.j=a.j/\b.jm=a.jm:=aU9 _ _ _ _ _ _ _ _ h.blk h.start d g e c
def bZ(C:List VI):List TV:=(TM.bE (C.map aJ)).map .iv
theorem gV(x:VI)(C:List VI):bZ (x::C)=(aJ x).map .iv++bZ C:=by unfold bZ;rw[Q_,show TM.bE (aJ x::C.map aJ)=aJ x++TM.bE (C.map aJ) from rfl,D0]
theorem lJ:∀C:List VI,(bZ C).length=C.length*8
 |[]=>rfl
 |x::C=>by rw[gV,H_,lJ C,List.length_cons];show 8+_=_;omega
theorem aF7(x:VI):((aJ x).map TV.iv).length=8:=rfl
theorem bP3:∀(C:List VI) (i:Nat),i<C.length->sub (bZ C) (i*8) 8=some ((aJ (C.getD i default)).map .iv)
 |[],i,h=>by simp at h
 |x::C,0,h=>by rw[gV];simp only[sub,H_,aF7,show 0*8+8<=8+(bZ C).length by omega,↓reduceIte,P9,C4];rw[K1 (aF7 x)];rfl
 |x::C,i+1,h=>by
  have a:=bP3 C i (by simpa using h);have b:=lJ C;have c:i<C.length:=by simpa using h
  unfold sub at a |-;rw[gV,H_,aF7];rw[K_ A_]at a |-;rw[show(i+1)*8=8+i*8 by omega,<-U2,K6 (aF7 x)];exact a
theorem bP4:∀(C:List VI) (i:Nat) (y:VI),i<C.length->put (bZ C) (i*8) ((aJ y).map .iv)=bZ (C.set i y)
 |[],i,y,h=>by simp at h
 |x::C,0,y,h=>by rw[List.set_cons_zero,gV,gV];unfold put;rw[aF7,P9,List.take_zero,A9,K6 (aF7 x),List.nil_append]
 |x::C,i+1,y,h=>by
  have a:=bP4 C i y (by simpa using h);have b:=lJ C;have c:i<C.length:=by simpa using h
  unfold put at a |-;rw[List.set_cons_succ,gV,gV,<-a,aF7,show(i+1)*8=8+i*8 by omega,show 8+i*8+8=8+(i*8+8) by omega,<-U2,K6 (aF7 x),X2,aF7];rw[N2 (by rw[aF7];omega),show 8+i*8-8=i*8 by omega];simp only[A8]
theorem bWk{q n i:Nat}(h:i<n):indexAddrS 8 (.msl q 0 0 n n 8) (i:Int)=some (.ptr q 0 (i*8)):=by unfold indexAddrS;rw[I_ A_];simp only[Int.toNat_natCast,A9];rw[K_ ⟨by omega,trivial⟩]
theorem aMp:∀C:List VI,cN 8 C.length (TM.bE (C.map aJ))=C.map aJ
 |[]=>rfl
 |x::C=>by rw[List.length_cons,Q_,show TM.bE (aJ x::C.map aJ)=aJ x++TM.bE (C.map aJ) from rfl,cN,K1 (show(aJ x).length=8 from rfl),K6 (show(aJ x).length=8 from rfl),aMp C]
theorem bL5{S:aA}{q:Nat}{b:Bool}{C:List VI}(h:S[q]?=some (.cells 0 b (bZ C))):cH S (.msl q 0 0 C.length C.length 8)=some (C.map aJ):=by
 have a:sub (bZ C) 0 (C.length*8)=some (bZ C):=mE (lJ C);have e2:toIVs (bZ C)=some (TM.bE (C.map aJ)):=by unfold bZ;rw[fL]
 simp only[cH,h,ne_eq,C8,↓reduceIte,a,e2,Option.map_some,aMp]
theorem bUn(C:List VI):(bZ C).any bH=false:=by
 induction C with
 |nil=>rfl
 |cons x C ih=>rw[gV,R2,ih];rfl
theorem bR5{S:aA}{j:Nat}{C:List VI}(b:C≠[])(g:C.length<=1000000):(lim K).call 64 [.tsl j (C.map aJ)] S=.ret (.msl S.length 0 0 C.length C.length 8,S++[.cells 0 true (bZ C)]):=by
 have d:dS S (.tsl j (C.map aJ))=some (bZ C):=rfl;have e2:lenOf S (.tsl j (C.map aJ))=some C.length:=by simp[lenOf]
 have e3:=bUn C;have a:C.length≠0:=fun h=>b (G7.1 h);have e:dY C.length 96=true:=bR A_;have f:bA true 8 96 28 S (.iv (.sl .full [])) (.tsl j (C.map aJ))=some (.msl S.length 0 0 C.length C.length 8,S++[.cells 0 true (bZ C)]):=by simp[bA,d,e2,e3,a,e,bE,oR,lJ]
 have c:TM.eqB .sl (.tsl j (C.map aJ)) k_=some false:=rfl;refine aI K S (fn:=t64) rfl rfl ?_;simp(disch:=omega)only[t64,go_sem,f,c]
theorem bL6{C:List VI}{i:Nat}(h:i<C.length):((C.take i).map plI++C.drop i).getD i default=C.getD i default/\((C.take i).map plI++C.drop i).set i (plI (C.getD i default))=(C.take (i+1)).map plI++C.drop (i+1):=by
 have a:((C.take i).map plI).length=i:=by simp;omega
 have b:C.drop i=C.getD i default::C.drop (i+1):=by rw[A7 h];simp[List.getD,D_ h]
 have c:C.take (i+1)=C.take i++[C.getD i default]:=by rw[G4,D_ h];simp[List.getD,D_ h]
 constructor;.simp only[List.getD,t_ (show((C.take i).map plI).length<=i by omega),a,M3,F9,Nat.add_zero]
 .rw[E1 _ _ A_,a,M3,b,List.set_cons_zero,c,D0,List.map_singleton,A8];rfl
theorem bEa{C:List VI}(J:C.length<=1000000){q:Nat}{S:aA}(H:q<S.length)(x0 v x9:TV)(c0 y D w u E:TV):∀(k i:Nat) (t x4 x8 x9 x10 x11:TV),i+k=C.length ->∃j h m l b c,lp' (lim K) t35L0 [x0,v,.lb [c0,y,D,w,u,E,.msl q 0 0 C.length C.length 8],t,x4,.msl q 0 0 C.length C.length 8,j_ C.length,j_ i,x8,x9,x10,x11] (S.set q (.cells 0 true (bZ ((C.take i).map plI++C.drop i)))) = .ret (.exit 0,[x0,v,.lb [c0,y,D,w,u,E,.msl q 0 0 C.length C.length 8],j,h,.msl q 0 0 C.length C.length 8,j_ C.length,j_ C.length,m,l,b,c],S.set q (.cells 0 true (bZ (C.map plI))))
 |0,i,t,x4,x8,x9,x10,x11,hk=>by obtain rfl:i=C.length:=A_;rw[C5,D7,A0];refine⟨t,x4,z_,x9,x10,x11,aE K _ _ t35L0.eq_1 ?_⟩;simp(disch:=omega)only[go_sem]
 |k+1,i,t,x4,x8,x9,x10,x11,hk=>by
  have p:i<C.length:=A_;obtain⟨I,p2⟩:=bL6 p;have r:((C.take i).map plI++C.drop i).length=C.length:=by simp;omega
  have z:=bWk (q:=q) p;have o:=bP3 ((C.take i).map plI++C.drop i) i A_;have f:=bP4 ((C.take i).map plI++C.drop i) i (plI (C.getD i default)) A_;rw[I,aY]at o;rw[p2]at f;have A:=aM H (.cells 0 true (bZ ((C.take i).map plI++C.drop i)));have G:∀B,(S.set q (.cells 0 true (bZ ((C.take i).map plI++C.drop i)))).set q B=S.set q B:=fun B=>H1 ..;have s:i*8+8<=(bZ ((C.take i).map plI++C.drop i)).length:=by rw[lJ,r];omega
  have IH:=fun(j h m l b c:TV)=>bEa J H x0 v x9 c0 y D w u E k (i+1) j h m l b c A_;have n:((i+1:Nat):Int)=(i:Int)+1:=A_;have same:plI (C.getD i default)=C.getD i default->S.set q (.cells 0 true (bZ ((C.take (i+1)).map plI++C.drop (i+1))))=S.set q (.cells 0 true (bZ ((C.take i).map plI++C.drop i))):=fun e=>by rw[<-p2,e,<-I,b_,D_ A_,Option.getD_some,J6]
  generalize hS1:S.set q (.cells 0 true (bZ ((C.take i).map plI++C.drop i)))=S1 at *
  by_cases h1:(C.getD i default).op=73
  .have F:plI (C.getD i default)=⟨69,(C.getD i default).d,0,0,0,0,.nil,[],.nil,[]⟩:=by unfold plI;rw[K_ h1]
   rw[F,aY]at f;obtain⟨j,h,m,l,b,c,g⟩:=IH (j_ i) (.lb ((aJ (C.getD i default)).map .iv)) e_ (j_ 73) e_ x11;rw[n,aY,h1]at g;rw[h1]at o;refine⟨j,h,m,l,b,c,aE K _ _ t35L0.eq_1 ?_⟩;generalize C.getD i default=x at *
   dsimp only at f;rw[show TM.one (IV.int .i64) []=[] from rfl]at f;unfold put at f;simp only[List.length_cons,List.length_nil,A9,Nat.reduceAdd]at f;rw[<-f]at g;simp(disch:=omega)only[go_sem,z,A,o,aC,s,G];exact X_ er g
  .by_cases h2:(C.getD i default).op=74
   .have F:plI (C.getD i default)=⟨64,0,(C.getD i default).a,0,0,0,.nil,[],.nil,[]⟩:=by unfold plI;rw[I_ h1,K_ h2]
    rw[F,aY]at f;obtain⟨j,h,m,l,b,c,g⟩:=IH (j_ i) (.lb ((aJ (C.getD i default)).map .iv)) e_ (j_ 74) z_ e_;rw[n,aY,h2]at g;rw[h2]at o;refine⟨j,h,m,l,b,c,aE K _ _ t35L0.eq_1 ?_⟩;generalize C.getD i default=x at *
    dsimp only at f;rw[show TM.one (IV.int .i64) []=[] from rfl]at f;unfold put at f;simp only[List.length_cons,List.length_nil,A9,Nat.reduceAdd]at f;rw[<-f]at g;simp(disch:=omega)only[go_sem,z,A,o,aC,s,G];exact X_ er g
   .have same:=same (by unfold plI;rw[I_ h1,I_ h2]);obtain⟨j,h,m,l,b,c,g⟩:=IH (j_ i) (.lb ((aJ (C.getD i default)).map .iv)) e_ (.iv (.int .i64 (C.getD i default).op)) z_ z_;rw[n,aY,same]at g;refine⟨j,h,m,l,b,c,aE K _ _ t35L0.eq_1 ?_⟩;generalize C.getD i default=x at *
    simp(disch:=omega)only[go_sem,z,A,o,aC,h1,h2];exact X_ er g
theorem bR6{S:aA}{a:Ax}{f:VF}{out:IV}{k:Sk}(h:SpS S a f out k)(i:k.c≠[])(l:k.c.length<=1000000): (lim K).call 35 [.ptr a.j 43 0] S=.ret (.agg [j_ f.fn,j_ k.r,j_ f.sl,j_ f.nd,j_ f.pr,.iv (.bool f.rs),.msl S.length 0 0 k.c.length k.c.length 8],S++[.cells 0 true (bZ (k.c.map plI))]):=by
 have b:=h.blk;have d:k.c.map aJ≠[]:=by simpa using i
 have e:=bR5 (S:=S) (j:=a.ji) i l;have g:=aR b [aG.cells 0 true (bZ k.c)];obtain⟨t,s,p,u,n,o,m⟩:=bEa (C:=k.c) l (q:=S.length) (S:=S++[.cells 0 true (bZ k.c)]) B_ (.ptr a.j 43 0) (.lb [j_ 0,j_ 0,j_ 0,j_ 0,j_ 0,z_,k_]) u_ (j_ f.fn) (j_ k.r) (j_ f.sl) (j_ f.nd) (j_ f.pr) (.iv (.bool f.rs)) k.c.length 0 u_ u_ u_ u_ u_ u_ A_;have st:∀B:aG,(S++[aG.cells 0 true (bZ k.c)]).set S.length B=S++[B]:=fun B=>B_;rw[List.take_zero,C3,List.nil_append,C4,st,st,n0_]at m;unfold spB at b g;rw[jQ _ d]at b g;refine aI K _ (fn:=t35) rfl rfl ?_;simp(disch:=omega)only[t35,go_sem,b,e];rw[m];simp(disch:=omega)only[go_sem]
def rwV(j:Nat)(l:List Int):TV:=if l=[]then .iv (.sl .nil [])else .msl j (l.length-1) 0 l.length l.length 1
def RwB(S:aA)(j:Nat)(l:List Int):Prop:=l≠[]->S[j]?=some (.cells (l.length-1) true (l.map vI))
theorem bL7(j:Nat):rwV j []=k_:=rfl
theorem sZ(j:Nat){l:Ta_}(h:l≠[]):rwV j l=.msl j (l.length-1) 0 l.length l.length 1:=I_ h
theorem bL8(S:aA)(j:Nat)(l:Ta_):sI .sl S (rwV j l)=some (j_ l.length):=by
 unfold rwV;split;.rename_i h;rw[h];rfl
 .rfl
theorem lX{S:aA}{j:Nat}{l:Ta_}(h:RwB S j l):Slc S (rwV j l) l:=by
 by_cases h0:l=[]
 .subst h0;exact Slc.iv S .nil []
 .rw[sZ j h0];exact Slc.msl (J:=[]) (by rw[A0];exact h h0)
theorem bEb{S:aA}{j:Nat}{l:Ta_}(h:RwB S j l)(f:l.length<=1000000)(r:Int): ∃a S',bA true 1 8 3 S (rwV j l) (.iv (.sl .full [[.int .i64 r]]))=some (rwV a (l++[r]),S')/\RwB S' a (l++[r])/\bL [a] S S'/\(l≠[]->a=j)/\(l=[]->a=S.length):=by
 by_cases h0:l=[]
 .subst h0;refine⟨S.length,S++[.cells 0 true [vI r]],aLy r C_ .full,fun _=>cM ..,bL.app _ _ _,fun h=>absurd rfl h,fun _=>rfl⟩
 .have b:=h h0;have g:0<l.length:=M7.2 h0;have e:=aPz true r b f .full;have d:l++[r]≠[]:=B_;have c:(l++[r]).length=l.length+1:=B_;rw[show l.length-1+1=l.length by omega]at e;refine⟨j,_,by rw[sZ j h0,sZ j d,c,N3];exact e,fun _=>?_,bL.set S B_ _,fun _=>rfl,fun h=>absurd h h0⟩;rw[c,N3,aM (aN b)]
def zP(C:List Int):List Int:=((List.range C.length).filter fun i=>decide (C.getD i 0<0)).map fun i:Nat=>(i:Int)
def aB3(C:List Int)(i:Nat):List Int:=((List.range i).filter fun i=>decide (C.getD i 0<0)).map fun i:Nat=>(i:Int)
theorem aXn(C:Ta_)(i:Nat):aB3 C (i+1)=if C.getD i 0<0 then aB3 C i++[(i:Int)]else aB3 C i:=by
 unfold aB3;rw[N4,H5,D0];by_cases h:C.getD i 0<0;.rw[K_ h,E6,K_ (V_ h)];rfl
 .rw[I_ h,E6,I_ (by rw[Z_ h];decide)];simp
theorem aMq(C:Ta_)(i:Nat):(aB3 C i).length<=i:=by unfold aB3;rw[P_];exact C0 (E0 ..) B_
theorem aQk{t:Tag}{C:Ta_}(H:C.length<=100000)(m:Nat)(x0:TV):∀(k i:Nat) (S:aA) (j:Nat) (x2 z x7 x8:TV),i+k=C.length->RwB S j (aB3 C i)->m<=S.length->(aB3 C i≠[]->m<=j) ->∃S' c w o n r,lp' (lim K) t37L0 [x0,rwV j (aB3 C i),x2,z,.iv (.sl t (TM.one (.int .i64) C)),j_ C.length,j_ i,x7,x8] S = .ret (.exit 0,[x0,rwV c (zP C),w,o,.iv (.sl t (TM.one (.int .i64) C)),j_ C.length,j_ C.length,n,r],S')/\RwB S' c (zP C)/\(∀q b,q<m->S[q]?=some b->S'[q]?=some b)/\S.length<=S'.length/\(zP C≠[]->m<=c)
 |0,i,S,j,x2,z,x7,x8,hk,hb,hn,hj=>by obtain rfl:i=C.length:=A_;refine⟨S,j,x2,z,z_,x8,aE K _ _ t37L0.eq_1 ?_,hb,fun q b _ h=>h,L_ _,hj⟩;simp(disch:=omega)only[go_sem];rfl
 |k+1,i,S,j,x2,z,x7,x8,hk,hb,hn,hj=>by
  have R:i<C.length:=A_;have A:=pO (f:=IV.int .i64) (t:=t) (l:=C) (i:=(i:Int)) A_;rw[Int.toNat_natCast]at A;have a:=aXn C i;have P:C.getD i default=C.getD i 0:=rfl;rw[P]at A;have s:=lX hb;have L:=s.wb;have N:=s.loc;by_cases hd:C.getD i 0<0
  .rw[K_ hd]at a;have Q:=aMq C i;obtain⟨J,S1,V,y,I,D,G⟩:=bEb hb A_ (i:Int);have p:m<=J:=by
    by_cases h0:aB3 C i=[]
    .rw[G h0];exact hn
    .rw[D h0];exact hj h0
   have T:=(lX y).wb;have F:=I.len;obtain⟨S',c,w,o,n,r,v,g,e,u,d⟩:=aQk (t:=t) H m x0 k (i+1) S1 J (j_ i) (j_ (C.getD i 0)) e_ e_ A_ (by rw[a];exact y) A_ (fun _=>p);rw[a,show((i+1:Nat):Int)=(i:Int)+1 by omega]at v;refine⟨S',c,w,o,n,r,aE K _ _ t37L0.eq_1 ?_,g,fun q b U E=>e q b U ?_,by omega,d⟩
   .generalize C.getD i 0=x at *
    simp(disch:=omega)only[go_sem,A,hd,L,N,V,T,aC];exact X_ er v
   .exact I.get q b (by simp;omega) E
  .rw[I_ hd]at a;obtain⟨S',c,w,o,n,r,v,g,e,u,d⟩:=aQk (t:=t) H m x0 k (i+1) S j (j_ i) (j_ (C.getD i 0)) e_ z_ A_ (by rw[a];exact hb) hn (by rw[a];exact hj);rw[a,show((i+1:Nat):Int)=(i:Int)+1 by omega]at v;refine⟨S',c,w,o,n,r,aE K _ _ t37L0.eq_1 ?_,g,e,u,d⟩;generalize C.getD i 0=x at *
   simp(disch:=omega)only[go_sem,A,hd,L,N,aC];exact X_ er v
def Kp0(n0:Nat)(S S':aA):Prop:=S.length<=S'.length/\∀q b,q<n0->S[q]?=some b->S'[q]?=some b
theorem bR7(t:Tag)(C:Ta_)(n:C.length<=100000)(S:aA):∃S' i,(lim K).call 37 [.iv (.sl t (TM.one (.int .i64) C))] S=.ret (rwV i (zP C),S')/\RwB S' i (zP C)/\Kp0 S.length S S'/\(zP C≠[]->S.length<=i):=by
 obtain⟨S',i,s,u,o,q,m,k,x,w,r⟩:=aQk (t:=t) n S.length (.iv (.sl t (TM.one (.int .i64) C))) C.length 0 S 0 u_ u_ u_ u_ A_ (fun h=>absurd rfl h) (L_ _) (fun h=>absurd rfl h);rw[n0_,show rwV 0 (aB3 C 0)=k_ from rfl]at m;have g:=lX k;have v:=g.wb;have y:=g.loc;have p:∀S,kV [.loc 1] [.iv (.sl t (TM.one (.int .i64) C)),rwV i (zP C),s,u,.iv (.sl t (TM.one (.int .i64) C)),j_ C.length,j_ C.length,o,q] S=some (rwV i (zP C)):=fun S=>by rcases g.frm with⟨a,e⟩|⟨j,l,e⟩|⟨a,b,c,d,z,f,e⟩<;>rw[e]<;>rfl
 refine⟨S',i,aI K _ (fn:=t37) rfl rfl ?_,k,⟨w,x⟩,r⟩;simp(disch:=omega)only[t37,go_sem];rw[m];simp(disch:=omega)only[go_sem,v,y,p]
def pR(r:Nat)(x:Int):Bool:=decide ((r:Int)<=x)
theorem bR8{S:aA}{a:Ax}{f:VF}{out:IV}{k:Sk}{b:Nat}(h:SpS S a f out k)(d:S[b]?=some (.cells 40 false [.ptr a.j 43 0]))(x:Int):(lim K).call 38 [j_ x,.ptr b 40 0] S=.ret (.iv (.bool (pR f.regs x)),S):=by
 have c:=h.blk;unfold spB at c;unfold pR;refine aI K _ (fn:=t38) rfl rfl ?_;by_cases hx:(f.regs:Int)<=x;.rw[V_ hx];simp(disch:=omega)only[t38,go_sem,d,c]
 .rw[Z_ hx];simp(disch:=omega)only[t38,go_sem,d,c]
theorem bR9{S:aA}{a:Ax}{f:VF}{out:IV}{k:Sk}{b:Nat}(h:SpS S a f out k)(d:S[b]?=some (.cells 40 false [.ptr a.j 43 0]))(x:Int):(lim K).call 41 [j_ x,.ptr b 40 0] S=.ret (.iv (.bool (pR f.regs x)),S):=by
 have c:=h.blk;unfold spB at c;unfold pR;refine aI K _ (fn:=t41) rfl rfl ?_;by_cases hx:(f.regs:Int)<=x;.rw[V_ hx];simp(disch:=omega)only[t41,go_sem,d,c]
 .rw[Z_ hx];simp(disch:=omega)only[t41,go_sem,d,c]
theorem aVa{g b:Nat}{x:Int}{v:TV}{S:aA}(h:(lim K).call g [j_ x,.ptr b 40 0] S=.ret (v,S)):cvA (lim K) false S g (j_ x::[.ptr b 40 0])=.ret (v,S):=by simp only[go_sem,h]
def nE(r:Nat)(i:Nat):List Int:=(List.range' i (r-i)).map fun n:Nat=>(n:Int)
theorem aDw{r i:Nat}(h:i<r):nE r i=(i:Int)::nE r (i+1):=by unfold nE;rw[show r-i=(r-(i+1))+1 by omega,X1,Q_]
theorem aXo{r i:Nat}(h:r<=i):nE r i=[]:=by unfold nE;rw[show r-i=0 by omega];rfl
theorem SpS.keepO{S S':aA}{a:Ax}{f:VF}{out:IV}{k:Sk}(h:SpS S a f out k){q:Nat}{b:aG}(g:bL [q] S S')(m:S[q]?=some b)(i:∀n w e,b≠.tok n w e)(r:q≠a.j)(s:q≠a.jm):SpS S' a f out k:=by
 obtain⟨l,d,p,o⟩:=h.map;refine⟨g.get _ _ (by simp;omega) h.blk,⟨l,d,g.get _ _ (by simp;omega) p,o⟩,fun c=>?_,fun c=>?_,h.ne,h.oc⟩;.exact g.get _ _ (by have:=mV (h.ti c) m i;simp;omega) (h.ti c)
 .exact g.get _ _ (by have:=mV (h.tf c) m i;simp;omega) (h.tf c)
theorem aVb{a:Ax}{f:VF}{out:IV}{k0:Sk}{b j:Nat}(u:f.regs<=100000)(r:j≠a.j)(jm:j≠a.jm)(jb:j≠b)(x0 x2 h x4 x7 x8:TV):∀(k i:Nat) (S:aA) (l:Ta_) (x9:TV),i+k=max i f.regs->l.length+k<=500000->l≠[]->RwB S j l->SpS S a f out k0->S[b]?=some (.cells 40 false [.ptr a.j 43 0]) ->∃S' m,lp' (lim K) t15L0 [x0,.ptr b 40 0,x2,h,x4,rwV j l,j_ i,x7,x8,x9] S = .ret (.exit 2,[x0,.ptr b 40 0,x2,h,x4,rwV j (l++nE f.regs i),j_ (max i f.regs:Nat),x7,x8,m],S')/\RwB S' j (l++nE f.regs i)/\bL [j] S S'
 |0,i,S,l,x9,hk,hl,h0,hb,hs,hbx=>by have g:f.regs<=i:=A_;rw[aXo g,A0,show max i f.regs=i by omega];have c:=hs.blk;unfold spB at c;refine⟨S,z_,aE K _ _ t15L0.eq_1 ?_,hb,bL.refl _ _⟩;simp(disch:=omega)only[go_sem,hbx,c]
 |k+1,i,S,l,x9,hk,hl,h0,hb,hs,hbx=>by have g:i<f.regs:=A_;have c:=hs.blk;obtain⟨C,S1,A,d,n,o,_⟩:=bEb hb A_ (i:Int);obtain rfl:=o h0;have x:=hs.keepO n (hb h0) B_ r jm;have w:=n.get _ _ (by simp;omega) hbx;have q:=lX hb;have v:=lX d;have y:=q.wb;have z:=q.loc;have t:=v.wb;obtain⟨S',m,s,e,p⟩:=aVb u r jm jb x0 x2 h x4 x7 x8 k (i+1) S1 (l++[(i:Int)]) e_ A_ (by simp;omega) B_ d x w;rw[show((i+1:Nat):Int)=(i:Int)+1 by omega,show max (i+1) f.regs=max i f.regs by omega,A8,List.singleton_append,<-aDw g]at s;rw[A8,List.singleton_append,<-aDw g]at e;refine⟨S',m,aE K _ _ t15L0.eq_1 ?_,e,n.trans p⟩;unfold spB at c;simp(disch:=omega)only[go_sem,hbx,c,y,z,A,t,aC];exact X_ er s
def sF:List Int->List Int->List Int
 |σ,[]=>σ
 |σ,n::l=>sF (if n∈σ then σ else σ++[n]) l
theorem aXp(σ:Ta_)(n m:Int)(a:n∉σ):cC (σ++[n]) m=if n=m then some σ.length else cC σ m:=by
 unfold cC;rw[Y4];by_cases e:n=m;.rw[K_ e,<-e];have:σ.findIdx? (fun x=>x==n)=none:=jG.2 a;rw[this];simp
 .rw[I_ e];have:[n].findIdx? (fun x=>x==m)=none:=by simp[e]
  rw[this];simp
theorem aQl{f:VF}{out:IV}{a:Ax}{e cp:Nat}{l:Ta_}{J:Tn_}{v:Nat}(hl:l.length<=1000000)(Y:e≠a.j)(V:e≠a.jm):∀(m i:Nat) (S:aA) (k:Sk) (x2 I x4 x8 x9:TV),i+m=l.length->SpS S a f out k->S[e]?=some (.cells v true (l.map vI++J)) ->∃S' H z y F A,lp' (lim K) t39L0 [.ptr a.j 43 0,.msl e v 0 l.length cp 1,x2,I,x4,.msl e v 0 l.length cp 1,j_ l.length,j_ i,x8,x9] S = .ret (.exit 0,[.ptr a.j 43 0,.msl e v 0 l.length cp 1,H,z,y,.msl e v 0 l.length cp 1,j_ l.length,j_ l.length,F,A],S')/\SpS S' a f out ⟨sF k.s (l.drop i),k.r,k.c,k.o⟩/\KN [a.jm] S S'
 |0,i,S,k,x2,I,x4,x8,x9,h,hs,hj=>by
  obtain rfl:i=l.length:=A_;refine⟨S,x2,I,x4,z_,x9,aE K _ _ t39L0.eq_1 ?_,?_,KN.refl _ _⟩;.simp(disch:=omega)only[go_sem]
  .rw[D7];exact hs
 |m+1,i,S,k,x2,I,x4,x8,x9,h,hs,hj=>by
  have g:i<l.length:=A_;have Q:=sU g;have Z:=jK (j:=e) (v:=v) (cap:=cp) g;have R:=pE (J:=J) g;have L:=hs.blk;obtain⟨d,c,w,N,W⟩:=hs.map;have C:=hj;rw[Q,sF];generalize l.getD i 0=n at *
  simp only[vI]at R;by_cases hn:n∈k.s;.obtain⟨q,u⟩:=aW1 hn;have U:=uW (c:=c) (l:=d) (m:=n) (v:=(q:Int)) (by rw[N,u];rfl);rw[K_ hn];obtain⟨S',H,z,y,F,A,G,p,t⟩:=aQl (cp:=cp) hl Y V m (i+1) S k (j_ n) (.lb [j_ q]) e_ e_ z_ A_ hs hj;rw[show((i+1:Nat):Int)=(i:Int)+1 by omega]at G;refine⟨S',H,z,y,F,A,aE K _ _ t39L0.eq_1 ?_,p,t⟩;unfold spB at L;simp(disch:=omega)only[go_sem,Z,C,R,L,w,U,aC];exact X_ er G
  .have u:=jG.2 hn;have U:=xS (c:=c) (l:=d) (m:=n) (by rw[N,u];rfl);rw[I_ hn];have T:=aN w;have kn:KN [a.jm] S (S.set a.jm (.mp (mpR kE (gT d c n k.s.length)) (rV d c n))):=KN.set ..;have g0:∀q b,q≠a.jm->S[q]?=some b->(S.set a.jm (.mp (mpR kE (gT d c n k.s.length)) (rV d c n)))[q]?=some b:=fun q b u hb=>by rw[aB (B0 u)];exact hb
   have P:SpS (S.set a.jm (.mp (mpR kE (gT d c n k.s.length)) (rV d c n))) a f out ⟨k.s++[n],k.r,k.c,k.o⟩:=by
    refine⟨g0 _ _ (B0 hs.jne) hs.blk,⟨_,_,aM T _,fun x=>?_,?_⟩,fun D=>g0 _ _ ?_ (hs.ti D),fun D=>g0 _ _ ?_ (hs.tf D),hs.ne,hs.oc⟩;.rw[qS,N,aXp _ _ _ hn];split<;>rfl
    .rw[bPl];have:cB d n=false:=by unfold cB;rw[N,u];rfl
     rw[this,W];simp
    .exact mV (hs.ti D) w B_
    .exact mV (hs.tf D) w B_
   have E:sI .mp S (.map a.jm)=some (j_ k.s.length):=by
    have:(mpR kE d).length=k.s.length:=by rw[aLn,W]
    simp[sI,zS,lenOf,w,this];rfl
   have up:∀env:Env,upB (.leaf .int) env S a.jm (some (.mp (mpR kE d) c)) (j_ n) (.iv (.agg [.int .i64 (k.s.length:Int)]))=some (TM.undef,env,S.set a.jm (.mp (mpR kE (gT d c n k.s.length)) (rV d c n))):=fun env=>aCw ..;obtain⟨S',H,z,y,F,A,G,p,t⟩:=aQl (cp:=cp) hl Y V m (i+1) _ ⟨k.s++[n],k.r,k.c,k.o⟩ (j_ n) (.lb [j_ 0]) z_ e_ e_ A_ P (g0 _ _ V hj);rw[show((i+1:Nat):Int)=(i:Int)+1 by omega]at G;refine⟨S',H,z,y,F,A,aE K _ _ t39L0.eq_1 ?_,p,kn.trans t⟩;unfold spB at L;generalize hS1:S.set a.jm (.mp (mpR kE (gT d c n k.s.length)) (rV d c n))=S1 at *
   simp(disch:=omega)only[go_sem,Z,C,R,L,w,U,E,up,aC];exact X_ er G
theorem bSa{f:VF}{out:IV}{a:Ax}{d cp:Nat}{l:Ta_}{J:Tn_}{v:Nat}(m:l.length<=1000000)(n:d≠a.j)(p:d≠a.jm){S:aA}{k:Sk}(h:SpS S a f out k)(i:S[d]?=some (.cells v true (l.map vI++J))): ∃S',(lim K).call 39 [.ptr a.j 43 0,.msl d v 0 l.length cp 1] S=.ret (u_,S')/\SpS S' a f out ⟨sF k.s l,k.r,k.c,k.o⟩/\KN [a.jm] S S':=by obtain⟨S',t,w,u,q,x,g,b,e⟩:=aQl (cp:=cp) m n p l.length 0 S k u_ u_ u_ u_ u_ A_ h i;rw[n0_]at g;rw[C4]at b;refine⟨S',aI K _ (fn:=t39) rfl rfl ?_,b,e⟩;simp(disch:=omega)only[t39,go_sem];rw[g];simp(disch:=omega)only[go_sem]
def wN(r:Nat)(l:List Int):List Int:=flp (pR r) (if l.any (pR r)then l++nE r 32 else l)
def gY(n:Nat)(o:Nat->Int):List Int:=zP ((List.range n).map o)
inductive Reach (f:VF):List Int->Prop
 |nil:Reach f []
 |step {σ:List Int} {n:Nat} {o:Nat->Int} (h:Reach f σ) (hn:(n:Int)=rwR σ f.regs f.ins) (hc:zO (plC σ f.regs f.ins) n o) (h0:gY n o≠[]):Reach f (sF σ (wN f.regs (gY n o)))
structure aJ0 (f:VF) (σ:List Int):Prop where
 virt:aDg σ
 lt:∀n∈σ,n<f.regs
 nd:σ.Nodup
theorem uX{n:Nat}{o:Tg_}{x:Int}:x∈gY n o↔∃m:Nat,m<n/\x=m/\o m<0:=by
 unfold gY zP;have c:∀m,m<n->((List.range n).map o).getD m 0=o m:=fun m a=>by rw[b_,l_,E8 a];rfl
 simp only[r_,B5,C2,P_,F6,p_];constructor;.rintro⟨m,⟨a,b⟩,rfl⟩;rw[c m a]at b;exact⟨m,a,rfl,b⟩
 .rintro⟨m,a,rfl,b⟩;exact⟨m,⟨a,by rw[c m a];exact b⟩,rfl⟩
theorem aDx{r:Nat}{x:Int}:x∈nE r 32↔32<=x/\x<r:=by
 unfold nE;simp only[r_,L8];constructor;.rintro⟨m,c,rfl⟩;omega
 .rintro⟨b,a⟩;exact⟨x.toNat,by omega,by omega⟩
theorem uY:∀(l σ:Ta_) (x:Int),x∈sF σ l↔x∈σ\/x∈l
 |[],σ,x=>by simp[sF]
 |n::l,σ,x=>by
  rw[sF,uY l];by_cases h:n∈σ
  .rw[K_ h,J_];constructor
   .rintro(a|a);.exact .inl a
    .exact .inr (.inr a)
   .rintro(a|rfl|a);.exact .inl a
    .exact .inl h
    .exact .inr a
  .rw[I_ h,U_,S_,J_,AB]
theorem bEc:∀(l σ:Ta_),σ.Nodup->(sF σ l).Nodup
 |[],σ,h=>h
 |n::l,σ,h=>by
  rw[sF];refine bEc l _ ?_;split;.exact h
  .rename_i hn;rw[H4];exact⟨h,by simp,fun a d b c e=>hn (by rw[S_]at c;rw[<-c,<-e];exact d)⟩
theorem aVc{f:VF}{n:Nat}{o:Tg_}(c:∀m,m<32->o m=m){x:Int}(h:x∈wN f.regs (gY n o)):32<=x/\x<f.regs:=by
 unfold wN flp at h;obtain⟨a,e⟩:=B5.1 h;have d:x<f.regs:=by unfold pR at e;simp at e;omega
 refine⟨?_,d⟩;have b:x∈gY n o->32<=x:=fun g=>by
  obtain⟨m,_,rfl,i⟩:=uX.1 g;by_cases h4:m<32;.rw[c m h4]at i;omega
  .omega
 split at a
 .rcases U_.1 a with a|a;.exact b a
  .exact(aDx.1 a).1
 .exact b a
theorem aJ0.put{f:VF}{σ:Ta_}(h:aJ0 f σ){n:Nat}{o:Tg_}(a:∀m,m<32->o m=m):aJ0 f (sF σ (wN f.regs (gY n o))):=by
 refine⟨fun x b=>?_,fun x b=>?_,bEc _ _ h.nd⟩
 .rcases(uY ..).1 b with h1|h1;.exact h.virt x h1
  .exact(aVc a h1).1
 .rcases(uY ..).1 b with h1|h1;.exact h.lt x h1
  .exact(aVc a h1).2
theorem aJ0.nil(f:VF):aJ0 f []:=⟨fun x a=>(by cases a),fun x a=>(by cases a),Y7⟩
theorem Reach.ok{f:VF}{σ:Ta_}(h:Reach f σ):aJ0 f σ:=by
 induction h with
 |nil=>exact .nil f
 |step _ _ hc _ ih=>exact ih.put hc.mach
theorem aJ0.len{f:VF}{σ:Ta_}(h:aJ0 f σ):σ.length<=f.regs-32:=by have:=oU σ (nE f.regs 32) h.nd fun x a=>aDx.2 ⟨h.virt x a,h.lt x a⟩;unfold nE at this;rw[P_,List.length_range']at this;exact this
theorem more{f:VF}(w:qB f){σ:Ta_}(h:aJ0 f σ){n:Nat}{o:Tg_}(Q:(n:Int)=rwR σ f.regs f.ins)(u:zO (plC σ f.regs f.ins) n o)(L:gY n o≠[]):σ.length<(sF σ (wN f.regs (gY n o))).length:=by
 have A:=aCg w;have j:=bPy w;have N:=(pG w).1.1;have key:∃x,x∈wN f.regs (gY n o)/\x∉σ:=by
  have q:∀m:Nat,m<n->o m<0->32<=m/\o m = -1:=fun m k a=>by
   by_cases h4:m<32;.rw[u.mach m h4]at a;omega
   .have:=u.virt m A_ k;omega
  cases ha:(gY n o).any (pR f.regs)with
  |true =>
   apply K5;intro C;have r:∀x:Int,32<=x->x<f.regs->x∈σ:=fun x p s=>by apply K5;intro g;refine C ⟨x,?_,g⟩;unfold wN flp;rw[ha,K_ rfl];refine B5.2 ⟨J5 _ (aDx.2 ⟨p,s⟩),?_⟩;unfold pR;simp;omega
   obtain⟨x,g,G⟩:=E5.1 ha;obtain⟨m,k,rfl,a⟩:=uX.1 g;obtain⟨b,E⟩:=q m k a;unfold pR at G;have F:(f.regs:Int)<=(m:Int):=I6 G;have H:=u.spill m b k E;obtain⟨t,i,_⟩:=H 1 (L_ _) A_;obtain⟨c,e,v,D⟩:=aW6 A h.virt A_ j F i;obtain⟨Li,Lo,P,p2,p3,J⟩:=w.crd c v.1;exact aF4 A h.virt A_ j r v P p2 p3 J u.mach (fun d p s=>by rw[<-D];exact H d p s)
  |false =>
   obtain⟨x,g⟩:=List.exists_mem_of_ne_nil _ L;obtain⟨m,k,rfl,a⟩:=uX.1 g;obtain⟨b,E⟩:=q m k a;have l:=q_.1 ha _ g;unfold pR at l;simp at l;refine⟨m,?_,fun I=>?_⟩;.unfold wN flp;rw[ha,I_ C_];refine B5.2 ⟨g,?_⟩;unfold pR;simp;omega
   .obtain⟨t,i,_⟩:=u.spill m b k E 1 (L_ _) A_;exact aW5 A h.virt A_ j I A_ i
 obtain⟨x,p,s⟩:=key;have:=oU (x::σ) (sF σ (wN f.regs (gY n o))) (C7.2 ⟨s,h.nd⟩) fun y z=>by
  rcases J_.1 z with rfl|z;.exact(uY ..).2 (.inr p)
  .exact(uY ..).2 (.inl z)
 rw[List.length_cons]at this;omega
end Go.Proofs.YtehlgnfhkidgoaaGreatDoor
