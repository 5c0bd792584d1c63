/- Some texts of the proof, joined. Condition: none. -/
import Derived.Test.YtehlgnfhkidgoaaGreatDoorJb
import Derived.Test.YtehlgnfhkidgoaaGreatDoorJc
import Derived.Test.YtehlgnfhkidgoaaGreatDoorJd
import Derived.Test.YtehlgnfhkidgoaaGreatDoorJa
import Derived.Test.YtehlgnfhkidgoaaGreatDoorJe
import Derived.Test.YtehlgnfhkidgoaaGreatDoorTmE
set_option linter.unusedSectionVars false
set_option maxRecDepth 100000
set_option maxHeartbeats 64000000
set_option linter.unusedSimpArgs false
set_option linter.unusedVariables false
namespace Go.Proofs.YtehlgnfhkidgoaaGreatDoor
open Go Go.TM
structure Sk where
 s:List Int
 r:Int
 c:List VI
 o:List Int
structure Ax where
 j:Nat
 jm:Nat
 ji:Nat
 jf:Nat
def spB(a:Ax)(f:VF)(out:IV)(k:Sk):aG:=.cells 43 false [.iv (.int .i64 f.fn),.iv (.int .i64 f.regs),.iv (.int .i64 f.sl),.iv (.int .i64 f.nd),.iv (.int .i64 f.pr),.iv (.bool f.rs),.iv (.sl f.ti (f.ins.map aJ)),.iv (.int .i64 f.fn),.iv (.int .i64 k.r),.iv (.int .i64 f.sl),.iv (.int .i64 f.nd),.iv (.int .i64 f.pr),.iv (.bool f.rs),acc a.ji (k.c.map aJ),acc a.jf (aZ k.o),.map a.jm,.iv out]
def SlM(S:aA)(jm:Nat)(σ:List Int):Prop:=∃(l:List (Nat×Int×Int)) (c:Nat),S[jm]?=some (.mp (mpR kC l) c)/\(∀n,dK l n=(bV σ n).map fun i:Nat=>(i:Int))/\l.length=σ.length
structure SpS (S:aA) (a:Ax) (f:VF) (out:IV) (k:Sk):Prop where
 blk:S[a.j]?=some (spB a f out k)
 map:SlM S a.jm k.s
 ti:At 8 28 (k.c.map aJ) a.ji S
 tf:At 1 3 (aZ k.o) a.jf S
 ne:k.c≠[]->k.o≠[]->a.ji≠a.jf
 oc:mZ out=true
structure KN (I:List Nat) (S S':aA):Prop where
 len:S.length<=S'.length
 get:∀q b,q∉I->(∀n w e,b≠.tok n w e)->S[q]?=some b->S'[q]?=some b
theorem KN.refl(I:Tc_)(S:aA):KN I S S:=⟨O_ _,fun _ _ _ _ h=>h⟩
theorem KN.trans{I:Tc_}{S S' S'':aA}(h:KN I S S')(g:KN I S' S''):KN I S S'':=⟨B9 h.len g.len,fun q b a c h3=>g.get q b a c (h.get q b a c h3)⟩
theorem KN.mono{I J:Tc_}{S S':aA}(h:KN I S S')(c:∀q∈I,q∈J):KN J S S':=⟨h.len,fun q b a d h3=>h.get q b (fun e=>a (c q e)) d h3⟩
theorem KN.app(I:Tc_)(S L:aA):KN I S (S++L):=⟨by simp,fun q b _ _ h=>aR h L⟩
theorem KN.set(j:Nat)(S:aA)(b:aG):KN [j] S (S.set j b):=⟨by simp,fun q c h _ a=>by rw[aB (fun e=>h (by simp[e]))];exact a⟩
theorem KN.get1{j:Nat}{S S':aA}(h:KN [j] S S'){q:Nat}{b:aG}(d:q≠j)(c:∀n w e,b≠.tok n w e)(a:S[q]?=some b):S'[q]?=some b:=h.get q b (by simpa using d) c a
theorem KN.grow{w el:Nat}{l:M_}{i:Nat}{S:aA}(I:Tc_)(h:At w el l i S):KN I S (gS1 w el l i S):=⟨by unfold gS1;split<;>simp,fun q b _ a c=>nQ h c a⟩
theorem mT{S:aA}{i q w el:Nat}{n:Nat}{b:aG}(h:S[i]?=some (.tok n w el))(a:S[q]?=some b)(c:∀n w e,b≠.tok n w e):i≠q:=by rintro rfl;rw[h]at a;exact c _ _ _ (D6 a).symm
theorem SlM.keep{S S':aA}{jm j:Nat}{σ:Ta_}(h:SlM S jm σ)(k:KN [j] S S')(d:jm≠j):SlM S' jm σ:=by obtain⟨l,c,a,b⟩:=h;exact⟨l,c,k.get1 d B_ a,b⟩
theorem SpS.jne{S:aA}{a:Ax}{f:VF}{out:IV}{k:Sk}(h:SpS S a f out k):a.jm≠a.j:=by intro e;obtain⟨l,c,b,_⟩:=h.map;have:=h.blk;rw[<-e,b]at this;unfold spB at this;simp at this
def Sk.fresh(k:Sk):Sk:=⟨k.s,k.r+1,k.c,k.o⟩
theorem bD3{S:aA}{a:Ax}{f:VF}{out:IV}{k:Sk}(h:SpS S a f out k)(i:0<=k.r/\k.r<=1000000):(lim K).call 59 [.ptr a.j 43 0] S=.ret (j_ k.r,S.set a.j (spB a f out k.fresh))/\SpS (S.set a.j (spB a f out k.fresh)) a f out k.fresh:=by
 have d:=h.blk;have e:=aN d;have g:=fun b=>aM e b;refine⟨?_,aM e _,h.map.keep (KN.set a.j S _) h.jne,fun c=>?_,fun c=>?_,h.ne,h.oc⟩
 .unfold spB Sk.fresh at *
  refine aI K _ (fn:=t59) rfl rfl ?_;simp(disch:=omega)only[t59,go_sem,d,g,aC,Int.add_sub_cancel]
 .rw[aB (B0 (mT (h.ti c) d (by simp[spB])))];exact h.ti c
 .rw[aB (B0 (mT (h.tf c) d (by simp[spB])))];exact h.tf c
theorem uS(x:VI):(aJ x).length=8/\(aJ x).all mZ=true:=⟨rfl,rfl⟩
theorem aVc(l:List VI):jE 8 (l.map aJ):=fun y a=>by
 obtain⟨x,_,rfl⟩:=A0.1 a
 exact uS x
def Sk.add(k:Sk)(x:VI)(i:Int):Sk:=⟨k.s,k.r,k.c++[x],k.o++[i]⟩
theorem aQm{S:aA}{a:Ax}{f:VF}{out:IV}{k:Sk}(h:SpS S a f out k)(U:k.c.length<=1000000)(T:k.o.length<=1000000)(x:VI)(i:Int): ∃S' G,(lim K).call 60 [.ptr a.j 43 0,.iv (.agg (aJ x)),j_ i] S=.ret (u_,S')/\SpS S' G f out (k.add x i)/\KN [a.j] S S'/\G.j=a.j/\G.jm=a.jm:=by
 have L:=h.blk;have N:(k.c.map aJ).length=k.c.length:=L_ _;have C:=bKs (b:=96) (t:=.full) h.ti (uS x) (aVc _) (bR (by rw[N];omega));have Q:=KN.grow [a.j] h.ti;have A:=nQ h.ti L (by simp[spB]);have E:=aI2 h.ti (aJ x);have y:At 1 3 (aZ k.o) a.jf (gS1 8 28 (k.c.map aJ) a.ji S):=fun d=>by
  have F:=h.tf d;unfold gS1;by_cases hc0:k.c.map aJ=[]
  .rw[K_ hc0];exact aR F _
  .rw[I_ hc0,aB (h.ne (fun e=>hc0 (by rw[e];rfl)) (fun e=>d (by rw[e];rfl)))];exact F
 generalize hS1:gS1 8 28 (k.c.map aJ) a.ji S=S1 at *
 generalize hji:gI (k.c.map aJ) a.ji S=ji at *
 have p:=aN A;generalize hB1:(spB ⟨a.j,a.jm,ji,a.jf⟩ f out ⟨k.s,k.r,k.c++[x],k.o⟩)=B1 at *
 have D:∀n w e,B1≠.tok n w e:=by rw[<-hB1];simp[spB]
 have b2:(S1.set a.j B1)[a.j]?=some B1:=aM p _;have l:At 1 3 (aZ k.o) a.jf (S1.set a.j B1):=fun d=>by rw[aB (B0 (mT (y d) A (by simp[spB])))];exact y d
 have v:At 8 28 ((k.c++[x]).map aJ) ji (S1.set a.j B1):=by rw[E2];intro d;have:=E d;rw[aB (B0 (mT this A (by simp[spB])))];exact this
 have z:=bKs (b:=8) (t:=.full) (c:=[.int .i64 i]) l ⟨rfl,rfl⟩ (nB _) (bR (by rw[eK];omega));have b3:=nQ l b2 D;have P:=KN.grow [a.j] l;have q:=aI2 l [.int .i64 i];rw[bB0]at z q;have m:ji≠gI (aZ k.o) a.jf (S1.set a.j B1):=by
  have g:=v B_;unfold gI;split;.have:=aN g;omega
  .rename_i d;rw[<-hji];unfold gI;split;.rename_i hc0;have F:=aN (h.tf d);omega
   .rename_i hc0;exact h.ne (fun e=>hc0 (by rw[e];rfl)) (fun e=>d (by rw[e];rfl))
 have H:At 8 28 ((k.c++[x]).map aJ) ji (gS1 1 3 (aZ k.o) a.jf (S1.set a.j B1)):=fun d=>by
  have g:=v d;unfold gI at m;unfold gS1;split;.exact aR g _
  .rename_i ho0;rw[I_ ho0]at m;rw[aB (B0 m)];exact g
 generalize hS3:gS1 1 3 (aZ k.o) a.jf (S1.set a.j B1)=S3 at *
 generalize hjf:gI (aZ k.o) a.jf (S1.set a.j B1)=jf at *
 have u:=aN b3;have J:KN [a.j] S (S3.set a.j (spB ⟨a.j,a.jm,ji,jf⟩ f out (k.add x i))):=(Q.trans (KN.set a.j S1 B1)).trans (P.trans (KN.set a.j S3 _));refine⟨S3.set a.j (spB ⟨a.j,a.jm,ji,jf⟩ f out (k.add x i)),⟨a.j,a.jm,ji,jf⟩,?_,⟨aM u _,h.map.keep J h.jne,fun d=>?_,fun d=>?_,fun _ _=>m,h.oc⟩,J,rfl,rfl⟩
 .have I:(k.c++[x]).map aJ=k.c.map aJ++[aJ x]:=by rw[E2];rfl
  unfold spB Sk.add at *
  dsimp only at *
  rw[I]at hB1 |-;subst hB1;rw[cV]at *
  generalize k.c.map aJ=Cs at *
  generalize aZ (k.o++[i])=Os at *
  generalize aZ k.o=O0 at *
  have R:=fun b=>aM p b;refine aI K _ (fn:=t60) rfl rfl ?_;simp(disch:=omega)only[t60,go_sem,L,C,A,b2,z,b3]
 .have:=H d;rw[aB (B0 (mT this b3 D))];exact this
 .have:=q (by simp[aZ,TM.one]);rw[aB (B0 (mT this b3 D))];exact this
theorem SpS.setO{S:aA}{a:Ax}{f:VF}{out:IV}{k:Sk}(h:SpS S a f out k){q:Nat}{b:aG}(m:S[q]?=some b)(i:∀n w e,b≠.tok n w e)(o:q≠a.j)(s:q≠a.jm)(c:aG):SpS (S.set q c) a f out k:=by
 obtain⟨l,d,r,p⟩:=h.map;refine⟨by rw[aB o];exact h.blk,⟨l,d,by rw[aB s];exact r,p⟩,fun g=>?_,fun g=>?_,h.ne,h.oc⟩;.rw[aB (B0 (mT (h.ti g) m i))];exact h.ti g
 .rw[aB (B0 (mT (h.tf g) m i))];exact h.tf g
structure On (S:aA) (n:Nat) (a:Ax) (f:VF) (out:IV) (k:Sk) (i:Int) (ld:Int->Option Int) (st ad:Int):Prop where
 sp:SpS S a f out k
 bs:S[n]?=some (.cells 40 false [.ptr a.j 43 0])
 bf:S[n+1]?=some (.cells 4 false [.iv (.int .i64 i)])
 lm:∃(l:List (Nat×Int×Int)) (c:Nat),S[n+2]?=some (.mp (mpR kC l) c)/\∀m,dK l m=ld m
 bl:S[n+3]?=some (.cells 41 false [.map (n+2)])
 bt:S[n+4]?=some (.cells 4 false [.iv (.int .i64 st)])
 ba:S[n+5]?=some (.cells 80 false [.iv (.int .i64 ad)])
 lt:a.j<n/\a.jm<n
theorem On.keep{S S':aA}{n:Nat}{a d:Ax}{f:VF}{out:IV}{k k':Sk}{i:Int}{m:Int->Option Int}{st e:Int}(h:On S n a f out k i m st e)(b:KN [a.j] S S')(p:SpS S' d f out k')(g:d.j=a.j)(o:d.jm=a.jm):On S' n d f out k' i m st e:=by have q:=h.lt;obtain⟨l,c,h3,r⟩:=h.lm;exact⟨p,by rw[g];exact b.get1 A_ B_ h.bs,b.get1 A_ B_ h.bf,⟨l,c,b.get1 A_ B_ h3,r⟩,b.get1 A_ B_ h.bl,b.get1 A_ B_ h.bt,b.get1 A_ B_ h.ba,by rw[g,o];exact q⟩
theorem xM{l:Td_}{c:Nat}{m:Int}(h:dK l m=none):lkB (.leaf .int) (.agg [.int .i64 0]) true (some (.mp (mpR kC l) c)) (j_ m)=some (.tup [.iv (.agg [.int .i64 0]),z_]):=by rw[aAj,h];rfl
theorem uT{l:Td_}{c:Nat}{m v:Int}(h:dK l m=some v):lkB (.leaf .int) (.agg [.int .i64 0]) true (some (.mp (mpR kC l) c)) (j_ m)=some (.tup [.iv (.agg [.int .i64 v]),e_]):=by rw[aAj,h];rfl
section
variable {S:aA}{n:Nat}{a:Ax}{f:VF}{out:IV}{k:Sk}{i:Int}{ld:Int->Option Int}{st ad:Int}(h:On S n a f out k i ld st ad)
include h
theorem aDt{m:Int}(d:bV k.s m=none):(lim K).call 58 [j_ m,.ptr n 40 0,.ptr (n+3) 41 0,.ptr (n+1) 4 0] S=.ret (j_ m,S):=by have b:=h.bs;have a:=h.sp.blk;obtain⟨l,c,h3,f,_⟩:=h.sp.map;have e:=xM (c:=c) (l:=l) (m:=m) (by rw[f,d];rfl);unfold spB at a;refine aI K _ (fn:=t58) rfl rfl ?_;simp(disch:=omega)only[t58,go_sem,b,a,h3,e]
theorem bLp{m:Int}{q:Nat}{r:Int}(o:bV k.s m=some q)(d:ld m=some r):(lim K).call 58 [j_ m,.ptr n 40 0,.ptr (n+3) 41 0,.ptr (n+1) 4 0] S=.ret (j_ r,S):=by have g:=h.bs;have a:=h.sp.blk;have b:=h.bl;obtain⟨l,c,h3,j,_⟩:=h.sp.map;obtain⟨l',c',e,f⟩:=h.lm;have i:=uT (c:=c) (l:=l) (m:=m) (v:=(q:Int)) (by rw[j,o];rfl);have e2:=uT (c:=c') (l:=l') (m:=m) (v:=r) (by rw[f,d]);unfold spB at a;refine aI K _ (fn:=t58) rfl rfl ?_;simp(disch:=omega)only[t58,go_sem,g,a,h3,i,b,e,e2]
theorem aVd{m:Int}{q:Nat}(hm:bV k.s m=some q)(hr:ld m=none)(Y:0<=k.r/\k.r<=1000000)(hc:k.c.length<=1000000)(ho:k.o.length<=1000000): ∃S' y,(lim K).call 58 [j_ m,.ptr n 40 0,.ptr (n+3) 41 0,.ptr (n+1) 4 0] S=.ret (j_ k.r,S')/\On S' n y f out (k.fresh.add (ldI k.r q) i) i (fun x=>if m=x then some k.r else ld x) st ad/\KN [a.j,n+2] S S'/\y.j=a.j/\y.jm=a.jm:=by
 have hl:=h.lt;have G:=h.bs;have z:=h.sp.blk;have V:=h.bl;have h8:=h.bf;obtain⟨l,c,h3,h4,_⟩:=h.sp.map;obtain⟨l',c',U,N⟩:=h.lm;have Z:=uT (c:=c) (l:=l) (m:=m) (v:=(q:Int)) (by rw[h4,hm];rfl);have e2:=xM (c:=c') (l:=l') (m:=m) (by rw[N,hr]);obtain⟨C,L⟩:=bD3 h.sp Y;have E:KN [a.j] S (S.set a.j (spB a f out k.fresh)):=KN.set a.j S _;generalize hS1:S.set a.j (spB a f out k.fresh)=S1 at *
 have u:=h.keep E L rfl rfl;have J:=u.bs;have P:=u.bl;have F:=E.get1 (q:=n+2) A_ B_ U;have g4:=u.bf;have s2:=L.setO F B_ A_ A_ (.mp (mpR kC (gV l' c' m k.r)) (rP l' c' m));have A:=aN F;have d:=fun(q:Nat) (D:q≠n+2)=>aB (S:=S1) (B0 D) (.mp (mpR kC (gV l' c' m k.r)) (rP l' c' m));have Q:=(d n A_).trans J;have f3:=(d (n+3) A_).trans P;have T:=(d (n+1) A_).trans g4;have f5:=(d (n+4) A_).trans u.bt;have f6:=(d (n+5) A_).trans u.ba;have W:=aM A (.mp (mpR kC (gV l' c' m k.r)) (rP l' c' m));generalize hS2:S1.set (n+2) (.mp (mpR kC (gV l' c' m k.r)) (rP l' c' m))=S2 at *
 obtain⟨S3,y,p,s3,R,H,t⟩:=aQm s2 hc ho (ldI k.r q) i;have kk:KN [a.j,n+2] S S3:=by
  refine((E.mono B_).trans ⟨?_,fun q b D hb I=>?_⟩).trans (R.mono B_);.rw[<-hS2];simp
  .rw[<-hS2,aB (fun e=>D (by simp[<-e]))];exact I
 have g:∀(q:Nat) (b:aG),q≠a.j->(∀n w e,b≠.tok n w e)->S2[q]?=some b->S3[q]?=some b:=fun q b G z h3=>R.get1 G z h3;refine⟨S3,y,?_,⟨s3,by rw[H];exact g _ _ A_ B_ Q,g _ _ A_ B_ T,⟨_,_,g _ _ A_ B_ W,fun x=>?_⟩,g _ _ A_ B_ f3,g _ _ A_ B_ f5,g _ _ A_ B_ f6,by rw[H,t];exact hl⟩,kk,H,t⟩
 .unfold spB at z;rw[show aJ (ldI k.r q)=[.int .i64 73,.int .i64 k.r,.int .i64 0,.int .i64 0,.int .i64 q,.int .i64 0,.sl .nil [],.sl .nil []] from rfl]at p;have up:∀env:Env,upB (.leaf .int) env S1 (n+2) (some (.mp (mpR kC l') c')) (j_ m) (.iv (.agg [.int .i64 k.r]))=some (TM.undef,env,S2):=fun env=>by rw[aCx,hS2]
  refine aI K _ (fn:=t58) rfl rfl ?_;simp(disch:=omega)only[t58,go_sem,G,z,h3,Z,V,U,e2,C,J,F,P,up,Q,T,p]
 .rw[qI,N]
theorem bD4{m:Int}(d:bV k.s m=none):(lim K).call 61 [j_ m,.ptr n 40 0,.ptr (n+4) 4 0,.ptr (n+5) 80 0] S=.ret (j_ m,S):=by have b:=h.bs;have a:=h.sp.blk;obtain⟨l,c,h3,f,_⟩:=h.sp.map;have e:=xM (c:=c) (l:=l) (m:=m) (by rw[f,d];rfl);unfold spB at a;refine aI K _ (fn:=t61) rfl rfl ?_;simp(disch:=omega)only[t61,go_sem,b,a,h3,e]
theorem bLq{m:Int}{q:Nat}(R:bV k.s m=some q)(G:0<=k.r/\k.r<=1000000): ∃S',(lim K).call 61 [j_ m,.ptr n 40 0,.ptr (n+4) 4 0,.ptr (n+5) 80 0] S=.ret (j_ k.r,S')/\On S' n a f out k.fresh i ld k.r q/\KN [a.j,n+4,n+5] S S':=by
 have I:=h.lt;have z:=h.bs;have p:=h.sp.blk;obtain⟨l,c,h3,Q,_⟩:=h.sp.map;have F:=uT (c:=c) (l:=l) (m:=m) (v:=(q:Int)) (by rw[Q,R];rfl);obtain⟨t,D⟩:=bD3 h.sp G;have E:KN [a.j] S (S.set a.j (spB a f out k.fresh)):=KN.set a.j S _;generalize hS1:S.set a.j (spB a f out k.fresh)=S1 at *
 have d:=h.keep E D rfl rfl;have A:=d.bs;have w:=d.bt;have u:=d.ba;have H:=D.setO w B_ A_ A_ (.cells 4 false [j_ k.r]);have e:=(aB (S:=S1) (show n+4≠n+5 by omega) (.cells 4 false [j_ k.r])).trans u;have J:=H.setO e B_ A_ A_ (.cells 80 false [j_ (q:Int)]);have g:∀x b,x≠n+4->x≠n+5->S1[x]?=some b->((S1.set (n+4) (.cells 4 false [j_ k.r])).set (n+5) (.cells 80 false [j_ (q:Int)]))[x]?=some b:=fun x b z p h3=>by rw[aB (B0 p),aB (B0 z)];exact h3
 have C:((S1.set (n+4) (.cells 4 false [j_ k.r])).set (n+5) (.cells 80 false [j_ (q:Int)]))[n+4]?=some (.cells 4 false [j_ k.r]):=by rw[aB A_,aM (aN w)]
 have L:((S1.set (n+4) (.cells 4 false [j_ k.r])).set (n+5) (.cells 80 false [j_ (q:Int)]))[n+5]?=some (.cells 80 false [j_ (q:Int)]):=aM (by have:=aN u;simpa using this) _;obtain⟨l',c',P,N⟩:=d.lm;refine⟨_,?_,⟨J,g _ _ A_ A_ A,g _ _ A_ A_ d.bf,⟨l',c',g _ _ A_ A_ P,N⟩,g _ _ A_ A_ d.bl,C,L,I⟩,⟨by rw[<-hS1];simp,fun x b o T y=>?_⟩⟩;.unfold spB at p;refine aI K _ (fn:=t61) rfl rfl ?_;simp(disch:=omega)only[t61,go_sem,z,p,h3,F,t,A,w,u,e,C]
 .simp only[J_,D5,I4,H1]at o;rw[aB (B0 o.2.2),aB (B0 o.2.1),<-hS1,aB (B0 o.1)];exact y
end
theorem aVe{t:Tag}{C:Ta_}(y:C.length<=9000000)(m:Int)(S:aA)(x2:TV):∀(k i:Nat) (g x6 x7:TV),i+k=C.length->(∀x∈C.take i,x≠m) ->∃(c:aW) (d n s o r:TV),lp' (lim K) t74L0 [.iv (.sl t (TM.one (.int .i64) C)),j_ m,x2,g,j_ C.length,j_ i,x6,x7] S = .ret (c,[.iv (.sl t (TM.one (.int .i64) C)),j_ m,d,n,j_ C.length,s,o,r],S) /\(c=.exit 0/\m∉C\/c=.ret/\m∈C/\∃q:Nat,d=j_ q)
 |0,i,g,x6,x7,hk,hq=>by obtain rfl:i=C.length:=A_;rw[C0]at hq;refine⟨.exit 0,x2,g,j_ C.length,z_,x7,aE K _ _ t74L0.eq_1 ?_,.inl ⟨rfl,fun h=>hq m h rfl⟩⟩;simp(disch:=omega)only[go_sem]
 |k+1,i,g,x6,x7,hk,hq=>by
  have b:i<C.length:=A_;have p:=pI (f:=IV.int .i64) (t:=t) (l:=C) (i:=(i:Int)) A_;rw[Int.toNat_natCast]at p;have u:=iR b;by_cases hd:m=C.getD i 0;.refine⟨.ret,j_ i,j_ i,j_ i,e_,e_,aE K _ _ t74L0.eq_1 ?_,.inr ⟨rfl,by rw[hd];exact nU b,i,rfl⟩⟩;have a:m=C.getD i default:=hd;simp(disch:=omega)only[go_sem,p,<-a]
  .obtain⟨c,d,n,s,o,r,v,w⟩:=aVe (t:=t) y m S x2 k (i+1) (j_ i) e_ z_ A_ (fun x j=>by
    rw[u,a_,U_]at j;rcases j with j|rfl;.exact hq x j
    .exact fun e=>hd e.symm)
   rw[show((i+1:Nat):Int)=(i:Int)+1 by omega]at v;refine⟨c,d,n,s,o,r,aE K _ _ t74L0.eq_1 ?_,w⟩;have a:¬m=C.getD i default:=hd;simp(disch:=omega)only[go_sem,p,a,aC];exact X_ er v
theorem aQn(t:Tag)(C:Ta_)(d:C.length<=9000000)(m:Int):TM.Pure K 45 [.iv (.sl t (TM.one (.int .i64) C)),j_ m] (.iv (.bool (decide (m∈C)))):=by
 obtain⟨j,g,e,h,i,f,c,b⟩:=aVe (t:=t) d m [] (j_ 0) C.length 0 u_ u_ u_ A_ B_;rw[n0_]at c;rcases b with⟨rfl,b⟩|⟨rfl,b,q,rfl⟩
 .rw[l_ b];have a:TM.Pure K 74 [.iv (.sl t (TM.one (.int .i64) C)),j_ m] (j_ (-1)):=by refine aT t74 rfl rfl ?_;simp(disch:=omega)only[t74,go_sem];rw[c];simp(disch:=omega)only[go_sem]
  refine aT t45 rfl rfl ?_;simp(disch:=omega)only[t45,go_sem,aD a]
 .rw[V_ b];have a:TM.Pure K 74 [.iv (.sl t (TM.one (.int .i64) C)),j_ m] (j_ q):=by refine aT t74 rfl rfl ?_;simp(disch:=omega)only[t74,go_sem];rw[c];simp(disch:=omega)only[go_sem]
  refine aT t45 rfl rfl ?_;simp(disch:=omega)only[t45,go_sem,aD a]
def nZ(fu:Nat)(cu:List TV)(us:List Int)(a ra:Int)(S S':aA):Prop:=if a∈us then(lim K).call fu (.iv (.int .i64 a)::cu) S=.ret (.iv (.int .i64 ra),S')else ra=low a/\S'=S
theorem bUg{fu:Nat}{cu:Tn_}(e:cu.all kM=false)(f:cu.any cA=false){us:Ta_}(g:us.length<=9000000){tt:Tag}{q k:Int}{S S':aA}(h:nZ fu cu us q k S S')(j:List TM.Fr)(x0 x2 x4 x6 x7 x8 x9 x10 x11 x12 x13 x14 x15 x16 d c c0 o l p i m n:TV): go' K (lim K) (.block 2 (.seq (.region [⟨.mov (.loc 5),none,none⟩,⟨.fieldAddr 2 (.loc 3),none,none⟩,⟨.load1 (.reg 1),none,none⟩,⟨.call true false 45 [(.reg 0),(.reg 2)],none,none⟩,⟨.mov (.reg 3),(some 13),none⟩]) (.cond (.loc 13) (.region [⟨.mov (.loc 1),none,none⟩,⟨.fieldAddr 2 (.loc 3),none,none⟩,⟨.load1 (.reg 1),none,none⟩,⟨.callv (.reg 0) [(.reg 2)],none,none⟩,⟨.fieldAddr 2 (.loc 3),none,none⟩,⟨.store 1 (.reg 4) (.reg 3),none,none⟩]) (.seq (.region [⟨.fieldAddr 2 (.loc 3),none,none⟩,⟨.load1 (.reg 0),none,none⟩,⟨.call true false 23 [(.reg 1)],none,none⟩,⟨.mov (.reg 2),(some 14),none⟩]) (.cond (.loc 14) (.region [⟨.fieldAddr 2 (.loc 3),none,none⟩,⟨.store 1 (.reg 0) (.cst (.int .i64 0)),none,none⟩]) .skip))))) j [x0,.fn fu [] cu,x2,.lb [c0,o,j_ q,l,p,i,m,n],x4,.iv (.sl tt (TM.one (.int .i64) us)),x6,x7,x8,x9,x10,x11,x12,x13,x14,x15,x16,d,c] S=bk' K (lim K) j .normal [x0,.fn fu [] cu,x2,.lb [c0,o,j_ k,l,p,i,m,n],x4,.iv (.sl tt (TM.one (.int .i64) us)),x6,x7,x8,x9,x10,x11,x12,.iv (.bool (decide (q∈us))),(if q∈us then x14 else .iv (.bool (decide (32<=q)))),x15,x16,d,c] S':=by
 have a:=aQn tt us g q;have b:=zG q;unfold nZ at h;by_cases hm:q∈us;.rw[K_ hm]at h |-;rw[V_ hm]at a |-;simp(disch:=omega)only[go_sem,aD a,e,f,h]
 .rw[I_ hm]at h |-;obtain⟨rfl,rfl⟩:=h;rw[l_ hm]at a |-;unfold low;by_cases h32:32<=q;.rw[V_ h32]at b |-;rw[K_ h32];simp(disch:=omega)only[go_sem,aD a,aD b]
  .rw[l_ h32]at b |-;rw[I_ h32];simp(disch:=omega)only[go_sem,aD a,aD b]
theorem bUh{fu:Nat}{cu:Tn_}(e:cu.all kM=false)(f:cu.any cA=false){us:Ta_}(g:us.length<=9000000){tt:Tag}{q k:Int}{S S':aA}(h:nZ fu cu us q k S S')(j:List TM.Fr)(x0 x2 x4 x6 x7 x8 x9 x10 x11 x12 x13 x14 x15 x16 d c c0 n o p i l m:TV): go' K (lim K) (.block 3 (.seq (.region [⟨.mov (.loc 5),none,none⟩,⟨.fieldAddr 3 (.loc 3),none,none⟩,⟨.load1 (.reg 1),none,none⟩,⟨.call true false 45 [(.reg 0),(.reg 2)],none,none⟩,⟨.mov (.reg 3),(some 15),none⟩]) (.cond (.loc 15) (.region [⟨.mov (.loc 1),none,none⟩,⟨.fieldAddr 3 (.loc 3),none,none⟩,⟨.load1 (.reg 1),none,none⟩,⟨.callv (.reg 0) [(.reg 2)],none,none⟩,⟨.fieldAddr 3 (.loc 3),none,none⟩,⟨.store 1 (.reg 4) (.reg 3),none,none⟩]) (.seq (.region [⟨.fieldAddr 3 (.loc 3),none,none⟩,⟨.load1 (.reg 0),none,none⟩,⟨.call true false 23 [(.reg 1)],none,none⟩,⟨.mov (.reg 2),(some 16),none⟩]) (.cond (.loc 16) (.region [⟨.fieldAddr 3 (.loc 3),none,none⟩,⟨.store 1 (.reg 0) (.cst (.int .i64 0)),none,none⟩]) .skip))))) j [x0,.fn fu [] cu,x2,.lb [c0,n,o,j_ q,p,i,l,m],x4,.iv (.sl tt (TM.one (.int .i64) us)),x6,x7,x8,x9,x10,x11,x12,x13,x14,x15,x16,d,c] S=bk' K (lim K) j .normal [x0,.fn fu [] cu,x2,.lb [c0,n,o,j_ k,p,i,l,m],x4,.iv (.sl tt (TM.one (.int .i64) us)),x6,x7,x8,x9,x10,x11,x12,x13,x14,.iv (.bool (decide (q∈us))),(if q∈us then x16 else .iv (.bool (decide (32<=q)))),d,c] S':=by
 have a:=aQn tt us g q;have b:=zG q;unfold nZ at h;by_cases hm:q∈us;.rw[K_ hm]at h |-;rw[V_ hm]at a |-;simp(disch:=omega)only[go_sem,aD a,e,f,h]
 .rw[I_ hm]at h |-;obtain⟨rfl,rfl⟩:=h;rw[l_ hm]at a |-;unfold low;by_cases h32:32<=q;.rw[V_ h32]at b |-;rw[K_ h32];simp(disch:=omega)only[go_sem,aD a,aD b]
  .rw[l_ h32]at b |-;rw[I_ h32];simp(disch:=omega)only[go_sem,aD a,aD b]
theorem bUi{fu:Nat}{cu:Tn_}(d:cu.all kM=false)(e:cu.any cA=false){us:Ta_}(f:us.length<=9000000){tt:Tag}{q k:Int}{S S':aA}(h:nZ fu cu us q k S S')(j:List TM.Fr)(x0 n x4 x5 x7 x8 x9 x10 x11 x12 x13 x14 x15 x16 g c c0 p l r i m o:TV): go' K (lim K) (.block 4 (.seq (.region [⟨.mov (.loc 6),none,none⟩,⟨.fieldAddr 1 (.loc 3),none,none⟩,⟨.load1 (.reg 1),none,none⟩,⟨.call true false 45 [(.reg 0),(.reg 2)],none,none⟩,⟨.mov (.reg 3),(some 17),none⟩]) (.cond (.loc 17) (.region [⟨.mov (.loc 2),none,none⟩,⟨.fieldAddr 1 (.loc 3),none,none⟩,⟨.load1 (.reg 1),none,none⟩,⟨.callv (.reg 0) [(.reg 2)],none,none⟩,⟨.fieldAddr 1 (.loc 3),none,none⟩,⟨.store 1 (.reg 4) (.reg 3),none,none⟩]) (.seq (.region [⟨.fieldAddr 1 (.loc 3),none,none⟩,⟨.load1 (.reg 0),none,none⟩,⟨.call true false 23 [(.reg 1)],none,none⟩,⟨.mov (.reg 2),(some 18),none⟩]) (.cond (.loc 18) (.region [⟨.fieldAddr 1 (.loc 3),none,none⟩,⟨.store 1 (.reg 0) (.cst (.int .i64 0)),none,none⟩]) .skip))))) j [x0,n,.fn fu [] cu,.lb [c0,j_ q,p,l,r,i,m,o],x4,x5,.iv (.sl tt (TM.one (.int .i64) us)),x7,x8,x9,x10,x11,x12,x13,x14,x15,x16,g,c] S=bk' K (lim K) j .normal [x0,n,.fn fu [] cu,.lb [c0,j_ k,p,l,r,i,m,o],x4,x5,.iv (.sl tt (TM.one (.int .i64) us)),x7,x8,x9,x10,x11,x12,x13,x14,x15,x16,.iv (.bool (decide (q∈us))),(if q∈us then c else .iv (.bool (decide (32<=q))))] S':=by
 have a:=aQn tt us f q;have b:=zG q;unfold nZ at h;by_cases hm:q∈us;.rw[K_ hm]at h |-;rw[V_ hm]at a |-;simp(disch:=omega)only[go_sem,aD a,d,e,h]
 .rw[I_ hm]at h |-;obtain⟨rfl,rfl⟩:=h;rw[l_ hm]at a |-;unfold low;by_cases h32:32<=q;.rw[V_ h32]at b |-;rw[K_ h32];simp(disch:=omega)only[go_sem,aD a,aD b]
  .rw[l_ h32]at b |-;rw[I_ h32];simp(disch:=omega)only[go_sem,aD a,aD b]
theorem bLr(t:Tag)(l:Ta_)(b:cB t l)(a:l.length<=1000000)(S:aA): (l=[]/\(lim K).call 44 [.iv (.sl t (TM.one (.int .i64) l))] S=.ret (.iv (.sl (zC t l) []),S)) \/(l≠[]/\(lim K).call 44 [.iv (.sl t (TM.one (.int .i64) l))] S=.ret (.msl S.length 0 0 l.length l.length 1,S++[.cells 0 true (l.map vI)])):=by
 rcases aP2 t l b a S with⟨rfl,_⟩|h
 .refine .inl ⟨rfl,?_⟩;rw[qK];unfold zC;rw[K_ rfl];refine aI K S (fn:=t44) rfl rfl ?_;cases t with
  |nil=>simp(disch:=omega)only[t44,go_sem,aTz]
  |full =>rw[I_ C_];simp(disch:=omega)only[t44,go_sem,aT0,aIx]
  |no =>rw[I_ C_];simp(disch:=omega)only[t44,go_sem,aT1,aIx]
 .exact .inr h
theorem map_take{g:Int->Int}{us:Ta_}{i:Nat}(h:i<us.length):((us.take i).map g++us.drop i).set i (g (us.getD i 0))=(us.take (i+1)).map g++us.drop (i+1):=by
 have a:((us.take i).map g).length=i:=by simp;omega
 rw[E3 _ _ A_,a,L8,sO h,List.set_cons_zero,iR h,E2,List.map_singleton,A9];rfl
theorem bD5{g:Int->Int}{us:Ta_}{i:Nat}(h:i<us.length):((us.take i).map g++us.drop i).getD i 0=us.getD i 0:=by
 have a:((us.take i).map g).length=i:=by simp;omega
 simp only[List.getD,r_ (show((us.take i).map g).length<=i by omega),a,L8,G5,Nat.add_zero]
theorem bD6{fu:Nat}{cu:Tn_}(f:cu.all kM=false)(h:cu.any cA=false){us:Ta_}(t:us.length<=1000000){g:Int->Int}{q:Nat}{S:aA}(D:q<S.length)(A:∀(B:aG) (u:Int),u∈us->(lim K).call fu (j_ u::cu) (S.set q B)=.ret (j_ (g u),S.set q B)) (x0 x2 x4 x5 x6 x13 x14 x15 x16 d b c0 x y p z n r:TV):∀(k i:Nat) (x7 x8 x12:TV),i+k=us.length ->∃o w c,lp' (lim K) t17L0 [x0,.fn fu [] cu,x2,.lb [c0,x,y,p,z,n,.msl q 0 0 us.length us.length 1,r],x4,x5,x6,x7,x8,.msl q 0 0 us.length us.length 1,j_ us.length,j_ i,x12,x13,x14,x15,x16,d,b] (S.set q (.cells 0 true (((us.take i).map g++us.drop i).map vI))) = .ret (.exit 0,[x0,.fn fu [] cu,x2,.lb [c0,x,y,p,z,n,.msl q 0 0 us.length us.length 1,r],x4,x5,x6,o,w,.msl q 0 0 us.length us.length 1,j_ us.length,j_ us.length,c,x13,x14,x15,x16,d,b],S.set q (.cells 0 true ((us.map g).map vI)))
 |0,i,x7,x8,x12,hk=>by obtain rfl:i=us.length:=A_;rw[C0,E0,A4];refine⟨x7,x8,z_,aE K _ _ t17L0.eq_1 ?_⟩;simp(disch:=omega)only[go_sem]
 |k+1,i,x7,x8,x12,hk=>by
  have a:i<us.length:=A_;have e:((us.take i).map g++us.drop i).length=us.length:=by simp;omega
  have H:=iO (j:=q) (v:=0) (cap:=us.length) a;have l:=oY (C:=(us.take i).map g++us.drop i) (J:=[]) (i:=i) A_;have m:=aIq (C:=(us.take i).map g++us.drop i) (J:=[]) (i:=i) (g (us.getD i 0)) A_;rw[bD5 a]at l;rw[map_take a]at m;simp only[A4]at l m;have I:=A (.cells 0 true (((us.take i).map g++us.drop i).map vI)) (us.getD i 0) (nU a);have F:=aM D (.cells 0 true (((us.take i).map g++us.drop i).map vI));have G:∀B,(S.set q (.cells 0 true (((us.take i).map g++us.drop i).map vI))).set q B=S.set q B:=fun B=>H0 ..;have s:i+1<=(((us.take i).map g++us.drop i).map vI).length:=by rw[L_,e];omega
  obtain⟨o,w,c,E⟩:=bD6 f h t D A x0 x2 x4 x5 x6 x13 x14 x15 x16 d b c0 x y p z n r k (i+1) (j_ i) (j_ (us.getD i 0)) e_ A_;rw[show((i+1:Nat):Int)=(i:Int)+1 by omega]at E;simp only[vI]at m l;refine⟨o,w,c,aE K _ _ t17L0.eq_1 ?_⟩;generalize hS1:S.set q (.cells 0 true (((us.take i).map g++us.drop i).map vI))=S1 at *
  simp(disch:=omega)only[go_sem,H,F,l,f,h,I,aC,s,m,G];exact X_ er E
def cpS(S:aA)(us:List Int):aA:=if us=[]then S else S++[.cells 0 true (us.map vI)]
def frS(S:aA)(q:Nat)(us:List Int):aA:=if us=[]then S else S.set q (.frz 0 (us.map (IV.int .i64)))
theorem bLs{S:aA}{q:Nat}{l:Ta_}(h:S[q]?=some (.cells 0 true (l.map vI)))(b a a2 a3 a4 a5 a7:IV)(d:l≠[]): zN (.agg [.iv b,.iv a,.iv a2,.iv a3,.iv a4,.iv a5,.msl q 0 0 l.length l.length 1,.iv a7]) S=some (.iv (.agg [b,a,a2,a3,a4,a5,.sl .no (TM.one (.int .i64) l),a7]),frS S q l):=by
 have c:=aC6 (J:=[]) (by rw[A4];exact h) l.length;have e2:toIVs (l.map vI)=some (l.map (IV.int .i64)):=by
  have:l.map vI=(l.map (IV.int .i64)).map .iv:=by rw[L7];rfl
  rw[this,fM]
 unfold frS;rw[I_ d];simp only[zN,wI,xP,aDw,c,Option.map_some,cJ,cJ.freezeC,lY,h,e2]
theorem bD7(x:VI)(R:x.us.length<=999990)(N:cB x.tu x.us){fu fd:Nat}{cu cd:Tn_}(k:cu.all kM=false)(j:cu.any cA=false)(w:cd.all kM=false)(E:cd.any cA=false){g:Int->Int}{S S2 S3 S4:aA}{ra rb rd:Int} (T:∀(B:aG) (u:Int),u∈x.us->(lim K).call fu (j_ u::cu) (S++[B])=.ret (j_ (g u),S++[B])) (U:nZ fu cu (bF x) x.a ra (cpS S (x.us.map g)) S2) (Q:nZ fu cu (bF x) x.b rb S2 S3) (P:nZ fd cd (aY x) x.d rd S3 S4) (V:x.us≠[]->S4[S.length]?=some (.cells 0 true ((x.us.map g).map vI))): ∃v,(lim K).call 17 [.iv (.agg (aJ x)),.fn fu [] cu,.fn fd [] cd] S=.ret (v,S4)/\zN v S4=some (.iv (.agg (aJ {x with a:=ra,b:=rb,d:=rd,us:=x.us.map g,tu:=zC x.tu x.us})),frS S4 S.length (x.us.map g)):=by
 obtain⟨t5,_,f⟩:=bCh x R N;obtain⟨t6,_,e⟩:=aP6 x;have o:(bF x).length<=9000000:=by
  have:∀l,l.length<=999992->(tdy l).length<=9000000:=fun l h=>by have:=uJ l;omega
  unfold bF;repeat' split
  .exact this _ B_
  .exact this _ B_
  .exact this _ (by simp;omega)
  .simp
 have z:(aY x).length<=9000000:=by have:=zA x;omega
 have s:=fun t=>bUg k j o (tt:=t) U;have I:=fun t=>bUh k j o (tt:=t) Q;have J:=fun t=>bUi w E z (tt:=t) P;obtain⟨op,d,a,b,m,lb,tu,us,tm,mp⟩:=x;dsimp only at *
 rw[cV]at f e |-;dsimp only at *
 rcases bLr tu us N A_ S with⟨rfl,i⟩|⟨D,i⟩;.have y:cpS S (([]:Ta_).map g)=S:=rfl;rw[y]at s;rw[qK]at f e i |-;refine⟨.iv (.agg [.int .i64 op,.int .i64 rd,.int .i64 ra,.int .i64 rb,.int .i64 m,.int .i64 lb,.sl (zC tu []) [],.sl tm (TM.one (.int .i64) mp)]),aI K _ (fn:=t17) rfl rfl ?_,rfl⟩;have L0:∀(y1 y2 y5 y6 A F r y13 y14 y15 y16 y17 y18:TV) c,lp' (lim K) t17L0 [y1,.fn fu [] cu,y2,.lb c,.lb [j_ 0,j_ 0,j_ 0,j_ 0,j_ 0,j_ 0,k_,k_],y5,y6,A,F,.iv (.sl (zC tu []) []),j_ 0,j_ 0,r,y13,y14,y15,y16,y17,y18] S=.ret (.exit 0,[y1,.fn fu [] cu,y2,.lb c,.lb [j_ 0,j_ 0,j_ 0,j_ 0,j_ 0,j_ 0,k_,k_],y5,y6,A,F,.iv (.sl (zC tu []) []),j_ 0,j_ 0,z_,y13,y14,y15,y16,y17,y18],S):=fun _ _ _ _ _ _ _ _ _ _ _ _ _ _=>aE K _ _ t17L0.eq_1 (by simp(disch:=omega)only[go_sem]);simp(disch:=omega)only[t17,go_sem,aD f,aD e,i,n0_,L0,s,I,J]
 .have n:us.map g≠[]:=by simpa using D
  have y:cpS S (us.map g)=S++[.cells 0 true ((us.map g).map vI)]:=by unfold cpS;rw[I_ n]
  rw[y]at s;have C:=V D;have st:∀B:aG,(S++[aG.cells 0 true (us.map vI)]).set S.length B=S++[B]:=fun B=>B_;have G:(us.map g).length=us.length:=L_ _;have H:=bLs C (.int .i64 op) (.int .i64 rd) (.int .i64 ra) (.int .i64 rb) (.int .i64 m) (.int .i64 lb) (.sl tm (TM.one (.int .i64) mp)) n;rw[G]at H;have p:zC tu us=.no:=by unfold zC;rw[I_ D]
  rw[p];refine⟨_,aI K _ (fn:=t17) rfl rfl ?_,H⟩;have L:=fun(y1 y2 y5 y6 y13 y14 y15 y16 y17 y18 k0 k1 k2 k3 k4 k5 k7:TV)=>bD6 k j (us:=us) (g:=g) (q:=S.length) (S:=S++[.cells 0 true (us.map vI)]) A_ B_ (fun B u W=>by rw[st];exact T B u W) y1 y2 (.lb [j_ 0,j_ 0,j_ 0,j_ 0,j_ 0,j_ 0,k_,k_]) y5 y6 y13 y14 y15 y16 y17 y18 k0 k1 k2 k3 k4 k5 k7 us.length 0 u_ u_ u_ A_;obtain⟨A,F,r,L⟩:=L (.iv (.agg [.int .i64 op,.int .i64 d,.int .i64 a,.int .i64 b,.int .i64 m,.int .i64 lb,.sl tu (TM.one (.int .i64) us),.sl tm (TM.one (.int .i64) mp)])) (.fn fd [] cd) (.iv (.sl t5 (TM.one (.int .i64) (bF ⟨op,d,a,b,m,lb,tu,us,tm,mp⟩)))) (.iv (.sl t6 (TM.one (.int .i64) (aY ⟨op,d,a,b,m,lb,tu,us,tm,mp⟩)))) u_ u_ u_ u_ u_ u_ (j_ op) (j_ d) (j_ a) (j_ b) (j_ m) (j_ lb) (.iv (.sl tm (TM.one (.int .i64) mp)));rw[List.take_zero,C3,List.nil_append,C4,st,st,n0_]at L;simp(disch:=omega)only[t17,go_sem,aD f,aD e,i,L,s,I,J]
theorem KN.old{I:Tc_}{j:Nat}{S S':aA}(h:KN I S S')(d:∀q∈I,q=j\/S.length<=q):KN [j] S S':=⟨h.len,fun q b g c a=>h.get q b (fun f=>by
 rcases d q f with e|e
 .exact g (by simp[e])
 .have:=aN a;omega) c a⟩
theorem SpS.app{S:aA}{a:Ax}{f:VF}{out:IV}{k:Sk}(h:SpS S a f out k)(L:aA):SpS (S++L) a f out k:=by obtain⟨l,c,e,d⟩:=h.map;exact⟨aR h.blk L,⟨l,c,aR e L,d⟩,fun b=>aR (h.ti b) L,fun b=>aR (h.tf b) L,h.ne,h.oc⟩
theorem On.app{S:aA}{n:Nat}{a:Ax}{f:VF}{out:IV}{k:Sk}{i:Int}{d:Int->Option Int}{st b:Int}(h:On S n a f out k i d st b)(L:aA):On (S++L) n a f out k i d st b:=by obtain⟨l,c,g,e⟩:=h.lm;exact⟨h.sp.app L,aR h.bs L,aR h.bf L,⟨l,c,aR g L,e⟩,aR h.bl L,aR h.bt L,aR h.ba L,h.lt⟩
theorem On.row{S:aA}{n:Nat}{a:Ax}{f:VF}{out:IV}{k:Sk}{i:Int}{r:Int->Option Int}{st p:Int}(h:On S n a f out k i r st p){q:Nat}{b:Bool}{cs:Tn_}(o:S[q]?=some (.cells 0 b cs))(c:aG):On (S.set q c) n a f out k i r st p:=by
 obtain⟨l,d,t,s⟩:=h.lm;obtain⟨l',v,u,_⟩:=h.sp.map;have j:∀ {x:Nat} {b:aG},S[x]?=some b->(∀b' cs',b≠.cells 0 b' cs')->q≠x:=fun g m e=>by rw[e,g]at o;exact m _ _ (D6 o)
 have go:∀ {x:Nat} {b:aG},S[x]?=some b->(∀b' cs',b≠.cells 0 b' cs')->(S.set q c)[x]?=some b:=fun g m=>by rw[aB (j g m)];exact g
 exact⟨h.sp.setO o B_ (j h.sp.blk (by simp[spB])) (j u B_) c,go h.bs B_,go h.bf B_,⟨l,d,go t B_,s⟩,go h.bl B_,go h.bt B_,go h.ba B_,h.lt⟩
def Sk.grow(k:Sk)(r:Int)(L:List VI)(i:Int):Sk:=⟨k.s,r,k.c++L,k.o++List.replicate L.length i⟩
theorem aMo(k:Sk)(i:Int):k.grow k.r [] i=k:=by simp[Sk.grow]
theorem bD8(k:Sk)(y:VI)(i:Int):k.fresh.add y i=k.grow (k.r+1) [y] i:=rfl
theorem nZ.yes{fu:Nat}{cu:Tn_}{us:Ta_}{a ra:Int}{S S':aA}(b:a∈us)(h:(lim K).call fu (j_ a::cu) S=.ret (j_ ra,S')):nZ fu cu us a ra S S':=by unfold nZ;rw[K_ b];exact h
theorem nZ.no{fu:Nat}{cu:Tn_}{us:Ta_}{a:Int}{S:aA}(b:a∉us):nZ fu cu us a (low a) S S:=by unfold nZ;rw[I_ b];exact⟨rfl,rfl⟩
def aMp(n:Nat):List TV:=[.ptr n 40 0,.ptr (n+3) 41 0,.ptr (n+1) 4 0]
def bLt(n:Nat):List TV:=[.ptr n 40 0,.ptr (n+4) 4 0,.ptr (n+5) 80 0]
section
variable {S:aA}{n:Nat}{a:Ax}{f:VF}{out:IV}{k:Sk}{i st ad:Int}{x:VI}
theorem bV6(h:On S n a f out k i (fun _=>none) st ad)(p:0<=k.r/\k.r<=1000000)(u:k.c.length<=1000000)(v:k.o.length<=1000000): ∃S' d,nZ 58 (aMp n) (bF x) x.a (opA k.s k.r x).2.1 S S'/\On S' n d f out (k.grow (opA k.s k.r x).2.2 (opA k.s k.r x).1 i) i (fun m=>if m=x.a/\(opA k.s k.r x).1≠[]then some (opA k.s k.r x).2.1 else none) st ad/\KN [a.j,n+2] S S'/\d.j=a.j/\d.jm=a.jm:=by
 unfold opA;by_cases hm:x.a∈bF x
 .rw[K_ hm];unfold qN;cases hs:bV k.s x.a with
  |none =>refine⟨S,a,.yes hm (aDt h hs),?_,KN.refl _ _,rfl,rfl⟩;simp only[ne_eq,C9,and_false,↓reduceIte,aMo];exact h
  |some q =>
   obtain⟨S',d,l,b,g,t,e2⟩:=aVd h hs rfl p u v;refine⟨S',d,.yes hm l,?_,g,t,e2⟩;rw[bD8]at b;have:(fun m=>if x.a=m then some k.r else(none:Option Int))=fun m=>if m=x.a/\[ldI k.r q]≠[]then some k.r else none:=by
    funext m;by_cases e:x.a=m;.rw[K_ e,K_ ⟨e.symm,by simp⟩]
    .rw[I_ e,I_ (fun h=>e h.1.symm)]
   rw[this]at b;exact b
 .rw[I_ hm];refine⟨S,a,.no hm,?_,KN.refl _ _,rfl,rfl⟩;simp only[ne_eq,C9,and_false,↓reduceIte,aMo];exact h
theorem bV7(h:On S n a f out (k.grow (opA k.s k.r x).2.2 (opA k.s k.r x).1 i) i (fun m=>if m=x.a/\(opA k.s k.r x).1≠[]then some (opA k.s k.r x).2.1 else none) st ad)(H:0<=k.r/\k.r<=100000)(I:k.c.length<=100000)(G:k.o.length<=100000): ∃S' g z,nZ 58 (aMp n) (bF x) x.b (opB k.s k.r x).2.1 S S'/\On S' n g f out (k.grow (opB k.s k.r x).2.2 ((opA k.s k.r x).1++(opB k.s k.r x).1) i) i z st ad/\KN [a.j,n+2] S S'/\g.j=a.j/\g.jm=a.jm:=by
 have C:=xC k.s k.r x;have F:(opA k.s k.r x).1.length<=1:=by rcases C.2 with h|⟨_,_,_,h,_⟩<;>rw[h]<;>simp
 have d:∀A,([]:List VI)=(opB k.s k.r x).1->(opB k.s k.r x).2.2=(opA k.s k.r x).2.2->(opB k.s k.r x).2.1=A->nZ 58 (aMp n) (bF x) x.b A S S->∃S' g z,nZ 58 (aMp n) (bF x) x.b (opB k.s k.r x).2.1 S S'/\On S' n g f out (k.grow (opB k.s k.r x).2.2 ((opA k.s k.r x).1++(opB k.s k.r x).1) i) i z st ad/\KN [a.j,n+2] S S'/\g.j=a.j/\g.jm=a.jm:=fun A v e2 e3 l=>by refine⟨S,a,fun m=>if m=x.a/\(opA k.s k.r x).1≠[]then some (opA k.s k.r x).2.1 else none,by rw[e3];exact l,?_,KN.refl _ _,rfl,rfl⟩;rw[e2,<-v,A4];exact h
 by_cases hm:x.b∈bF x
 .cases hs:bV k.s x.b with
  |none =>
   have l:nZ 58 (aMp n) (bF x) x.b x.b S S:=.yes hm (aDt h hs);by_cases e:x.b=x.a
   .refine d x.b ?_ ?_ ?_ l;.unfold opB;rw[K_ hm,K_ e]
    .unfold opB;rw[K_ hm,K_ e]
    .unfold opB opA qN;rw[K_ hm,K_ e];dsimp only;rw[K_ (by rw[<-e];exact hm),<-e,hs]
   .refine d x.b ?_ ?_ ?_ l;.unfold opB qN;rw[K_ hm,I_ e,hs]
    .unfold opB qN;rw[K_ hm,I_ e,hs]
    .unfold opB qN;rw[K_ hm,I_ e,hs]
  |some q =>
   by_cases e:x.b=x.a
   .have w:x.a∈bF x:=by rw[<-e];exact hm
    have E:(opA k.s k.r x).1≠[]:=by unfold opA qN;rw[K_ w,<-e,hs];simp
    refine d (opA k.s k.r x).2.1 ?_ ?_ ?_ ?_;.unfold opB;rw[K_ hm,K_ e]
    .unfold opB;rw[K_ hm,K_ e]
    .unfold opB;rw[K_ hm,K_ e]
    .exact .yes hm (bLp h hs (by rw[K_ ⟨e,E⟩]))
   .have p:0<=(k.grow (opA k.s k.r x).2.2 (opA k.s k.r x).1 i).r/\(k.grow (opA k.s k.r x).2.2 (opA k.s k.r x).1 i).r<=1000000:=by show 0<=(opA k.s k.r x).2.2/\(opA k.s k.r x).2.2<=_;rw[C.1];omega
    obtain⟨S',g,t,u,y,v,e2⟩:=aVd h hs (by rw[I_ (fun h=>e h.1)]) p (by show(k.c++(opA k.s k.r x).1).length<=_;rw[H_];omega) (by show(k.o++List.replicate (opA k.s k.r x).1.length i).length<=_;rw[H_,G1];omega);refine⟨S',g,fun m=>if x.b=m then some (opA k.s k.r x).2.2 else if m=x.a/\(opA k.s k.r x).1≠[]then some (opA k.s k.r x).2.1 else none,?_,?_,y,v,e2⟩;.unfold opB qN;rw[K_ hm,I_ e,hs];exact .yes hm t
    .have D:opB k.s k.r x=([ldI (opA k.s k.r x).2.2 q],(opA k.s k.r x).2.2,(opA k.s k.r x).2.2+1):=by unfold opB qN;rw[K_ hm,I_ e,hs]
     rw[D];dsimp only;have:(k.grow (opA k.s k.r x).2.2 (opA k.s k.r x).1 i).fresh.add (ldI (opA k.s k.r x).2.2 q) i=k.grow ((opA k.s k.r x).2.2+1) ((opA k.s k.r x).1++[ldI (opA k.s k.r x).2.2 q]) i:=by unfold Sk.grow Sk.fresh Sk.add;rw[H_,List.length_singleton,<-N1,A9,A9];rfl
     rw[<-this];exact u
 .refine d (low x.b) ?_ ?_ ?_ ?_;.unfold opB;rw[I_ hm]
  .unfold opB;rw[I_ hm]
  .unfold opB;rw[I_ hm]
  .exact .no hm
theorem bV8{m:Int->Option Int}(h:On S n a f out (k.grow (opB k.s k.r x).2.2 (bZ k.s k.r x) i) i m (-1) ad)(o:0<=k.r/\k.r<=100000): ∃S' b,nZ 61 (bLt n) (aY x) x.d (opD k.s k.r x).1 S S'/\(∃c,On S' n a f out (k.grow (eL k.s k.r x) (bZ k.s k.r x) i) i m b c/\((b = -1/\fH k.s k.r x=[])\/(0<=b/\∃q:Nat,c=q/\fH k.s k.r x=[stI b q])))/\KN [a.j,n+4,n+5] S S':=by
 have p:=jV k.s k.r x;unfold eL fH opD;by_cases hm:x.d∈aY x
 .rw[K_ hm];cases hs:bV k.s x.d with
  |none=>exact⟨S,-1,.yes hm (bD4 h hs),⟨ad,h,.inl ⟨rfl,rfl⟩⟩,KN.refl _ _⟩
  |some q =>obtain⟨S',e,l,g⟩:=bLq h hs (by show 0<=(opB k.s k.r x).2.2/\(opB k.s k.r x).2.2<=_;omega);exact⟨S',_,.yes hm e,⟨_,l,.inr ⟨by show 0<=(opB k.s k.r x).2.2;omega,q,rfl,rfl⟩⟩,g⟩
 .rw[I_ hm];exact⟨S,-1,.no hm,⟨ad,h,.inl ⟨rfl,rfl⟩⟩,KN.refl _ _⟩
end
theorem bPs(n:Nat):(aMp n).all kM=false/\(aMp n).any cA=false:=⟨rfl,rfl⟩
theorem bPt(n:Nat):(bLt n).all kM=false/\(bLt n).any cA=false:=⟨rfl,rfl⟩
theorem bLu(S:aA)(us:Ta_):∃L,cpS S us=S++L:=by
 unfold cpS;split;.exact⟨[],(A4 S).symm⟩
 .exact⟨_,rfl⟩
theorem bRs{S:aA}{a:Ax}{f:VF}{out:IV}{k:Sk}(h:SpS S a f out k)(hk:0<=k.r/\k.r<=90000)(hc:k.c.length<=90000)(ho:k.o.length<=90000)(x:VI)(hu:x.us.length<=999990)(ht:cB x.tu x.us)(he:∀u∈x.us,bV k.s u=none)(i:Int): ∃S' a',(lim K).call 33 [.ptr a.j 43 0,.iv (.agg (aJ x)),j_ i] S=.ret (u_,S')/\SpS S' a' f out (k.grow (eL k.s k.r x) (dM k.s k.r x) i)/\KN [a.j] S S'/\a'.j=a.j/\a'.jm=a.jm:=by
 have hf:=aN h.blk;have hh:a.jm<S.length:=by obtain⟨l,c,m,_⟩:=h.map;exact aN m
 obtain⟨n,hn⟩:∃n,S.length=n:=⟨_,rfl⟩
 obtain⟨S1,D⟩:∃T,S++[aG.cells 40 false [.ptr a.j 43 0]]=T:=⟨_,rfl⟩
 obtain⟨S2,z⟩:∃T,S1++[aG.cells 4 false [j_ i]]=T:=⟨_,rfl⟩
 obtain⟨S3,y⟩:∃T,S2++[aG.mp [] 0]=T:=⟨_,rfl⟩
 obtain⟨S4,w⟩:∃T,S3++[aG.cells 41 false [.map (n+2)]]=T:=⟨_,rfl⟩
 obtain⟨S5,A⟩:∃T,S4++[aG.cells 4 false [j_ (-1)]]=T:=⟨_,rfl⟩
 obtain⟨S6,C⟩:∃T,S5++[aG.cells 80 false [j_ 0]]=T:=⟨_,rfl⟩
 have l1:S1.length=n+1:=by rw[<-D,<-hn];simp
 have l2:S2.length=n+2:=by rw[<-z];simp[l1]
 have U:S3.length=n+3:=by rw[<-y];simp[l2]
 have l4:S4.length=n+4:=by rw[<-w];simp[U]
 have l5:S5.length=n+5:=by rw[<-A];simp[l4]
 have l6:S6.length=n+6:=by rw[<-C];simp[l5]
 have e6:S6=S++aG.cells 40 false [.ptr a.j 43 0]::aG.cells 4 false [j_ i]::aG.mp [] 0::aG.cells 41 false [.map (n+2)]::aG.cells 4 false [j_ (-1)]::aG.cells 80 false [j_ 0]::[]:=by rw[<-C,<-A,<-w,<-y,<-z,<-D];simp
 have Q:On S6 n a f out k i (fun _=>none) (-1) 0:=by
  refine⟨by rw[e6];exact h.app _,?_,?_,⟨[],0,?_,fun _=>rfl⟩,?_,?_,?_,by omega⟩;all_goals rw[e6,<-hn]
  .exact gN0 ..
  .exact gN1 ..
  .exact gN2 ..
  .exact gN3 ..
  .exact gN4 ..
  .exact gN5 ..
 have H:x.us.map (fun u=>u)=x.us:=List.map_id' _;obtain⟨L,hL⟩:=bLu S6 (x.us.map fun u=>u);obtain⟨T2,a2,rA,o2,k2,j2,m2⟩:=bV6 (x:=x) (by rw[hL];exact Q.app L:On (cpS S6 (x.us.map fun u=>u)) n a f out k i (fun _=>none) (-1) 0) A_ A_ A_;obtain⟨T3,a3,ld,rB,o3,k3,j3,m3⟩:=bV7 (x:=x) o2 A_ A_ A_;obtain⟨T4,st,rD,⟨ad,o4,h9⟩,k4⟩:=bV8 (x:=x) o3 A_;rw[j2]at k3 j3;rw[j3]at k4;rw[m2]at m3;have kT:KN [a.j,n+2,n+4,n+5] (cpS S6 (x.us.map fun u=>u)) T4:=(k2.mono B_).trans ((k3.mono B_).trans (k4.mono B_));have hq:x.us≠[]->T4[S6.length]?=some (.cells 0 true ((x.us.map fun u=>u).map vI)):=fun h0=>by refine kT.get _ _ (by simp;omega) B_ ?_;unfold cpS;rw[H,I_ h0];exact cN ..
 obtain⟨v,J,fz⟩:=bD7 x hu ht (bPs n).1 (bPs n).2 (bPt n).1 (bPt n).2 (g:=fun u=>u) (fun B u hm=>aDt (Q.app [B]) (he u hm)) rA rB rD hq;have W:({x with a:=(opA k.s k.r x).2.1,b:=(opB k.s k.r x).2.1,d:=(opD k.s k.r x).1,us:=x.us.map (fun u=>u),tu:=zC x.tu x.us}:VI)=eR k.s k.r x:=by rw[H];rfl
 rw[W,l6]at fz;have o5:On (frS T4 (n+6) (x.us.map fun u=>u)) n a3 f out (k.grow (eL k.s k.r x) (bZ k.s k.r x) i) i ld st ad:=by
  unfold frS;split;.exact o4
  .rename_i h0;have:=hq (fun e=>h0 (by rw[e];rfl));rw[l6]at this;exact o4.row this _
 have k5:KN [n+6] T4 (frS T4 (n+6) (x.us.map fun u=>u)):=by
  unfold frS;split;.exact KN.refl _ _
  .exact KN.set ..
 generalize frS T4 (n+6) (x.us.map fun u=>u)=T5 at *
 have hi:=(jV k.s k.r x).2;obtain⟨T6,a6,N,s6,k6,V,m6⟩:=aQm o5.sp (by show(k.c++bZ k.s k.r x).length<=_;rw[H_];omega) (by show(k.o++List.replicate (bZ k.s k.r x).length i).length<=_;rw[H_,G1];omega) (eR k.s k.r x) i;have p:=o5.keep k6 s6 V m6;rw[j3]at N k6 V;rw[m3]at m6;have b3:=o5.bs;rw[j3]at b3;have I:KN [a.j,n+2,n+4,n+5,n+6] S T6:=by
  have q1:KN [a.j,n+2,n+4,n+5,n+6] S S6:=by rw[e6];exact KN.app _ _ _
  have q2:KN [a.j,n+2,n+4,n+5,n+6] S6 (cpS S6 (x.us.map fun u=>u)):=by rw[hL];exact KN.app _ _ _
  exact q1.trans (q2.trans ((kT.mono B_).trans ((k5.mono B_).trans (k6.mono B_))))
 have hg:(k.grow (eL k.s k.r x) (bZ k.s k.r x) i).add (eR k.s k.r x) i=k.grow (eL k.s k.r x) (bZ k.s k.r x++[eR k.s k.r x]) i:=by unfold Sk.grow Sk.add;rw[H_,List.length_singleton,<-N1,A9,A9];rfl
 rw[hg]at s6 p;have b1:=Q.bs;have h4:=o5.bf;have h7:=p.bt;have h8:=p.bs;have hb:=p.ba;have ha:=p.bf;rw[V]at h8;have g3:=Q.bl;have E:∀b c:aG,(S3++[c]).set (n+3) b=S3++[b]:=fun b c=>by rw[<-U];simp
 have F:∀b c:aG,(S4++[c]).set (n+4) b=S4++[b]:=fun b c=>by rw[<-l4];simp
 have G:∀b c:aG,(S5++[c]).set (n+5) b=S5++[b]:=fun b c=>by rw[<-l5];simp
 have Z:∀b:aG,(S3++[b])[n+3]?=some b:=fun b=>by rw[<-U];exact cN ..
 have R:∀b:aG,(S4++[b])[n+4]?=some b:=fun b=>by rw[<-l4];exact cN ..
 have h1:∀b:aG,(S5++[b])[n+5]?=some b:=fun b=>by rw[<-l5];exact cN ..
 have ba:=Q.ba;have h5:=Q.bf;have h2:=jU ba;unfold aMp bLt at J;rcases h9 with⟨rfl,P⟩|⟨h0,q,rfl,P⟩
 .refine⟨T6,a6,aI K _ (fn:=t33) rfl rfl ?_,?_,I.old (by simp;omega),V,m6⟩
  .rw[cV]at *
   simp(disch:=omega)only[t33,go_sem,D,z,y,w,A,C,hn,l1,l2,U,l4,l5,Z,R,h1,ba,h5,h2,E,F,G,b1,h4,J,fz,N,h7,b3]
  .have:dM k.s k.r x=bZ k.s k.r x++[eR k.s k.r x]:=by unfold dM;rw[P]
   rw[this];exact s6
 .have h6:(k.grow (eL k.s k.r x) (bZ k.s k.r x++[eR k.s k.r x]) i).c.length<=1000000:=by show(k.c++(bZ k.s k.r x++[eR k.s k.r x])).length<=_;rw[H_,H_,List.length_singleton];omega
  have Y:(k.grow (eL k.s k.r x) (bZ k.s k.r x++[eR k.s k.r x]) i).o.length<=1000000:=by show(k.o++List.replicate (bZ k.s k.r x++[eR k.s k.r x]).length i).length<=_;rw[H_,G1,H_,List.length_singleton];omega
  obtain⟨T7,a7,t,s7,k7,j7,m7⟩:=aQm s6 h6 Y (stI st q) i;rw[V]at t k7 j7;rw[m6]at m7;refine⟨T7,a7,aI K _ (fn:=t33) rfl rfl ?_,?_,(I.trans (k7.mono B_)).old (by simp;omega),j7,m7⟩
  .rw[show aJ (stI st q)=[.int .i64 74,.int .i64 0,.int .i64 st,.int .i64 0,.int .i64 q,.int .i64 0,.sl .nil [],.sl .nil []] from rfl]at t;rw[cV]at *
   simp(disch:=omega)only[t33,go_sem,D,z,y,w,A,C,hn,l1,l2,U,l4,l5,Z,R,h1,ba,h5,h2,E,F,G,b1,h4,J,fz,N,h7,b3,h8,hb,ha,t]
  .have:dM k.s k.r x=(bZ k.s k.r x++[eR k.s k.r x])++[stI st q]:=by unfold dM;rw[P,A9];rfl
   rw[this];have hd:(k.grow (eL k.s k.r x) (bZ k.s k.r x++[eR k.s k.r x]) i).add (stI st q) i=k.grow (eL k.s k.r x) ((bZ k.s k.r x++[eR k.s k.r x])++[stI st q]) i:=by unfold Sk.grow Sk.add;dsimp only;simp only[H_,List.length_singleton,<-N1,A9];rfl
   rw[<-hd];exact s7
def frM(σ:List Int):Int->List VI->Nat->List Int
 |_,[],_=>[]
 |r,x::l,i=>List.replicate (dM σ r x).length (i:Int)++frM σ (eL σ r x) l (i+1)
def Sk.all(k:Sk)(l:List VI)(i:Nat):Sk:=⟨k.s,rwR k.s k.r l,k.c++bG k.s k.r l,k.o++frM k.s k.r l i⟩
theorem all_cons(k:Sk)(x:VI)(l:List VI)(i:Nat):(k.grow (eL k.s k.r x) (dM k.s k.r x) i).all l (i+1)=k.all (x::l) i:=by unfold Sk.all Sk.grow bG;rw[rwM,rwR,frM,List.flatten_cons,A9,A9]
theorem bLv(σ:Ta_)(r:Int)(x:VI):(dM σ r x).length<=4/\r<=eL σ r x/\eL σ r x<=r+3:=by have:=jV σ r x;have:=sN σ r x;have:=aCc σ r x;unfold dM;rw[H_,List.length_cons];omega
theorem bD9{f:VF}{out:IV}(H:f.ins.length<=10000)(q:∀x∈f.ins,x.us.length<=999990/\cB x.tu x.us){σ:Ta_}(n:∀x∈f.ins,∀u∈x.us,bV σ u=none)(j jm:Nat):∀(m i:Nat) (S:aA) (a:Ax) (k:Sk) (p x2 x6:TV),i+m=f.ins.length->SpS S a f out k->k.s=σ->a.j=j->a.jm=jm->0<=k.r/\k.r+4*m<=80000->k.c.length+4*m<=80000->k.o.length+4*m<=80000 ->∃S' e A y z,lp' (lim K) t14L0 [.ptr j 43 0,p,x2,.iv (.sl f.ti (f.ins.map aJ)),j_ f.ins.length,j_ i,x6] S = .ret (.exit 0,[.ptr j 43 0,A,y,.iv (.sl f.ti (f.ins.map aJ)),j_ f.ins.length,j_ f.ins.length,z],S')/\SpS S' e f out (k.all (f.ins.drop i) i)/\KN [j] S S'/\e.j=j/\e.jm=jm
 |0,i,S,a,k,p,x2,x6,h,hs,hk,hj,hjm,hr,hc,ho=>by
  obtain rfl:i=f.ins.length:=A_;refine⟨S,a,p,x2,z_,aE K _ _ t14L0.eq_1 ?_,?_,KN.refl _ _,hj,hjm⟩;.simp(disch:=omega)only[go_sem]
  .rw[E0];have:k.all [] f.ins.length=k:=by unfold Sk.all;simp[rwR,bG,rwM,frM]
   rw[this];exact hs
 |m+1,i,S,a,k,p,x2,x6,h,hs,hk,hj,hjm,hr,hc,ho=>by
  have d:i<f.ins.length:=A_;have g:=gC (w:=8) (f:=aJ) eZ (t:=f.ti) (l:=f.ins) (i:=(i:Int)) A_;rw[Int.toNat_natCast,cV]at g;have C:=bQ d;have v:f.ins.drop i=f.ins.getD i default::f.ins.drop (i+1):=by rw[A6 d];simp[List.getD,D_ d]
  have P:=bLv k.s k.r (f.ins.getD i default);obtain⟨S1,I,b,G,D,F,L⟩:=bRs hs ⟨hr.1,by omega⟩ A_ A_ (f.ins.getD i default) (q _ C).1 (q _ C).2 (by rw[hk];exact n _ C) (i:Int);rw[hj]at b D F;obtain⟨S',e,A,y,z,E,s',k',J,N⟩:=bD9 (out:=out) H q n j jm m (i+1) S1 I _ (j_ i) (.lb ((aJ (f.ins.getD i default)).map .iv)) e_ A_ G hk F (L.trans hjm) (by show 0<=eL k.s k.r _/\eL k.s k.r _+_<=_;omega) (by show(k.c++_).length+_<=_;rw[H_];omega) (by show(k.o++List.replicate _ _).length+_<=_;rw[H_,G1];omega);rw[show((i+1:Nat):Int)=(i:Int)+1 by omega,aS]at E;refine⟨S',e,A,y,z,aE K _ _ t14L0.eq_1 ?_,?_,D.trans k',J,N⟩
  .rw[cV]at b;generalize f.ins.getD i default=x at *
   simp(disch:=omega)only[go_sem,g,b,aC];exact X_ er E
  .rw[v,<-all_cons];exact s'
def sk0(σ:List Int)(f:VF):Sk:=⟨σ,rwR σ f.regs f.ins,bG σ f.regs f.ins,frM σ f.regs f.ins 0⟩
theorem SpS.start{S:aA}{a:Ax}{f:VF}{out:IV}{k:Sk}(h:SpS S a f out k):SpS (S.set a.j (spB a f out ⟨k.s,f.regs,[],[]⟩)) a f out ⟨k.s,f.regs,[],[]⟩ :=
 ⟨aM (aN h.blk) _,h.map.keep (KN.set a.j S _) h.jne,fun b=>absurd rfl b,fun b=>absurd rfl b,fun b=>absurd rfl b,h.oc⟩
theorem aVf{S:aA}{a:Ax}{f:VF}{out:IV}{σ:Ta_}(n A v D o q y C:TV)(l:S[a.j]?=some (.cells 43 false [j_ f.fn,j_ f.regs,j_ f.sl,j_ f.nd,j_ f.pr,.iv (.bool f.rs),.iv (.sl f.ti (f.ins.map aJ)),n,A,v,D,o,q,y,C,.map a.jm,.iv out]))(e:SpS (S.set a.j (spB a f out ⟨σ,f.regs,[],[]⟩)) a f out ⟨σ,f.regs,[],[]⟩)(r:f.ins.length<=10000)(J:f.regs<=30000)(t:∀x∈f.ins,x.us.length<=999990/\cB x.tu x.us)(i:∀x∈f.ins,∀u∈x.us,bV σ u=none): ∃S' d,(lim K).call 14 [.ptr a.j 43 0] S=.ret (u_,S')/\SpS S' d f out (sk0 σ f)/\KN [a.j] S S'/\d.j=a.j/\d.jm=a.jm:=by
 have g:=aN l;obtain⟨S',d,L,H,I,h,s',k',w,F⟩:=bD9 r t i a.j a.jm f.ins.length 0 _ a ⟨σ,f.regs,[],[]⟩ u_ u_ u_ A_ e rfl rfl rfl ⟨by show(0:Int)<=(f.regs:Int);omega,by show(f.regs:Int)+_<=_;omega⟩ (by simp;omega) (by simp;omega);rw[n0_]at h;have G:(⟨σ,f.regs,[],[]⟩:Sk).all (f.ins.drop 0) 0=sk0 σ f:=rfl;rw[G]at s';refine⟨S',d,aI K _ (fn:=t14) rfl rfl ?_,s',(KN.set a.j S _).trans k',w,F⟩;have p:=fun b=>aM g b;have E:=fun b c:aG=>(H0 ..:(S.set a.j b).set a.j c=S.set a.j c)
 have z:(f.ins.map aJ).length=f.ins.length:=L_ _;unfold spB at *
 rw[show(([]:List VI).map aJ)=[] from rfl,show aZ []=[] from rfl,mB,mB]at h;simp(disch:=omega)only[t14,go_sem,l,p,E,z];rw[h];simp(disch:=omega)only[go_sem]
theorem bRt{S:aA}{a:Ax}{f:VF}{out:IV}{k:Sk}(h:SpS S a f out k)(d:f.ins.length<=10000)(e:f.regs<=30000)(g:∀x∈f.ins,x.us.length<=999990/\cB x.tu x.us)(c:∀x∈f.ins,∀u∈x.us,bV k.s u=none): ∃S' b,(lim K).call 14 [.ptr a.j 43 0] S=.ret (u_,S')/\SpS S' b f out (sk0 k.s f)/\KN [a.j] S S'/\b.j=a.j/\b.jm=a.jm:=aVf _ _ _ _ _ _ _ _ h.blk h.start d e g c
def cC(C:List VI):List TV:=(TM.bC (C.map aJ)).map .iv
theorem gW(x:VI)(C:List VI):cC (x::C)=(aJ x).map .iv++cC C:=by unfold cC;rw[Q_,show TM.bC (aJ x::C.map aJ)=aJ x++TM.bC (C.map aJ) from rfl,E2]
theorem lG:∀C:List VI,(cC C).length=C.length*8
 |[]=>rfl
 |x::C=>by rw[gW,H_,lG C,List.length_cons];show 8+_=_;omega
theorem aF4(x:VI):((aJ x).map TV.iv).length=8:=rfl
theorem bPu:∀(C:List VI) (i:Nat),i<C.length->sub (cC C) (i*8) 8=some ((aJ (C.getD i default)).map .iv)
 |[],i,h=>by simp at h
 |x::C,0,h=>by rw[gW];simp only[sub,H_,aF4,show 0*8+8<=8+(cC C).length by omega,↓reduceIte,P4,C4];rw[K4 (aF4 x)];rfl
 |x::C,i+1,h=>by
  have a:=bPu C i (by simpa using h);have c:=lG C;have b:i<C.length:=by simpa using h
  unfold sub at a |-;rw[gW,H_,aF4];rw[K_ A_]at a |-;rw[show(i+1)*8=8+i*8 by omega,<-U3,L6 (aF4 x)];exact a
theorem bPv:∀(C:List VI) (i:Nat) (y:VI),i<C.length->put (cC C) (i*8) ((aJ y).map .iv)=cC (C.set i y)
 |[],i,y,h=>by simp at h
 |x::C,0,y,h=>by rw[List.set_cons_zero,gW,gW];unfold put;rw[aF4,P4,List.take_zero,A7,L6 (aF4 x),List.nil_append]
 |x::C,i+1,y,h=>by
  have a:=bPv C i y (by simpa using h);have c:=lG C;have b:i<C.length:=by simpa using h
  unfold put at a |-;rw[List.set_cons_succ,gW,gW,<-a,aF4,show(i+1)*8=8+i*8 by omega,show 8+i*8+8=8+(i*8+8) by omega,<-U3,L6 (aF4 x),X2,aF4];rw[K5 (by rw[aF4];omega),show 8+i*8-8=i*8 by omega];simp only[A9]
theorem bV9{q n i:Nat}(h:i<n):indexAddrS 8 (.msl q 0 0 n n 8) (i:Int)=some (.ptr q 0 (i*8)):=by unfold indexAddrS;rw[I_ A_];simp only[Int.toNat_natCast,A7];rw[K_ ⟨by omega,trivial⟩]
theorem aMq:∀C:List VI,cP 8 C.length (TM.bC (C.map aJ))=C.map aJ
 |[]=>rfl
 |x::C=>by rw[List.length_cons,Q_,show TM.bC (aJ x::C.map aJ)=aJ x++TM.bC (C.map aJ) from rfl,cP,K4 (show(aJ x).length=8 from rfl),L6 (show(aJ x).length=8 from rfl),aMq C]
theorem bLw{S:aA}{q:Nat}{b:Bool}{C:List VI}(h:S[q]?=some (.cells 0 b (cC C))):cH S (.msl q 0 0 C.length C.length 8)=some (C.map aJ):=by
 have a:sub (cC C) 0 (C.length*8)=some (cC C):=mC (lG C);have e2:toIVs (cC C)=some (TM.bC (C.map aJ)):=by unfold cC;rw[fM]
 simp only[cH,h,ne_eq,C9,↓reduceIte,a,e2,Option.map_some,aMq]
theorem bUj(C:List VI):(cC C).any bJ=false:=by
 induction C with
 |nil=>rfl
 |cons x C ih=>rw[gW,R5,ih];rfl
theorem bRu{S:aA}{j:Nat}{C:List VI}(b:C≠[])(g:C.length<=1000000):(lim K).call 64 [.tsl j (C.map aJ)] S=.ret (.msl S.length 0 0 C.length C.length 8,S++[.cells 0 true (cC C)]):=by
 have a:dU S (.tsl j (C.map aJ))=some (cC C):=rfl;have e2:lenOf S (.tsl j (C.map aJ))=some C.length:=by simp[lenOf]
 have e3:=bUj C;have e:C.length≠0:=fun h=>b (H3.1 h);have d:eA C.length 96=true:=bR A_;have f:bA true 8 96 28 S (.iv (.sl .full [])) (.tsl j (C.map aJ))=some (.msl S.length 0 0 C.length C.length 8,S++[.cells 0 true (cC C)]):=by simp[bA,a,e2,e3,e,d,bC,oL,lG]
 have c:TM.eqB .sl (.tsl j (C.map aJ)) k_=some false:=rfl;refine aI K S (fn:=t64) rfl rfl ?_;simp(disch:=omega)only[t64,go_sem,f,c]
theorem bLx{C:List VI}{i:Nat}(h:i<C.length):((C.take i).map plI++C.drop i).getD i default=C.getD i default/\((C.take i).map plI++C.drop i).set i (plI (C.getD i default))=(C.take (i+1)).map plI++C.drop (i+1):=by
 have a:((C.take i).map plI).length=i:=by simp;omega
 have b:C.drop i=C.getD i default::C.drop (i+1):=by rw[A6 h];simp[List.getD,D_ h]
 have c:C.take (i+1)=C.take i++[C.getD i default]:=by rw[G9,D_ h];simp[List.getD,D_ h]
 constructor;.simp only[List.getD,r_ (show((C.take i).map plI).length<=i by omega),a,L8,G5,Nat.add_zero]
 .rw[E3 _ _ A_,a,L8,b,List.set_cons_zero,c,E2,List.map_singleton,A9];rfl
theorem bEa{C:List VI}(J:C.length<=1000000){q:Nat}{S:aA}(H:q<S.length)(x0 z x9:TV)(c0 D E y F u:TV):∀(k i:Nat) (t x4 x8 x9 x10 x11:TV),i+k=C.length ->∃h j m l b c,lp' (lim K) t35L0 [x0,z,.lb [c0,D,E,y,F,u,.msl q 0 0 C.length C.length 8],t,x4,.msl q 0 0 C.length C.length 8,j_ C.length,j_ i,x8,x9,x10,x11] (S.set q (.cells 0 true (cC ((C.take i).map plI++C.drop i)))) = .ret (.exit 0,[x0,z,.lb [c0,D,E,y,F,u,.msl q 0 0 C.length C.length 8],h,j,.msl q 0 0 C.length C.length 8,j_ C.length,j_ C.length,m,l,b,c],S.set q (.cells 0 true (cC (C.map plI))))
 |0,i,t,x4,x8,x9,x10,x11,hk=>by obtain rfl:i=C.length:=A_;rw[C0,E0,A4];refine⟨t,x4,z_,x9,x10,x11,aE K _ _ t35L0.eq_1 ?_⟩;simp(disch:=omega)only[go_sem]
 |k+1,i,t,x4,x8,x9,x10,x11,hk=>by
  have s:i<C.length:=A_;obtain⟨G,p2⟩:=bLx s;have p:((C.take i).map plI++C.drop i).length=C.length:=by simp;omega
  have A:=bV9 (q:=q) s;have o:=bPu ((C.take i).map plI++C.drop i) i A_;have f:=bPv ((C.take i).map plI++C.drop i) i (plI (C.getD i default)) A_;rw[G,aS]at o;rw[p2]at f;have v:=aM H (.cells 0 true (cC ((C.take i).map plI++C.drop i)));have I:∀B,(S.set q (.cells 0 true (cC ((C.take i).map plI++C.drop i)))).set q B=S.set q B:=fun B=>H0 ..;have r:i*8+8<=(cC ((C.take i).map plI++C.drop i)).length:=by rw[lG,p];omega
  have IH:=fun(h j m l b c:TV)=>bEa J H x0 z x9 c0 D E y F u k (i+1) h j m l b c A_;have n:((i+1:Nat):Int)=(i:Int)+1:=A_;have same:plI (C.getD i default)=C.getD i default->S.set q (.cells 0 true (cC ((C.take (i+1)).map plI++C.drop (i+1))))=S.set q (.cells 0 true (cC ((C.take i).map plI++C.drop i))):=fun e=>by rw[<-p2,e,<-G,W_,D_ A_,Option.getD_some,J8]
  generalize hS1:S.set q (.cells 0 true (cC ((C.take i).map plI++C.drop i)))=S1 at *
  by_cases h1:(C.getD i default).op=73
  .have w:plI (C.getD i default)=⟨69,(C.getD i default).d,0,0,0,0,.nil,[],.nil,[]⟩:=by unfold plI;rw[K_ h1]
   rw[w,aS]at f;obtain⟨h,j,m,l,b,c,g⟩:=IH (j_ i) (.lb ((aJ (C.getD i default)).map .iv)) e_ (j_ 73) e_ x11;rw[n,aS,h1]at g;rw[h1]at o;refine⟨h,j,m,l,b,c,aE K _ _ t35L0.eq_1 ?_⟩;generalize C.getD i default=x at *
   dsimp only at f;rw[show TM.one (IV.int .i64) []=[] from rfl]at f;unfold put at f;simp only[List.length_cons,List.length_nil,A7,Nat.reduceAdd]at f;rw[<-f]at g;simp(disch:=omega)only[go_sem,A,v,o,aC,r,I];exact X_ er g
  .by_cases h2:(C.getD i default).op=74
   .have w:plI (C.getD i default)=⟨64,0,(C.getD i default).a,0,0,0,.nil,[],.nil,[]⟩:=by unfold plI;rw[I_ h1,K_ h2]
    rw[w,aS]at f;obtain⟨h,j,m,l,b,c,g⟩:=IH (j_ i) (.lb ((aJ (C.getD i default)).map .iv)) e_ (j_ 74) z_ e_;rw[n,aS,h2]at g;rw[h2]at o;refine⟨h,j,m,l,b,c,aE K _ _ t35L0.eq_1 ?_⟩;generalize C.getD i default=x at *
    dsimp only at f;rw[show TM.one (IV.int .i64) []=[] from rfl]at f;unfold put at f;simp only[List.length_cons,List.length_nil,A7,Nat.reduceAdd]at f;rw[<-f]at g;simp(disch:=omega)only[go_sem,A,v,o,aC,r,I];exact X_ er g
   .have same:=same (by unfold plI;rw[I_ h1,I_ h2]);obtain⟨h,j,m,l,b,c,g⟩:=IH (j_ i) (.lb ((aJ (C.getD i default)).map .iv)) e_ (.iv (.int .i64 (C.getD i default).op)) z_ z_;rw[n,aS,same]at g;refine⟨h,j,m,l,b,c,aE K _ _ t35L0.eq_1 ?_⟩;generalize C.getD i default=x at *
    simp(disch:=omega)only[go_sem,A,v,o,aC,h1,h2];exact X_ er g
theorem bRv{S:aA}{a:Ax}{f:VF}{out:IV}{k:Sk}(h:SpS S a f out k)(g:k.c≠[])(i:k.c.length<=1000000): (lim K).call 35 [.ptr a.j 43 0] S=.ret (.agg [j_ f.fn,j_ k.r,j_ f.sl,j_ f.nd,j_ f.pr,.iv (.bool f.rs),.msl S.length 0 0 k.c.length k.c.length 8],S++[.cells 0 true (cC (k.c.map plI))]):=by
 have b:=h.blk;have e:k.c.map aJ≠[]:=by simpa using g
 have d:=bRu (S:=S) (j:=a.ji) g i;have l:=aR b [aG.cells 0 true (cC k.c)];obtain⟨p,s,t,u,o,n,m⟩:=bEa (C:=k.c) i (q:=S.length) (S:=S++[.cells 0 true (cC k.c)]) B_ (.ptr a.j 43 0) (.lb [j_ 0,j_ 0,j_ 0,j_ 0,j_ 0,z_,k_]) u_ (j_ f.fn) (j_ k.r) (j_ f.sl) (j_ f.nd) (j_ f.pr) (.iv (.bool f.rs)) k.c.length 0 u_ u_ u_ u_ u_ u_ A_;have st:∀B:aG,(S++[aG.cells 0 true (cC k.c)]).set S.length B=S++[B]:=fun B=>B_;rw[List.take_zero,C3,List.nil_append,C4,st,st,n0_]at m;unfold spB at b l;rw[lO _ e]at b l;refine aI K _ (fn:=t35) rfl rfl ?_;simp(disch:=omega)only[t35,go_sem,b,d];rw[m];simp(disch:=omega)only[go_sem]
def rwV(j:Nat)(l:List Int):TV:=if l=[]then .iv (.sl .nil [])else .msl j (l.length-1) 0 l.length l.length 1
def RwB(S:aA)(j:Nat)(l:List Int):Prop:=l≠[]->S[j]?=some (.cells (l.length-1) true (l.map vI))
theorem bLy(j:Nat):rwV j []=k_:=rfl
theorem sU(j:Nat){l:Ta_}(h:l≠[]):rwV j l=.msl j (l.length-1) 0 l.length l.length 1:=I_ h
theorem bLz(S:aA)(j:Nat)(l:Ta_):rZ .sl S (rwV j l)=some (j_ l.length):=by
 unfold rwV;split;.rename_i h;rw[h];rfl
 .rfl
theorem lV{S:aA}{j:Nat}{l:Ta_}(h:RwB S j l):Slc S (rwV j l) l:=by
 by_cases h0:l=[]
 .subst h0;exact Slc.iv S .nil []
 .rw[sU j h0];exact Slc.msl (J:=[]) (by rw[A4];exact h h0)
theorem bEb{S:aA}{j:Nat}{l:Ta_}(h:RwB S j l)(f:l.length<=1000000)(r:Int): ∃a S',bA true 1 8 3 S (rwV j l) (.iv (.sl .full [[.int .i64 r]]))=some (rwV a (l++[r]),S')/\RwB S' a (l++[r])/\bL [a] S S'/\(l≠[]->a=j)/\(l=[]->a=S.length):=by
 by_cases h0:l=[]
 .subst h0;refine⟨S.length,S++[.cells 0 true [vI r]],aLz r C_ .full,fun _=>cN ..,bL.app _ _ _,fun h=>absurd rfl h,fun _=>rfl⟩
 .have c:=h h0;have g:0<l.length:=N2.2 h0;have e:=aP1 true r c f .full;have d:l++[r]≠[]:=B_;have b:(l++[r]).length=l.length+1:=B_;rw[show l.length-1+1=l.length by omega]at e;refine⟨j,_,by rw[sU j h0,sU j d,b,N6];exact e,fun _=>?_,bL.set S B_ _,fun _=>rfl,fun h=>absurd h h0⟩;rw[b,N6,aM (aN c)]
def aBy(C:List Int):List Int:=((List.range C.length).filter fun i=>decide (C.getD i 0<0)).map fun i:Nat=>(i:Int)
def aBz(C:List Int)(i:Nat):List Int:=((List.range i).filter fun i=>decide (C.getD i 0<0)).map fun i:Nat=>(i:Int)
theorem aXp(C:Ta_)(i:Nat):aBz C (i+1)=if C.getD i 0<0 then aBz C i++[(i:Int)]else aBz C i:=by
 unfold aBz;rw[R2,I5,E2];by_cases h:C.getD i 0<0;.rw[K_ h,E4,K_ (V_ h)];rfl
 .rw[I_ h,E4,I_ (by rw[l_ h];decide)];simp
theorem aMr(C:Ta_)(i:Nat):(aBz C i).length<=i:=by unfold aBz;rw[L_];exact B9 (D8 ..) B_
theorem aQo{t:Tag}{C:Ta_}(N:C.length<=100000)(e:Nat)(x0:TV):∀(k i:Nat) (S:aA) (j:Nat) (x2 A x7 x8:TV),i+k=C.length->RwB S j (aBz C i)->e<=S.length->(aBz C i≠[]->e<=j) ->∃S' c r n o v,lp' (lim K) t37L0 [x0,rwV j (aBz C i),x2,A,.iv (.sl t (TM.one (.int .i64) C)),j_ C.length,j_ i,x7,x8] S = .ret (.exit 0,[x0,rwV c (aBy C),r,n,.iv (.sl t (TM.one (.int .i64) C)),j_ C.length,j_ C.length,o,v],S')/\RwB S' c (aBy C)/\(∀q b,q<e->S[q]?=some b->S'[q]?=some b)/\S.length<=S'.length/\(aBy C≠[]->e<=c)
 |0,i,S,j,x2,A,x7,x8,hk,hb,hn,hj=>by obtain rfl:i=C.length:=A_;refine⟨S,j,x2,A,z_,x8,aE K _ _ t37L0.eq_1 ?_,hb,fun q b _ h=>h,O_ _,hj⟩;simp(disch:=omega)only[go_sem];rfl
 |k+1,i,S,j,x2,A,x7,x8,hk,hb,hn,hj=>by
  have U:i<C.length:=A_;have z:=pI (f:=IV.int .i64) (t:=t) (l:=C) (i:=(i:Int)) A_;rw[Int.toNat_natCast]at z;have d:=aXp C i;have Q:C.getD i default=C.getD i 0:=rfl;rw[Q]at z;have p:=lV hb;have J:=p.wb;have H:=p.loc;by_cases hd:C.getD i 0<0
  .rw[K_ hd]at d;have P:=aMr C i;obtain⟨L,S1,R,y,I,F,E⟩:=bEb hb A_ (i:Int);have w:e<=L:=by
    by_cases h0:aBz C i=[]
    .rw[E h0];exact hn
    .rw[F h0];exact hj h0
   have V:=(lV y).wb;have D:=I.len;obtain⟨S',c,r,n,o,v,s,g,m,u,a⟩:=aQo (t:=t) N e x0 k (i+1) S1 L (j_ i) (j_ (C.getD i 0)) e_ e_ A_ (by rw[d];exact y) A_ (fun _=>w);rw[d,show((i+1:Nat):Int)=(i:Int)+1 by omega]at s;refine⟨S',c,r,n,o,v,aE K _ _ t37L0.eq_1 ?_,g,fun q b T G=>m q b T ?_,by omega,a⟩
   .generalize C.getD i 0=x at *
    simp(disch:=omega)only[go_sem,z,hd,J,H,R,V,aC];exact X_ er s
   .exact I.get q b (by simp;omega) G
  .rw[I_ hd]at d;obtain⟨S',c,r,n,o,v,s,g,m,u,a⟩:=aQo (t:=t) N e x0 k (i+1) S j (j_ i) (j_ (C.getD i 0)) e_ z_ A_ (by rw[d];exact hb) hn (by rw[d];exact hj);rw[d,show((i+1:Nat):Int)=(i:Int)+1 by omega]at s;refine⟨S',c,r,n,o,v,aE K _ _ t37L0.eq_1 ?_,g,m,u,a⟩;generalize C.getD i 0=x at *
   simp(disch:=omega)only[go_sem,z,hd,J,H,aC];exact X_ er s
def Kp0(n0:Nat)(S S':aA):Prop:=S.length<=S'.length/\∀q b,q<n0->S[q]?=some b->S'[q]?=some b
theorem bRw(t:Tag)(C:Ta_)(y:C.length<=100000)(S:aA):∃S' g,(lim K).call 37 [.iv (.sl t (TM.one (.int .i64) C))] S=.ret (rwV g (aBy C),S')/\RwB S' g (aBy C)/\Kp0 S.length S S'/\(aBy C≠[]->S.length<=g):=by
 obtain⟨S',g,p,o,v,x,m,k,u,w,r⟩:=aQo (t:=t) y S.length (.iv (.sl t (TM.one (.int .i64) C))) C.length 0 S 0 u_ u_ u_ u_ A_ (fun h=>absurd rfl h) (O_ _) (fun h=>absurd rfl h);rw[n0_,show rwV 0 (aBz C 0)=k_ from rfl]at m;have i:=lV k;have q:=i.wb;have n:=i.loc;have s:∀S,kP [.loc 1] [.iv (.sl t (TM.one (.int .i64) C)),rwV g (aBy C),p,o,.iv (.sl t (TM.one (.int .i64) C)),j_ C.length,j_ C.length,v,x] S=some (rwV g (aBy C)):=fun S=>by rcases i.frm with⟨a,e⟩|⟨j,l,e⟩|⟨a,b,c,d,z,f,e⟩<;>rw[e]<;>rfl
 refine⟨S',g,aI K _ (fn:=t37) rfl rfl ?_,k,⟨w,u⟩,r⟩;simp(disch:=omega)only[t37,go_sem];rw[m];simp(disch:=omega)only[go_sem,q,n,s]
def pR(r:Nat)(x:Int):Bool:=decide ((r:Int)<=x)
theorem bRx{S:aA}{a:Ax}{f:VF}{out:IV}{k:Sk}{b:Nat}(h:SpS S a f out k)(d:S[b]?=some (.cells 40 false [.ptr a.j 43 0]))(x:Int):(lim K).call 38 [j_ x,.ptr b 40 0] S=.ret (.iv (.bool (pR f.regs x)),S):=by
 have c:=h.blk;unfold spB at c;unfold pR;refine aI K _ (fn:=t38) rfl rfl ?_;by_cases hx:(f.regs:Int)<=x;.rw[V_ hx];simp(disch:=omega)only[t38,go_sem,d,c]
 .rw[l_ hx];simp(disch:=omega)only[t38,go_sem,d,c]
theorem bRy{S:aA}{a:Ax}{f:VF}{out:IV}{k:Sk}{b:Nat}(h:SpS S a f out k)(d:S[b]?=some (.cells 40 false [.ptr a.j 43 0]))(x:Int):(lim K).call 41 [j_ x,.ptr b 40 0] S=.ret (.iv (.bool (pR f.regs x)),S):=by
 have c:=h.blk;unfold spB at c;unfold pR;refine aI K _ (fn:=t41) rfl rfl ?_;by_cases hx:(f.regs:Int)<=x;.rw[V_ hx];simp(disch:=omega)only[t41,go_sem,d,c]
 .rw[l_ hx];simp(disch:=omega)only[t41,go_sem,d,c]
theorem aVg{g b:Nat}{x:Int}{v:TV}{S:aA}(h:(lim K).call g [j_ x,.ptr b 40 0] S=.ret (v,S)):cvA (lim K) false S g (j_ x::[.ptr b 40 0])=.ret (v,S):=by simp only[go_sem,h]
def nA(r:Nat)(i:Nat):List Int:=(List.range' i (r-i)).map fun n:Nat=>(n:Int)
theorem aDu{r i:Nat}(h:i<r):nA r i=(i:Int)::nA r (i+1):=by unfold nA;rw[show r-i=(r-(i+1))+1 by omega,W4,Q_]
theorem aXq{r i:Nat}(h:r<=i):nA r i=[]:=by unfold nA;rw[show r-i=0 by omega];rfl
theorem SpS.keepO{S S':aA}{a:Ax}{f:VF}{out:IV}{k:Sk}(h:SpS S a f out k){q:Nat}{b:aG}(g:bL [q] S S')(m:S[q]?=some b)(i:∀n w e,b≠.tok n w e)(r:q≠a.j)(s:q≠a.jm):SpS S' a f out k:=by
 obtain⟨l,d,p,o⟩:=h.map;refine⟨g.get _ _ (by simp;omega) h.blk,⟨l,d,g.get _ _ (by simp;omega) p,o⟩,fun c=>?_,fun c=>?_,h.ne,h.oc⟩;.exact g.get _ _ (by have:=mT (h.ti c) m i;simp;omega) (h.ti c)
 .exact g.get _ _ (by have:=mT (h.tf c) m i;simp;omega) (h.tf c)
theorem aVh{a:Ax}{f:VF}{out:IV}{k0:Sk}{b j:Nat}(x:f.regs<=100000)(s:j≠a.j)(jm:j≠a.jm)(jb:j≠b)(x0 x2 n x4 x7 x8:TV):∀(k i:Nat) (S:aA) (l:Ta_) (x9:TV),i+k=max i f.regs->l.length+k<=500000->l≠[]->RwB S j l->SpS S a f out k0->S[b]?=some (.cells 40 false [.ptr a.j 43 0]) ->∃S' h,lp' (lim K) t15L0 [x0,.ptr b 40 0,x2,n,x4,rwV j l,j_ i,x7,x8,x9] S = .ret (.exit 2,[x0,.ptr b 40 0,x2,n,x4,rwV j (l++nA f.regs i),j_ (max i f.regs:Nat),x7,x8,h],S')/\RwB S' j (l++nA f.regs i)/\bL [j] S S'
 |0,i,S,l,x9,hk,hl,h0,hb,hs,hbx=>by have g:f.regs<=i:=A_;rw[aXq g,A4,show max i f.regs=i by omega];have c:=hs.blk;unfold spB at c;refine⟨S,z_,aE K _ _ t15L0.eq_1 ?_,hb,bL.refl _ _⟩;simp(disch:=omega)only[go_sem,hbx,c]
 |k+1,i,S,l,x9,hk,hl,h0,hb,hs,hbx=>by have g:i<f.regs:=A_;have c:=hs.blk;obtain⟨C,S1,v,e,m,o,_⟩:=bEb hb A_ (i:Int);obtain rfl:=o h0;have u:=hs.keepO m (hb h0) B_ s jm;have A:=m.get _ _ (by simp;omega) hbx;have q:=lV hb;have z:=lV e;have w:=q.wb;have t:=q.loc;have y:=z.wb;obtain⟨S',h,r,d,p⟩:=aVh x s jm jb x0 x2 n x4 x7 x8 k (i+1) S1 (l++[(i:Int)]) e_ A_ (by simp;omega) B_ e u A;rw[show((i+1:Nat):Int)=(i:Int)+1 by omega,show max (i+1) f.regs=max i f.regs by omega,A9,List.singleton_append,<-aDu g]at r;rw[A9,List.singleton_append,<-aDu g]at d;refine⟨S',h,aE K _ _ t15L0.eq_1 ?_,d,m.trans p⟩;unfold spB at c;simp(disch:=omega)only[go_sem,hbx,c,w,t,v,y,aC];exact X_ er r
def wH:List Int->List Int->List Int
 |σ,[]=>σ
 |σ,n::l=>wH (if n∈σ then σ else σ++[n]) l
theorem aXr(σ:Ta_)(n m:Int)(a:n∉σ):bV (σ++[n]) m=if n=m then some σ.length else bV σ m:=by
 unfold bV;rw[X9];by_cases e:n=m;.rw[K_ e,<-e];have:σ.findIdx? (fun x=>x==n)=none:=jA.2 a;rw[this];simp
 .rw[I_ e];have:[n].findIdx? (fun x=>x==m)=none:=by simp[e]
  rw[this];simp
theorem aQp{f:VF}{out:IV}{a:Ax}{e cp:Nat}{l:Ta_}{J:Tn_}{v:Nat}(W:l.length<=1000000)(Z:e≠a.j)(T:e≠a.jm):∀(m i:Nat) (S:aA) (k:Sk) (x2 I x4 x8 x9:TV),i+m=l.length->SpS S a f out k->S[e]?=some (.cells v true (l.map vI++J)) ->∃S' F z C H D,lp' (lim K) t39L0 [.ptr a.j 43 0,.msl e v 0 l.length cp 1,x2,I,x4,.msl e v 0 l.length cp 1,j_ l.length,j_ i,x8,x9] S = .ret (.exit 0,[.ptr a.j 43 0,.msl e v 0 l.length cp 1,F,z,C,.msl e v 0 l.length cp 1,j_ l.length,j_ l.length,H,D],S')/\SpS S' a f out ⟨wH k.s (l.drop i),k.r,k.c,k.o⟩/\KN [a.jm] S S'
 |0,i,S,k,x2,I,x4,x8,x9,h,hs,hj=>by
  obtain rfl:i=l.length:=A_;refine⟨S,x2,I,x4,z_,x9,aE K _ _ t39L0.eq_1 ?_,?_,KN.refl _ _⟩;.simp(disch:=omega)only[go_sem]
  .rw[E0];exact hs
 |m+1,i,S,k,x2,I,x4,x8,x9,h,hs,hj=>by
  have p:i<l.length:=A_;have U:=sO p;have i1:=iO (j:=e) (v:=v) (cap:=cp) p;have P:=oY (J:=J) p;have L:=hs.blk;obtain⟨d,c,u,N,Y⟩:=hs.map;have y:=hj;rw[U,wH];generalize l.getD i 0=n at *
  simp only[vI]at P;by_cases hn:n∈k.s;.obtain⟨q,w⟩:=aW2 hn;have Q:=uT (c:=c) (l:=d) (m:=n) (v:=(q:Int)) (by rw[N,w];rfl);rw[K_ hn];obtain⟨S',F,z,C,H,D,G,g,t⟩:=aQp (cp:=cp) W Z T m (i+1) S k (j_ n) (.lb [j_ q]) e_ e_ z_ A_ hs hj;rw[show((i+1:Nat):Int)=(i:Int)+1 by omega]at G;refine⟨S',F,z,C,H,D,aE K _ _ t39L0.eq_1 ?_,g,t⟩;unfold spB at L;simp(disch:=omega)only[go_sem,i1,y,P,L,u,Q,aC];exact X_ er G
  .have w:=jA.2 hn;have Q:=xM (c:=c) (l:=d) (m:=n) (by rw[N,w];rfl);rw[I_ hn];have V:=aN u;have kn:KN [a.jm] S (S.set a.jm (.mp (mpR kC (gV d c n k.s.length)) (rP d c n))):=KN.set ..;have g0:∀q b,q≠a.jm->S[q]?=some b->(S.set a.jm (.mp (mpR kC (gV d c n k.s.length)) (rP d c n)))[q]?=some b:=fun q b w hb=>by rw[aB (B0 w)];exact hb
   have R:SpS (S.set a.jm (.mp (mpR kC (gV d c n k.s.length)) (rP d c n))) a f out ⟨k.s++[n],k.r,k.c,k.o⟩:=by
    refine⟨g0 _ _ (B0 hs.jne) hs.blk,⟨_,_,aM V _,fun x=>?_,?_⟩,fun E=>g0 _ _ ?_ (hs.ti E),fun E=>g0 _ _ ?_ (hs.tf E),hs.ne,hs.oc⟩;.rw[qI,N,aXr _ _ _ hn];split<;>rfl
    .rw[bPb];have:cG d n=false:=by unfold cG;rw[N,w];rfl
     rw[this,Y];simp
    .exact mT (hs.ti E) u B_
    .exact mT (hs.tf E) u B_
   have A:rZ .mp S (.map a.jm)=some (j_ k.s.length):=by
    have:(mpR kC d).length=k.s.length:=by rw[aLp,Y]
    simp[rZ,zM,lenOf,u,this];rfl
   have up:∀env:Env,upB (.leaf .int) env S a.jm (some (.mp (mpR kC d) c)) (j_ n) (.iv (.agg [.int .i64 (k.s.length:Int)]))=some (TM.undef,env,S.set a.jm (.mp (mpR kC (gV d c n k.s.length)) (rP d c n))):=fun env=>aCx ..;obtain⟨S',F,z,C,H,D,G,g,t⟩:=aQp (cp:=cp) W Z T m (i+1) _ ⟨k.s++[n],k.r,k.c,k.o⟩ (j_ n) (.lb [j_ 0]) z_ e_ e_ A_ R (g0 _ _ T hj);rw[show((i+1:Nat):Int)=(i:Int)+1 by omega]at G;refine⟨S',F,z,C,H,D,aE K _ _ t39L0.eq_1 ?_,g,kn.trans t⟩;unfold spB at L;generalize hS1:S.set a.jm (.mp (mpR kC (gV d c n k.s.length)) (rP d c n))=S1 at *
   simp(disch:=omega)only[go_sem,i1,y,P,L,u,Q,A,up,aC];exact X_ er G
theorem bRz{f:VF}{out:IV}{a:Ax}{d cp:Nat}{l:Ta_}{J:Tn_}{v:Nat}(n:l.length<=1000000)(i:d≠a.j)(p:d≠a.jm){S:aA}{k:Sk}(m:SpS S a f out k)(h:S[d]?=some (.cells v true (l.map vI++J))): ∃S',(lim K).call 39 [.ptr a.j 43 0,.msl d v 0 l.length cp 1] S=.ret (u_,S')/\SpS S' a f out ⟨wH k.s l,k.r,k.c,k.o⟩/\KN [a.jm] S S':=by obtain⟨S',t,q,u,w,x,g,b,e⟩:=aQp (cp:=cp) n i p l.length 0 S k u_ u_ u_ u_ u_ A_ m h;rw[n0_]at g;rw[C4]at b;refine⟨S',aI K _ (fn:=t39) rfl rfl ?_,b,e⟩;simp(disch:=omega)only[t39,go_sem];rw[g];simp(disch:=omega)only[go_sem]
def zJ(r:Nat)(l:List Int):List Int:=flp (pR r) (if l.any (pR r)then l++nA r 32 else l)
def jN(n:Nat)(o:Nat->Int):List Int:=aBy ((List.range n).map o)
inductive Reach (f:VF):List Int->Prop
 |nil:Reach f []
 |step {σ:List Int} {n:Nat} {o:Nat->Int} (h:Reach f σ) (hn:(n:Int)=rwR σ f.regs f.ins) (hc:aDs (plC σ f.regs f.ins) n o) (h0:jN n o≠[]):Reach f (wH σ (zJ f.regs (jN n o)))
structure aJ1 (f:VF) (σ:List Int):Prop where
 virt:aBw σ
 lt:∀n∈σ,n<f.regs
 nd:σ.Nodup
theorem aJ2{n:Nat}{o:Tg_}{x:Int}:x∈jN n o↔∃m:Nat,m<n/\x=m/\o m<0:=by
 unfold jN aBy;have c:∀m,m<n->((List.range n).map o).getD m 0=o m:=fun m a=>by rw[W_,p_,F3 a];rfl
 simp only[A0,D1,C5,L_,F8,q_];constructor;.rintro⟨m,⟨a,b⟩,rfl⟩;rw[c m a]at b;exact⟨m,a,rfl,b⟩
 .rintro⟨m,a,rfl,b⟩;exact⟨m,⟨a,by rw[c m a];exact b⟩,rfl⟩
theorem aDv{r:Nat}{x:Int}:x∈nA r 32↔32<=x/\x<r:=by
 unfold nA;simp only[A0,List.mem_range'_1];constructor;.rintro⟨m,c,rfl⟩;omega
 .rintro⟨a,b⟩;exact⟨x.toNat,by omega,by omega⟩
theorem xN:∀(l σ:Ta_) (x:Int),x∈wH σ l↔x∈σ\/x∈l
 |[],σ,x=>by simp[wH]
 |n::l,σ,x=>by
  rw[wH,xN l];by_cases h:n∈σ
  .rw[K_ h,J_];constructor
   .rintro(a|a);.exact .inl a
    .exact .inr (.inr a)
   .rintro(a|rfl|a);.exact .inl a
    .exact .inl h
    .exact .inr a
  .rw[I_ h,a_,U_,J_,Z8]
theorem bEc:∀(l σ:Ta_),σ.Nodup->(wH σ l).Nodup
 |[],σ,h=>h
 |n::l,σ,h=>by
  rw[wH];refine bEc l _ ?_;split;.exact h
  .rename_i hn;rw[H9];exact⟨h,by simp,fun a d b c e=>hn (by rw[U_]at c;rw[<-c,<-e];exact d)⟩
theorem aVi{f:VF}{n:Nat}{o:Tg_}(c:∀m,m<32->o m=m){x:Int}(h:x∈zJ f.regs (jN n o)):32<=x/\x<f.regs:=by
 unfold zJ flp at h;obtain⟨a,e⟩:=D1.1 h;have d:x<f.regs:=by unfold pR at e;simp at e;omega
 refine⟨?_,d⟩;have b:x∈jN n o->32<=x:=fun g=>by
  obtain⟨m,_,rfl,h3⟩:=aJ2.1 g;by_cases h4:m<32;.rw[c m h4]at h3;omega
  .omega
 split at a
 .rcases a_.1 a with a|a;.exact b a
  .exact(aDv.1 a).1
 .exact b a
theorem aJ1.put{f:VF}{σ:Ta_}(h:aJ1 f σ){n:Nat}{o:Tg_}(a:∀m,m<32->o m=m):aJ1 f (wH σ (zJ f.regs (jN n o))):=by
 refine⟨fun x b=>?_,fun x b=>?_,bEc _ _ h.nd⟩
 .rcases(xN ..).1 b with h1|h1;.exact h.virt x h1
  .exact(aVi a h1).1
 .rcases(xN ..).1 b with h1|h1;.exact h.lt x h1
  .exact(aVi a h1).2
theorem aJ1.nil(f:VF):aJ1 f []:=⟨fun x a=>(by cases a),fun x a=>(by cases a),Y5⟩
theorem Reach.ok{f:VF}{σ:Ta_}(h:Reach f σ):aJ1 f σ:=by
 induction h with
 |nil=>exact .nil f
 |step _ _ hc _ ih=>exact ih.put hc.mach
theorem aJ1.len{f:VF}{σ:Ta_}(h:aJ1 f σ):σ.length<=f.regs-32:=by have:=xF σ (nA f.regs 32) h.nd fun x a=>aDv.2 ⟨h.virt x a,h.lt x a⟩;unfold nA at this;rw[L_,List.length_range']at this;exact this
theorem more{f:VF}(w:sP f){σ:Ta_}(h:aJ1 f σ){n:Nat}{o:Tg_}(Q:(n:Int)=rwR σ f.regs f.ins)(v:aDs (plC σ f.regs f.ins) n o)(N:jN n o≠[]):σ.length<(wH σ (zJ f.regs (jN n o))).length:=by
 have A:=xI w;have j:=bPp w;have L:=(qP w).1.1;have key:∃x,x∈zJ f.regs (jN n o)/\x∉σ:=by
  have u:∀m:Nat,m<n->o m<0->32<=m/\o m = -1:=fun m g a=>by
   by_cases h4:m<32;.rw[v.mach m h4]at a;omega
   .have:=v.virt m A_ g;omega
  cases ha:(jN n o).any (pR f.regs)with
  |true =>
   apply J7;intro D;have p:∀x:Int,32<=x->x<f.regs->x∈σ:=fun x s q=>by apply J7;intro k;refine D ⟨x,?_,k⟩;unfold zJ flp;rw[ha,K_ rfl];refine D1.2 ⟨G0 _ (aDv.2 ⟨s,q⟩),?_⟩;unfold pR;simp;omega
   obtain⟨x,k,H⟩:=E8.1 ha;obtain⟨m,g,rfl,a⟩:=aJ2.1 k;obtain⟨b,C⟩:=u m g a;unfold pR at H;have z:(f.regs:Int)<=(m:Int):=M8 H;have G:=v.spill m b g C;obtain⟨t,i,_⟩:=G 1 (O_ _) A_;obtain⟨c,e,r,F⟩:=aW8 A h.virt A_ j z i;obtain⟨Li,Lo,I,p2,p3,P⟩:=w.crd c r.1;exact aF1 A h.virt A_ j p r I p2 p3 P v.mach (fun d s q=>by rw[<-F];exact G d s q)
  |false =>
   obtain⟨x,k⟩:=List.exists_mem_of_ne_nil _ N;obtain⟨m,g,rfl,a⟩:=aJ2.1 k;obtain⟨b,C⟩:=u m g a;have l:=t_.1 ha _ k;unfold pR at l;simp at l;refine⟨m,?_,fun J=>?_⟩;.unfold zJ flp;rw[ha,I_ C_];refine D1.2 ⟨k,?_⟩;unfold pR;simp;omega
   .obtain⟨t,i,_⟩:=v.spill m b g C 1 (O_ _) A_;exact aW7 A h.virt A_ j J A_ i
 obtain⟨x,s,q⟩:=key;have:=xF (x::σ) (wH σ (zJ f.regs (jN n o))) (C8.2 ⟨q,h.nd⟩) fun y E=>by
  rcases J_.1 E with rfl|E;.exact(xN ..).2 (.inr s)
  .exact(xN ..).2 (.inl E)
 rw[List.length_cons]at this;omega
structure FOK (f:VF):Prop where
 bare:sP f
 n:f.ins.length<=100
 r:f.regs<=110
 us:∀x∈f.ins,x.us.length<=1000/\cB x.tu x.us
theorem bL0{t:Tag}{l:Ta_}(h:cB t l):cB (zC t l) l:=fun e=>by
 unfold zC at e
 split at e
 .assumption
 .cases e
theorem aVj{f:VF}(h:FOK f)(σ:Ta_):∀y∈plC σ f.regs f.ins,y.us.length<=999990/\cB y.tu y.us:=fun y g=>by
 unfold plC bG at g
 obtain⟨z,i,rfl⟩:=A0.1 g
 obtain⟨k,d,rfl⟩:=H8 i
 obtain⟨c,j,b,l,rfl⟩:=eS (σ:=σ) (r:=f.regs) (ins:=f.ins) d
 have e:=qO (σ:=σ) (r:=f.regs) b l
 have o:(bG σ f.regs f.ins)[ofs σ f.regs f.ins c+j]?=some ((rwM σ f.regs f.ins).flatten[ofs σ f.regs f.ins c+j]):=D_ d
 rw[o]at e
 have a:∀v:VI,v.us=[]->v.tu=.nil->v.us.length<=999990/\cB v.tu v.us:=fun v m p=>by rw[m];exact⟨by simp,fun _=>rfl⟩
 rcases jF e.symm with⟨_,n,k,q,_,_,e2⟩|⟨_,e2⟩|⟨_,q,k,_,_,_,e2⟩
 .rw[e2]
  have:plI (ldI q k)=⟨69,q,0,0,0,0,.nil,[],.nil,[]⟩:=by unfold plI ldI;simp
  rw[this];exact a _ rfl rfl
 .rw[e2,sK (xI h.bare) (bQ b)]
  have:=h.us _ (bQ b)
  exact⟨by show(f.ins.getD c default).us.length<=_;omega,bL0 this.2⟩
 .rw[e2]
  have:plI (stI q k)=⟨64,0,q,0,0,0,.nil,[],.nil,[]⟩:=by unfold plI stI;simp
  rw[this];exact a _ rfl rfl
theorem bR0{f:VF}(h:FOK f){σ:Ta_}(A:aBw σ):∃n:Nat,(n:Int)=rwR σ f.regs f.ins/\n<=410/\fP K 34 [.iv (.agg [.int .i64 f.fn,.int .i64 n,.int .i64 f.sl,.int .i64 f.nd,.int .i64 f.pr,.bool f.rs,.sl .no ((plC σ f.regs f.ins).map aJ)])] fun v=>∃r tE E tM M,v=.tup [.iv (.agg [.int .i64 r,.sl tE E,.sl tM M]),j_ 0] /\fP K 36 [.iv (.agg [.int .i64 r,.sl tE E,.sl tM M])] fun v=>∃o:Nat->Int,v=.iv (.sl .no (TM.one (.int .i64) ((List.range n).map o)))/\aDs (plC σ f.regs f.ins) n o:=by
 have D:=aDm σ f.regs f.ins;have F:=h.n;have G:=h.r;have z:=(qP h.bare).1.1;obtain⟨n,j⟩:=H4 (show 0<=rwR σ f.regs f.ins by omega);have s:(plC σ f.regs f.ins).length<=400:=by have:=(lF σ f.regs f.ins).2;unfold plC;rw[L_];omega
 have a:=bDd h.bare A;rw[j]at a;have m:=aVj h σ;obtain⟨I,O,_,e,l⟩:=aQa (f:=⟨f.fn,n,f.sl,f.nd,f.pr,f.rs,.no,plC σ f.regs f.ins⟩) (by show n<=_;omega) (by show _<=1000000;dsimp only;omega) m a;dsimp only at *
 have t:∀i,i<(plC σ f.regs f.ins).length->∀x,x∈wlI 0 (O i)↔1<=x/\x<n/\zB (plC σ f.regs f.ins) x i:=fun i b=>(l i b).2.2;have c:(plC σ f.regs f.ins).any (qM n (plC σ f.regs f.ins))=false:=by unfold sI at a;simp only[P_,D7]at a;exact a.2.1
 have k:∀p,oZ (plC σ f.regs f.ins) (fun i=>wlI 0 (O i)) p->InP n p:=fun p q=>bK3 (fun i b=>bLo A_ c b) (fun i b d y=>by have:=(t i b d).1 y;omega) q;have g:∀p,sL (plC σ f.regs f.ins) p->InP n p:=fun p q=>bK4 (fun i b=>bV4 c b) (fun i b h=>bUf c b (.inl A_)) q;have C:=bQ8 (fn:=f.fn) (rg:=n) (sl:=f.sl) (nd:=f.nd) (pr:=f.pr) (rs:=f.rs) (ti:=.no) (ins:=plC σ f.regs f.ins) A_ A_ (O:=O) (fun i b=>by have:=(l i b).1.2;omega) k g (by unfold kY at e;exact e);refine⟨n,j.symm,by omega,fP.mono C ?_⟩;rintro v ⟨E,M,rfl,w,u⟩;exact⟨n,_,_,_,_,rfl,bV5 A_ A_ t w u k g _ _⟩
structure bR1 (f:VF) (out:IV) (j jm:Nat) (S:aA) (v:TV) (S':aA):Prop where
 ex:∃(σ:List Int) (n:Nat) (o:Nat->Int) (a:Ax),v=.iv (.sl .no (TM.one (.int .i64) ((List.range n).map o)))/\SpS S' a f out (sk0 σ f)/\a.j=j/\a.jm=jm/\Reach f σ/\(n:Int)=rwR σ f.regs f.ins/\aDs (plC σ f.regs f.ins) n o/\jN n o=[]
 kn:KN [j,jm] S S'
theorem bEd{A:TV}(h:cA A=false)(q:Nat):qA q A=false:=by cases A<;>simp_all[cA,qA]
theorem aQq{S:aA}{v:TV}{a:IV}(h:wI S v=some a)(b:∀g x y,v≠.fn g x y):cY S [v]=some [.iv a]:=by
 have:jP S v=some (.iv a):=by
  unfold jP;split;.rename_i g x y;exact absurd rfl (b g x y)
  .rw[h];rfl
 simp only[cY,this]
theorem Kp0.kn{S S':aA}(h:Kp0 S.length S S')(I:Tc_):KN I S S':=⟨h.1,fun q b _ _ a=>h.2 q b (aN a) a⟩
theorem SpS.kp{S S':aA}{a:Ax}{f:VF}{out:IV}{k:Sk}(h:SpS S a f out k)(g:Kp0 S.length S S'):SpS S' a f out k:=by obtain⟨l,d,c,e⟩:=h.map;exact⟨g.2 _ _ (aN h.blk) h.blk,⟨l,d,g.2 _ _ (aN c) c,e⟩,fun b=>g.2 _ _ (aN (h.ti b)) (h.ti b),fun b=>g.2 _ _ (aN (h.tf b)) (h.tf b),h.ne,h.oc⟩
theorem bL1{j:Nat}{S S':aA}(h:bL [j] S S')(I:Tc_):KN (j::I) S S':=⟨h.len,fun q b a _ h3=>h.get q b (fun e=>a (by rw[U_]at e;rw[e];exact N5 ..)) h3⟩
theorem KN.above{I:Tc_}{S S' S'':aA}(h:KN I S S'){q:Nat}(g:KN (q::I) S' S'')(d:S.length<=q):KN I S S'':=by
 refine⟨B9 h.len g.len,fun x b a c h3=>g.get x b (fun e=>?_) c (h.get x b a c h3)⟩;rcases J_.1 e with e|e;.have:=aN h3;omega
 .exact a e
theorem bEe{f:VF}(e:FOK f){out:IV}{a:Ax}{S:aA}{σ L:Ta_}{c b:Nat}(v:SpS S a f out (sk0 σ f))(Q:RwB S c L)(y:L≠[])(Z:L.length<=900000)(C:S[b]?=some (.cells 40 false [.ptr a.j 43 0]))(o:c≠a.j)(m:c≠a.jm)(A:c≠b)(I:b≠a.j)(E:b≠a.jm)(T:aBw (wH σ (flp (pR f.regs) L))): ∃X S5 S6 S7 d,(lim K).call 40 [rwV c L,.fn 41 [] [.ptr b 40 0]] S=.ret (X,S5)/\(lim K).call 39 [.ptr a.j 43 0,X] S5=.ret (u_,S6)/\(lim K).call 14 [.ptr a.j 43 0] S6=.ret (u_,S7)/\(∀q,mX q X=X)/\cA X=false/\S5[b]?=some (.cells 40 false [.ptr a.j 43 0])/\S6[b]?=some (.cells 40 false [.ptr a.j 43 0])/\S7[b]?=some (.cells 40 false [.ptr a.j 43 0])/\SpS S7 d f out (sk0 (wH σ (flp (pR f.regs) L)) f)/\KN [c,a.j,a.jm] S S7/\d.j=a.j/\d.jm=a.jm:=by
 have g:=Q y;obtain⟨J',l⟩:=aUn (J:=[]) (by rw[A4];exact g) A_ (O_ _) 41 [.ptr b 40 0] (bb:=false) rfl rfl (pR f.regs) (fun B x=>aVg (bRy (v.setO g B_ o m B) (by rw[aB A];exact C) x));have k:=aN g;have U:=v.setO g B_ o m (.cells (L.length-1) true ((flp (pR f.regs) L).map vI++J'));have D:=aM k (.cells (L.length-1) true ((flp (pR f.regs) L).map vI++J'));have t:(S.set c (.cells (L.length-1) true ((flp (pR f.regs) L).map vI++J')))[b]?=some (.cells 40 false [.ptr a.j 43 0]):=by rw[aB A];exact C
 have P:=KN.set c S (.cells (L.length-1) true ((flp (pR f.regs) L).map vI++J'));have W:=aJk (pR f.regs) L;obtain⟨S6,p,F,w⟩:=bRz (cp:=L.length) A_ o m U D;have z:=w.get1 E B_ t;obtain⟨S7,d,i,R,s,N,e2⟩:=bRt F (by have:=e.n;omega) (by have:=e.r;omega) (fun x h=>⟨by have:=(e.us x h).1;omega,(e.us x h).2⟩) (fun x h u G=>jA.2 fun V=>by have h1:=(zH e.bare h).1 u G;have Y:=T u V;omega);have H:=s.get1 I B_ z;refine⟨_,_,S6,S7,d,by rw[sU _ y];exact l,p,i,fun q=>rfl,rfl,t,z,H,R,((P.mono B_).trans (w.mono B_)).trans (s.mono B_),N,e2⟩
theorem aQr{f:VF}(u:FOK f){out:IV}{j jm b:Nat}(t:b≠j)(l:b≠jm)(h6:jm≠j)(x0:TV):∀(m:Nat) (S:aA) (a:Ax) (σ:Ta_) (x2 x3 x4 x5 x6 x7 x8 x9:TV),f.regs-32-σ.length<m->SpS S a f out (sk0 σ f)->a.j=j->a.jm=jm->Reach f σ->S[b]?=some (.cells 40 false [.ptr j 43 0]) ->(lp' (lim K) t15L1 [x0,.ptr b 40 0,x2,x3,x4,x5,x6,x7,x8,x9] S).All fun q=>q.1=.ret/\∃v y3 y4 y5 y6 y7 y8 J,q.2.1=[x0,.ptr b 40 0,v,y3,y4,y5,y6,y7,y8,J]/\bR1 f out j jm S v q.2.2
 |0,S,a,σ,x2,x3,x4,x5,x6,x7,x8,x9,hm,_,_,_,_,_=>A_
 |m+1,S,a,σ,x2,x3,x4,x5,x6,x7,x8,x9,hm,hs,hj,hjm,hre,hbx=>by
  have h4:=hre.ok;have hv:=h4.virt;have hR:=aDm σ f.regs f.ins;have hk:=u.n;have ht:=u.r;have hi:=(qP u.bare).1;have hl:=lF σ f.regs f.ins;have he:(sk0 σ f).c≠[]:=fun e=>by
   have:(bG σ f.regs f.ins).length=0:=by show(sk0 σ f).c.length=0;rw[e];rfl
   omega
  obtain⟨n,hn,hp,hg⟩:=bR0 u hv;have C:=bRv hs he (by show(bG σ f.regs f.ins).length<=_;omega);rw[hj]at C;have G:cC ((sk0 σ f).c.map plI)=cC (plC σ f.regs f.ins):=rfl;have h5:(sk0 σ f).c.length=(plC σ f.regs f.ins).length:=(L_ _).symm;rw[G,h5,show(sk0 σ f).r=(n:Int) from hn.symm]at C;have g1:=cN S (aG.cells 0 true (cC (plC σ f.regs f.ins)));have s1:=hs.app [aG.cells 0 true (cC (plC σ f.regs f.ins))];have b1:=aR hbx [aG.cells 0 true (cC (plC σ f.regs f.ins))];have el:=bLw g1;have rv:wI (S++[aG.cells 0 true (cC (plC σ f.regs f.ins))]) (.agg [j_ f.fn,j_ n,j_ f.sl,j_ f.nd,j_ f.pr,.iv (.bool f.rs),.msl S.length 0 0 (plC σ f.regs f.ins).length (plC σ f.regs f.ins).length 8])=some (.agg [.int .i64 f.fn,.int .i64 n,.int .i64 f.sl,.int .i64 f.nd,.int .i64 f.pr,.bool f.rs,.sl .no ((plC σ f.regs f.ins).map aJ)]):=by simp only[wI,xP,aDw,el,Option.map_some]
  have ca:=aQq rv B_;have fz:cJ (S++[aG.cells 0 true (cC (plC σ f.regs f.ins))]) [.agg [j_ f.fn,j_ n,j_ f.sl,j_ f.nd,j_ f.pr,.iv (.bool f.rs),.msl S.length 0 0 (plC σ f.regs f.ins).length (plC σ f.regs f.ins).length 8]]=some ((S++[aG.cells 0 true (cC (plC σ f.regs f.ins))]).set S.length (.frz 0 (TM.bC ((plC σ f.regs f.ins).map aJ)))):=by
   have e2:toIVs (cC (plC σ f.regs f.ins))=some (TM.bC ((plC σ f.regs f.ins).map aJ)):=by unfold cC;rw[fM]
   simp only[cJ,cJ.freezeC,lY,g1,e2,Option.map_some]
  have s2:=s1.setO g1 B_ (by have:=aN hs.blk;omega) (by obtain⟨_,_,q,_⟩:=hs.map;have:=aN q;omega) (.frz 0 (TM.bC ((plC σ f.regs f.ins).map aJ)));have b2:((S++[aG.cells 0 true (cC (plC σ f.regs f.ins))]).set S.length (.frz 0 (TM.bC ((plC σ f.regs f.ins).map aJ))))[b]?=some (.cells 40 false [.ptr j 43 0]):=by rw[aB (by have:=aN hbx;omega)];exact b1
  have k2:KN [j,jm] S ((S++[aG.cells 0 true (cC (plC σ f.regs f.ins))]).set S.length (.frz 0 (TM.bC ((plC σ f.regs f.ins).map aJ)))):=⟨by simp,fun q B _ _ hq=>by rw[aB (by have:=aN hq;omega)];exact aR hq _⟩
  generalize hS1:S++[aG.cells 0 true (cC (plC σ f.regs f.ins))]=S1 at *
  generalize hS2:S1.set S.length (.frz 0 (TM.bC ((plC σ f.regs f.ins).map aJ)))=S2 at *
  generalize hA:(TV.agg [j_ f.fn,j_ n,j_ f.sl,j_ f.nd,j_ f.pr,.iv (.bool f.rs),.msl S.length 0 0 (plC σ f.regs f.ins).length (plC σ f.regs f.ins).length 8])=A at *
  have ho:∀q,mX q A=A:=fun q=>by rw[<-hA];rfl
  have hh:cA A=false:=by rw[<-hA];rfl
  have h9:pZ A=true:=by rw[<-hA];rfl
  have U:=bEd hh;simp only[qA]at U;refine fE t15L1.eq_1 ?_;simp(disch:=omega)only[go_sem,hbx,C,ca];refine aIh hg ?_;rintro v ⟨r,tE,E,tM,M,rfl,Y⟩;have hd:fW (.tup [.iv (.agg [.int .i64 r,.sl tE E,.sl tM M]),j_ 0])=false:=by simp[fW,iP]
  simp(disch:=omega)only[go_sem,h9,U,hd,fz];refine aIh Y ?_;rintro v ⟨o,rfl,hc⟩;obtain⟨S3,D,h7,h,k3,Z⟩:=bRw .no ((List.range n).map o) (by simp;omega) S2;have eW:aBy ((List.range n).map o)=jN n o:=rfl;rw[eW]at h7 h Z;have w:=lV h;have u1:=w.loc;have u2:=w.wb;have u3:=bLz S3 D (jN n o);have u4:=w.nlp;simp(disch:=omega)only[go_sem,h7,u1,u2,u3,u4];have L:a.j<S2.length/\a.jm<S2.length/\b<S2.length:=⟨aN s2.blk,by obtain⟨_,_,q,_⟩:=s2.map;exact aN q,aN b2⟩
  have s3:=s2.kp k3;have b3:=k3.2 _ _ L.2.2 b2;have I:KN [j,jm] S S3:=k2.trans (k3.kn _);by_cases h0:jN n o=[]
  .rw[h0];simp(disch:=omega)only[go_sem,List.length_nil];refine bE ⟨rfl,_,_,_,_,_,_,_,_,rfl,⟨σ,n,o,a,rfl,s3,hj,hjm,hre,hn,hc,h0⟩,I⟩
  .have N:¬((jN n o).length:Int)=0:=by have:=N2.2 h0;omega
   have hW:(jN n o).length<=100000:=by have:=aMr ((List.range n).map o) ((List.range n).map o).length;rw[L_,F8]at this;show(aBz _ ((List.range n).map o).length).length<=_;rw[L_,F8];omega
   have hr:=Z h0;have p:D≠a.j:=A_;have s:D≠a.jm:=A_;have H:D≠b:=A_;have bw:=aCd w A_ 38 [.ptr b 40 0] (b:=false) rfl rfl (pR f.regs) (fun x _=>aVg (bRx s3 (by rw[hj];exact b3) x));have m1:=more u.bare h4 hn hc h0;have g:=Reach.step hre hn hc h0;cases ha:(jN n o).any (pR f.regs)with
   |false =>
    rw[ha]at bw;have V:zJ f.regs (jN n o)=flp (pR f.regs) (jN n o):=by unfold zJ;rw[ha];rfl
    obtain⟨X,S5,S6,S7,a',d1,Q,R,d4,d5,T,P,y,W,d,k,i⟩:=bEe u s3 h h0 A_ (by rw[hj];exact b3) p s H (by rw[hj];exact t) (by rw[hjm];exact l) (by rw[<-V];exact g.ok.virt);rw[hj]at Q R T P y d k;rw[hjm]at d i;rw[<-V]at W;simp(disch:=omega)only[go_sem,N,bw,b3,d1,Q,R,d4,d5,T,P,y,u1,u2,u4];have z:KN [j,jm] S S7:=KN.above I d (by have:=k2.len;omega);have l2:=g.ok.len;have ih:=aQr u t l h6 x0 m S7 a' _ x2 (.lb [j_ r,.iv (.sl tE E),.iv (.sl tM M)]) (.iv (.sl .no (TM.one (.int .i64) ((List.range n).map o)))) (rwV D (jN n o)) x6 z_ z_ x9 A_ W k i g y;exact cQ (Out.all_mono (fun q ⟨h1,v,y3,y4,y5,y6,y7,y8,J,h2,h3⟩=>⟨h1,v,y3,y4,y5,y6,y7,y8,J,h2,h3.ex,z.trans h3.kn⟩) ih)
   |true =>
    rw[ha]at bw;have V:zJ f.regs (jN n o)=flp (pR f.regs) (jN n o++nA f.regs 32):=by unfold zJ;rw[ha];rfl
    have hV:(nA f.regs 32).length<=f.regs:=by unfold nA;simp
    obtain⟨S4,J,l4,h8,k4⟩:=aVh (f:=f) (out:=out) (a:=a) (k0:=sk0 σ f) A_ p s H x0 x2 (.lb [j_ r,.iv (.sl tE E),.iv (.sl tM M)]) (.iv (.sl .no (TM.one (.int .i64) ((List.range n).map o)))) z_ e_ (max 32 f.regs-32) 32 S3 (jN n o) x9 A_ A_ h0 h s3 (by rw[hj];exact b3);rw[show((32:Nat):Int)=32 from rfl]at l4;have s4:=s3.keepO k4 (h h0) B_ p s;have b4:=k4.get _ _ (by simp;omega) b3;have hb:KN [D,j,jm] S3 S4:=bL1 k4 _;obtain⟨X,S5,S6,S7,a',d1,Q,R,d4,d5,T,P,y,W,d,k,i⟩:=bEe u s4 h8 (by simp[h0]) (by rw[H_];omega) (by rw[hj];exact b4) p s H (by rw[hj];exact t) (by rw[hjm];exact l) (by rw[<-V];exact g.ok.virt);rw[hj]at Q R T P y d k;rw[hjm]at d i;rw[<-V]at W;have F:=lV h8;have q1:=F.loc;have q2:=F.wb;have q4:=F.nlp;simp(disch:=omega)only[go_sem,N,bw,b3,d1,Q,R,d4,d5,T,P,y,u1,u2,u4];rw[l4];simp(disch:=omega)only[go_sem,N,b4,d1,Q,R,d4,d5,T,P,y,q1,q2,q4];have z:KN [j,jm] S S7:=KN.above I (hb.trans d) (by have:=k2.len;omega);have l2:=g.ok.len;have ih:=aQr u t l h6 x0 m S7 a' _ x2 (.lb [j_ r,.iv (.sl tE E),.iv (.sl tM M)]) (.iv (.sl .no (TM.one (.int .i64) ((List.range n).map o)))) (rwV D (jN n o++nA f.regs 32)) (j_ (max 32 f.regs:Nat)) z_ e_ J A_ W k i g y;exact cQ (Out.all_mono (fun q ⟨h1,v,y3,y4,y5,y6,y7,y8,J,h2,h3⟩=>⟨h1,v,y3,y4,y5,y6,y7,y8,J,h2,h3.ex,z.trans h3.kn⟩) ih)
theorem bR2{f:VF}(e:FOK f){out:IV}{S:aA}{a:Ax}(c:SpS S a f out (sk0 [] f)):((lim K).call 15 [.ptr a.j 43 0] S).All fun q=>bR1 f out a.j a.jm S q.1 q.2:=by
 have g:=c.app [.cells 40 false [.ptr a.j 43 0]];have l:=cN S (.cells 40 false [.ptr a.j 43 0]);have A:=aN c.blk;have l2:a.jm<S.length:=by obtain⟨_,_,q,_⟩:=c.map;exact aN q
 have k:=aQr e (b:=S.length) A_ A_ c.jne (.ptr a.j 43 0) (f.regs+1) _ a [] k_ u_ u_ u_ u_ u_ u_ u_ (by simp;omega) g rfl rfl .nil l;refine dJ K _ (fn:=t15) rfl rfl ?_;simp(disch:=omega)only[t15,go_sem];refine dN k ?_;rintro x s SS ⟨rfl,v,p,t,w,r,u,y,z,rfl,h⟩;obtain⟨⟨σ,n,o,d,rfl,m⟩,i⟩:=h;simp(disch:=omega)only[go_sem];exact bE ⟨⟨σ,n,o,d,rfl,m⟩,(KN.app [a.j,a.jm] S _).trans i⟩
def slF(σ W:List Int):List Int:=W.filterMap fun x=>(bV σ x).map fun i:Nat=>(i:Int)
theorem aJ3(σ:Ta_)(W:Ta_):(slF σ W).length<=W.length:=List.length_filterMap_le _ _
theorem bEf(σ W:Ta_)(x:Int):slF σ (W++[x])=slF σ W++(match bV σ x with|some q=>[(q:Int)]|none=>[]):=by unfold slF;rw[List.filterMap_append];cases h:bV σ x<;>simp[List.filterMap_cons,h]
theorem aHb{l:Ta_}{i:Nat}(h:i<l.length):l.take (i+1)=l.take i++[l.getD i 0]:=by rw[M7 h];simp[List.getD,D_ h]
theorem bL2{S:aA}{j:Nat}{l:Ta_}(h:RwB S j l)(c:l.length<=1000000):∃S',iH [rwV j l] S=some (u_,S')/\RwB S' j (eG l)/\rwV j (eG l)=rwV j l/\(S'=S\/l≠[]/\∃B,S'=S.set j B):=by
 have e:=uH l;by_cases h0:l=[]
 .subst h0;exact⟨S,rfl,fun h=>absurd rfl h,rfl,.inl rfl⟩
 .have a:eG l≠[]:=fun b=>h0 (Z_ (by rw[<-e,b];rfl));have g:=h h0;have p:=aAo (J:=[]) (by rw[A4];exact g) c (O_ _);rw[A4]at p;refine⟨_,by rw[sU _ h0];exact p,fun _=>by rw[e];exact aM (aN g) _,by rw[sU _ h0,sU _ a,e],.inr ⟨h0,_,rfl⟩⟩
theorem aQs{f:VF}{out:IV}{a:Ax}{k:Sk}{W:Ta_}(hW:W.length<=100000)(tw:Tag)(g:Nat)(ha:a.j<g)(hm:a.jm<g)(Q:TV):∀(m i:Nat) (S:aA) (j:Nat) (R x4 x5 x9 x10:TV),i+m=W.length->RwB S j (slF k.s (W.take i))->g<=S.length->(slF k.s (W.take i)≠[]->g<=j)->SpS S a f out k ->∃S' o G H I J e,lp' (lim K) t18L0 [.ptr a.j 43 0,Q,rwV j (slF k.s (W.take i)),R,x4,x5,.iv (.sl tw (TM.one (.int .i64) W)),j_ W.length,j_ i,x9,x10] S = .ret (.exit 0,[.ptr a.j 43 0,Q,rwV o (slF k.s W),G,H,I,.iv (.sl tw (TM.one (.int .i64) W)),j_ W.length,j_ W.length,J,e],S')/\RwB S' o (slF k.s W)/\(∀q b,q<g->S[q]?=some b->S'[q]?=some b)/\S.length<=S'.length/\(slF k.s W≠[]->g<=o)
 |0,i,S,j,R,x4,x5,x9,x10,h,hb,hn,hj,hs=>by
  obtain rfl:i=W.length:=A_;rw[C0]at *
  refine⟨S,j,R,x4,x5,z_,x10,aE K _ _ t18L0.eq_1 ?_,hb,fun q b _ h=>h,O_ _,hj⟩;simp(disch:=omega)only[go_sem]
 |m+1,i,S,j,R,x4,x5,x9,x10,h,hb,hn,hj,hs=>by
  have Y:i<W.length:=A_;have T:=pI (f:=IV.int .i64) (t:=tw) (l:=W) (i:=(i:Int)) A_;rw[Int.toNat_natCast]at T;have e0:W.getD i default=W.getD i 0:=rfl;rw[e0]at T;have d:=bEf k.s (W.take i) (W.getD i 0);rw[<-aHb Y]at d;have w:=lV hb;have w1:=w.wb;have w2:=w.loc;have P:=hs.blk;obtain⟨l,c,h3,h4,_⟩:=hs.map;have U:=aJ3 k.s (W.take i);rw[K0]at U;generalize W.getD i 0=x at *
  cases u:bV k.s x with
  |some q =>
   rw[u]at d;dsimp only at d;have e1:=uT (c:=c) (l:=l) (m:=x) (v:=(q:Int)) (by rw[h4,u];rfl);obtain⟨j1,S1,ap,E,y,C,L⟩:=bEb hb A_ (q:Int);have N:g<=j1:=by
    by_cases h0:slF k.s (W.take i)=[]
    .rw[L h0];exact hn
    .rw[C h0];exact hj h0
   have v1:=(lV E).wb;have V:=y.len;have h1:SpS S1 a f out k:=by
    by_cases h0:slF k.s (W.take i)=[]
    .have hk:=y;have F:=L h0;refine hs.kp ⟨hk.len,fun z b hz h5=>hk.get z b (by rw[U_];omega) h5⟩
    .have F:=C h0;rw[F]at y;exact hs.keepO y (hb h0) B_ (by have:=hj h0;omega) (by have:=hj h0;omega)
   obtain⟨S',o,G,H,I,J,e,A,p,r,D,n⟩:=aQs hW tw g ha hm Q m (i+1) S1 j1 (j_ x) (.lb [j_ q]) e_ e_ e_ A_ (by rw[d];exact E) A_ (fun _=>N) h1;rw[d,show((i+1:Nat):Int)=(i:Int)+1 by omega]at A;refine⟨S',o,G,H,I,J,e,aE K _ _ t18L0.eq_1 ?_,p,fun q b u Z=>r q b u (y.get q b (by simp;omega) Z),by omega,n⟩;unfold spB at P;simp(disch:=omega)only[go_sem,T,P,h3,e1,w1,w2,ap,v1,aC];exact X_ er A
  |none =>rw[u]at d;dsimp only at d;rw[A4]at d;have e1:=xM (c:=c) (l:=l) (m:=x) (by rw[h4,u];rfl);obtain⟨S',o,G,H,I,J,e,A,p,r,D,n⟩:=aQs hW tw g ha hm Q m (i+1) S j (j_ x) (.lb [j_ 0]) z_ e_ z_ A_ (by rw[d];exact hb) hn (by rw[d];exact hj) hs;rw[d,show((i+1:Nat):Int)=(i:Int)+1 by omega]at A;refine⟨S',o,G,H,I,J,e,aE K _ _ t18L0.eq_1 ?_,p,r,D,n⟩;unfold spB at P;simp(disch:=omega)only[go_sem,T,P,h3,e1,w1,w2,aC];exact X_ er A
theorem bR3{f:VF}{a:Ax}{k:Sk}{O:Te_}{n i:Nat}{D:Tag}{S:aA}(V:i<n)(hW:(wlI 0 (O i)).length<=100000)(u:SpS S a f (.sl D (bK O n)) k): ∃v S1 S' t,(lim K).call 18 [.ptr a.j 43 0,j_ i] S=.ret (v,S1)/\zN v S1=some (.iv (.sl t (TM.one (.int .i64) (eG (slF k.s (wlI 0 (O i)))))),S')/\Kp0 S.length S S'/\cB t (eG (slF k.s (wlI 0 (O i)))):=by
 have hx:=ixL (I:=O) V D;have C:=u.blk;obtain⟨S2,p,T,U,W,Y,r,N,P,G,L,F⟩:=aQs (f:=f) (out:=.sl D (bK O n)) (a:=a) (k:=k) hW (jL (aZ (wlI 0 (O i)))) S.length (aN C) (by obtain⟨_,_,q,_⟩:=u.map;exact aN q) (j_ i) (wlI 0 (O i)).length 0 S 0 u_ u_ u_ u_ u_ A_ (fun h=>absurd rfl h) (O_ _) (fun h=>absurd rfl h) u;rw[n0_,show rwV 0 (slF k.s ((wlI 0 (O i)).take 0))=k_ from rfl]at N;have R:=aJ3 k.s (wlI 0 (O i));obtain⟨S3,ps,z,e3,A⟩:=bL2 P A_;have g:=lV P;have Z:=g.wb;have Q:=g.loc;have w3:∀S,kP [.loc 2] [.ptr a.j 43 0,j_ i,rwV p (slF k.s (wlI 0 (O i))),T,U,W,.iv (.sl (jL (aZ (wlI 0 (O i)))) (TM.one (.int .i64) (wlI 0 (O i)))),.iv (.int .i64 (wlI 0 (O i)).length),.iv (.int .i64 (wlI 0 (O i)).length),Y,r] S=some (rwV p (slF k.s (wlI 0 (O i)))):=fun S=>by rcases g.frm with⟨a,e⟩|⟨j,l,e⟩|⟨a,b,c,d,H,f,e⟩<;>rw[e]<;>rfl
 have pv:∀S,prV S (some iH) [rwV p (slF k.s (wlI 0 (O i)))]=iH [rwV p (slF k.s (wlI 0 (O i)))] S:=fun S=>by simp only[prV,List.any_cons,List.any_nil,g.nlp,O9,b_,I9]
 have y:Kp0 S.length S S3:=by
  rcases A with rfl|⟨m,B,rfl⟩;.exact⟨L,G⟩
  .refine⟨by simpa using L,fun q b w o=>?_⟩;rw[aB (by have:=F m;omega)];exact G q b w o
 have c:(lim K).call 18 [.ptr a.j 43 0,j_ i] S=.ret (rwV p (eG (slF k.s (wlI 0 (O i)))),S3):=by
  refine aI K _ (fn:=t18) rfl rfl ?_;unfold spB at C;rw[e3];generalize hR:bK O n=RL at *
  simp(disch:=omega)only[t18,go_sem,C,hx];rw[N];simp(disch:=omega)only[t18,go_sem,Z,Q,w3,aTs,pv,ps]
 by_cases m:eG (slF k.s (wlI 0 (O i)))=[]
 .rw[m,bLy]at c;rw[m];exact⟨_,S3,S3,.nil,c,rfl,y,fun _=>rfl⟩
 .have E:=z m;have x:slF k.s (wlI 0 (O i))≠[]:=fun e=>m (Z_ (by rw[uH,e];rfl));generalize eG (slF k.s (wlI 0 (O i)))=l at *
  have H:=aC6 (J:=[]) (by rw[A4];exact E) l.length;have e2:toIVs (l.map vI)=some (l.map (IV.int .i64)):=by
   have:l.map vI=(l.map (IV.int .i64)).map .iv:=by rw[L7];rfl
   rw[this,fM]
  rw[sU _ m]at c;refine⟨_,S3,S3.set p (.frz (l.length-1) (l.map (IV.int .i64))),.no,c,?_,⟨by simpa using y.1,fun q b w o=>by rw[aB (by have:=F x;omega)];exact y.2 q b w o⟩,fun h=>by cases h⟩;simp only[zN,wI,xP,aDw,H,Option.map_some,cJ,cJ.freezeC,lY,E,e2]
def jH(o:Nat->Int)(x:Int):Int:=o x.toNat
theorem bEg{S:aA}{b n:Nat}{o:Tg_}(c:S[b]?=some (.cells 27 false [.iv (.sl .no (TM.one (.int .i64) ((List.range n).map o)))])){x:Int}(h:0<=x/\x<n):(lim K).call 16 [j_ x,.ptr b 27 0] S=.ret (j_ (jH o x),S):=by
 obtain⟨q,rfl⟩:=H4 h.1;have a:=pI (f:=IV.int .i64) (t:=.no) (l:=(List.range n).map o) (i:=(q:Int)) (by simp;omega);have e:((List.range n).map o).getD (q:Int).toNat default=jH o q:=by unfold jH;rw[Int.toNat_natCast,W_,p_,F3 A_];rfl
 rw[e]at a;generalize jH o q=w at *
 refine aI K _ (fn:=t16) rfl rfl ?_;simp(disch:=omega)only[t16,go_sem,c,a]
def rnR(g:Int->Int)(us:List Int)(a:Int):Int:=if a∈us then g a else low a
def fnI(g:Int->Int)(x:VI):VI:={x with a:=rnR g (bF x) x.a,b:=rnR g (bF x) x.b,d:=rnR g (aY x) x.d,us:=x.us.map g,tu:=zC x.tu x.us}
theorem bEh{x:VI}{n:Int}(h:n∈aY x):0<n:=by
 unfold aY at h;split at h;.exact(cW.1 h).2
 .split at h;.exact(cW.1 h).2
  .cases h
theorem bL3{S:aA}{c n:Nat}{o:Tg_}(j:S[c]?=some (.cells 27 false [.iv (.sl .no (TM.one (.int .i64) ((List.range n).map o)))]))(x:VI)(f:x.us.length<=999990)(s:cB x.tu x.us)(e:∀r∈bS x,0<=r/\r<n): ∃v S1 S',(lim K).call 17 [.iv (.agg (aJ x)),.fn 16 [] [.ptr c 27 0],.fn 16 [] [.ptr c 27 0]] S=.ret (v,S1)/\zN v S1=some (.iv (.agg (aJ (fnI (jH o) x))),S')/\Kp0 S.length S S':=by
 have l:(cpS S (x.us.map (jH o)))[c]?=some (.cells 27 false [.iv (.sl .no (TM.one (.int .i64) ((List.range n).map o)))]):=by
  unfold cpS;split;.exact j
  .exact aR j _
 have k:∀(us:Ta_) (a:Int),(a∈us->0<=a/\a<n)->nZ 16 [.ptr c 27 0] us a (rnR (jH o) us a) (cpS S (x.us.map (jH o))) (cpS S (x.us.map (jH o))):=fun us a h=>by
  unfold nZ rnR;by_cases hm:a∈us;.rw[K_ hm,K_ hm];exact bEg l (h hm)
  .rw[I_ hm,I_ hm];exact⟨rfl,rfl⟩
 obtain⟨v,i,p⟩:=bD7 (fu:=16) (fd:=16) (cu:=[.ptr c 27 0]) (cd:=[.ptr c 27 0]) x f s rfl rfl rfl rfl (g:=jH o) (S:=S) (S2:=cpS S (x.us.map (jH o))) (S3:=cpS S (x.us.map (jH o))) (S4:=cpS S (x.us.map (jH o))) (ra:=rnR (jH o) (bF x) x.a) (rb:=rnR (jH o) (bF x) x.b) (rd:=rnR (jH o) (aY x) x.d)
  (fun B u f=>bEg (aR j _) (e u (by unfold bS;simp[f])))
  (k _ _ fun _=>e _ (by unfold bS;simp)) (k _ _ fun _=>e _ (by unfold bS;simp)) (k _ _ fun h=>e _ (by have:=bEh h;unfold bS;rw[K_ (.inr A_)];simp))
  (fun m=>by
   have:x.us.map (jH o)≠[]:=by simpa using m
   unfold cpS;rw[I_ this];exact cN ..)
 refine⟨v,_,_,i,p,?_⟩;unfold frS cpS;split;.exact⟨O_ _,fun q b _ h=>h⟩
 .refine⟨by simp,fun q b t h=>?_⟩;rw[aB A_];exact aR h _
theorem bL4{y:VI}(h:y.op≠67\/True)(a:(∃q k,y=ldI q k)\/(∃q k,y=stI q k)\/plI y=y):bS (plI y)=bS y:=by
 rcases a with⟨q,k,rfl⟩|⟨q,k,rfl⟩|e;.unfold plI ldI bS;simp
 .unfold plI stI bS;simp
 .rw[e]
theorem aXs{f:VF}(h:FOK f){σ:Ta_}(t:aBw σ){k:Nat}(i:k<(bG σ f.regs f.ins).length):(∀r∈bS ((bG σ f.regs f.ins).getD k default),0<=r/\r<rwR σ f.regs f.ins)/\((bG σ f.regs f.ins).getD k default).us.length<=999990/\cB ((bG σ f.regs f.ins).getD k default).tu ((bG σ f.regs f.ins).getD k default).us:=by
 have a:=bDd h.bare t;have b:(plC σ f.regs f.ins).any (qM (rwR σ f.regs f.ins) (plC σ f.regs f.ins))=false:=by unfold sI at a;simp only[P_,D7]at a;exact a.2.1
 have d:k<(plC σ f.regs f.ins).length:=by unfold plC;rw[L_];exact i
 have e:(plC σ f.regs f.ins).getD k default=plI ((bG σ f.regs f.ins).getD k default):=by unfold plC;rw[W_,p_,W_,D_ i];rfl
 obtain⟨c,j,n,m,rfl⟩:=eS i;have e2:=aG4 (σ:=σ) (r:=f.regs) n m;have p:(∃q k,(bG σ f.regs f.ins).getD (ofs σ f.regs f.ins c+j) default=ldI q k)\/(∃q k,(bG σ f.regs f.ins).getD (ofs σ f.regs f.ins c+j) default=stI q k)\/plI ((bG σ f.regs f.ins).getD (ofs σ f.regs f.ins c+j) default)=(bG σ f.regs f.ins).getD (ofs σ f.regs f.ins c+j) default:=by
  rw[e2];rcases jF (D_ m)with⟨_,_,w,q,_,_,e3⟩|⟨_,e3⟩|⟨_,q,w,_,_,_,e3⟩;.exact .inl ⟨_,_,e3⟩
  .exact .inr (.inr (by rw[e3];exact sK (xI h.bare) (bQ n) ..))
  .exact .inr (.inl ⟨_,_,e3⟩)
 refine⟨fun r s=>aJ0 b d (by rw[e,bL4 (.inr trivial) p];exact s),?_⟩;have l:=aVj h σ _ (bQ d);rw[e]at l;have o:(plI ((bG σ f.regs f.ins).getD (ofs σ f.regs f.ins c+j) default)).us=((bG σ f.regs f.ins).getD (ofs σ f.regs f.ins c+j) default).us/\(plI ((bG σ f.regs f.ins).getD (ofs σ f.regs f.ins c+j) default)).tu=((bG σ f.regs f.ins).getD (ofs σ f.regs f.ins c+j) default).tu:=by
  rcases p with⟨q,k,g⟩|⟨q,k,g⟩|g;.rw[g];unfold plI ldI;simp
  .rw[g];unfold plI stI;simp
  .rw[g];exact⟨rfl,rfl⟩
 rw[o.1,o.2]at l;exact l
theorem aXt(B:List VI)(L:List (List VI))(c:Nat):cL (B::L) (c+1)=B.length+cL L c:=by unfold cL;rw[List.take_succ_cons,Q_,List.sum_cons]
theorem aVk(σ:Ta_):∀(l:List VI) (r:Int) (b c j:Nat),c<l.length->j<(dM σ (cnt σ r l c) (l.getD c default)).length->(frM σ r l b)[ofs σ r l c+j]?=some ((b+c:Nat):Int)
 |[],r,b,c,j,hc,hj=>by simp at hc
 |x::l,r,b,0,j,hc,hj=>by
  have:ofs σ r (x::l) 0=0:=by unfold ofs cL;simp
  rw[this,frM,A7,Nat.add_zero,Y_ (by rw[G1];exact hj),I7,K_ (show j<(dM σ r x).length from hj)];rfl
 |x::l,r,b,c+1,j,hc,hj=>by
  have e:ofs σ r (x::l) (c+1)=(dM σ r x).length+ofs σ (eL σ r x) l c:=by unfold ofs;rw[rwM,aXt]
  have a:=aVk σ l (eL σ r x) (b+1) c j (by simpa using hc) hj;rw[e,frM,r_ (by rw[G1];omega),G1,show(dM σ r x).length+ofs σ (eL σ r x) l c+j-(dM σ r x).length=ofs σ (eL σ r x) l c+j by omega,a];congr 2;omega
theorem bEi(σ:Ta_):∀(l:List VI) (r:Int) (b:Nat),(frM σ r l b).length=(bG σ r l).length
 |[],r,b=>rfl
 |x::l,r,b=>by have a:=bEi σ l (eL σ r x) (b+1);unfold bG at a |-;rw[frM,rwM,List.flatten_cons,H_,H_,G1,a]
def rX(g:Int->Int)(σ W:List Int)(t:Tag)(y:VI):VI:=if y.op=67 then {fnI g y with mp:=eG (slF σ W),tm:=t} else fnI g y
structure aXu (f:VF) (σ:List Int) (o:Nat->Int) (O:Nat->List Nat) (R:List VI) (i:Nat):Prop where
 len:R.length=i
 at_:∀k,k<i->∃t,R.getD k default=rX (jH o) σ (wlI 0 (O ((frM σ f.regs f.ins 0).getD k 0).toNat)) t ((bG σ f.regs f.ins).getD k default)
theorem aXu.snoc{f:VF}{σ:Ta_}{o:Tg_}{O:Te_}{R:List VI}{i:Nat}(h:aXu f σ o O R i)(t:Tag):aXu f σ o O (R++[rX (jH o) σ (wlI 0 (O ((frM σ f.regs f.ins 0).getD i 0).toNat)) t ((bG σ f.regs f.ins).getD i default)]) (i+1):=by
 refine⟨by rw[H_,h.len];rfl,fun k c=>?_⟩;by_cases e:k=i;.subst e;refine⟨t,?_⟩;rw[W_,r_ (by rw[h.len];omega),h.len,L8];rfl
 .obtain⟨b,a⟩:=h.at_ k A_;refine⟨b,?_⟩;rw[<-a,W_,Y_ (by rw[h.len];omega),<-W_]
theorem bUk{j:Nat}{l:List VI}{i:Nat}(h:i<l.length):indexAddrS 8 (.tsl j (l.map aJ)) (i:Int)=some (.iv (.cp (aJ (l.getD i default)))):=by have a:=gC (w:=8) (f:=aJ) eZ (t:=.no) (l:=l) (i:=(i:Int)) A_;rw[Int.toNat_natCast]at a;exact a
theorem Kp0.trans'{a:Nat}{S S' S'':aA}(h:Kp0 a S S')(g:Kp0 S'.length S' S''):Kp0 a S S'':=⟨B9 h.1 g.1,fun q b d c=>by
 have:=h.2 q b d c
 exact g.2 q b (aN this) this⟩
theorem bEj{f:VF}(hf:FOK f){σ:Ta_}(hv:aBw σ){n:Nat}(hn:(n:Int)=rwR σ f.regs f.ins){o:Tg_}{O:Te_}(hO:∀i,i<f.ins.length->(wlI 0 (O i)).length<=100000){tO:Tag}{a:Ax}{S0:aA}(hs:SpS S0 a f (.sl tO (bK O f.ins.length)) (sk0 σ f)){jc:Nat}(Q:S0[jc]?=some (.cells 27 false [.iv (.sl .no (TM.one (.int .i64) ((List.range n).map o)))])) (x0 x1 x2 x3 x4 x5 c0 c1 c2 c3 c4 c5 x12 x13:TV):∀(m i:Nat) (S:aA) (d:Nat) (R:List VI) (x10 x11 V F:TV),i+m=(bG σ f.regs f.ins).length->Kp0 S0.length S0 S->At 8 28 (R.map aJ) d S->(R≠[]->S0.length<=d)->aXu f σ o O R i ->∃S' k R' g u r p,lp' (lim K) t6L0 [x0,x1,x2,x3,x4,x5,.ptr a.j 43 0,.ptr jc 27 0,.fn 16 [] [.ptr jc 27 0],.lb [c0,c1,c2,c3,c4,c5,acc d (R.map aJ)],x10,x11,x12,x13,.tsl a.ji ((bG σ f.regs f.ins).map aJ),.iv (.int .i64 (bG σ f.regs f.ins).length),j_ i,V,F] S = .ret (.exit 0,[x0,x1,x2,x3,x4,x5,.ptr a.j 43 0,.ptr jc 27 0,.fn 16 [] [.ptr jc 27 0],.lb [c0,c1,c2,c3,c4,c5,acc k (R'.map aJ)],g,u,x12,x13,.tsl a.ji ((bG σ f.regs f.ins).map aJ),.iv (.int .i64 (bG σ f.regs f.ins).length),.iv (.int .i64 (bG σ f.regs f.ins).length),r,p],S')/\Kp0 S0.length S0 S'/\aXu f σ o O R' (bG σ f.regs f.ins).length
 |0,i,S,d,R,x10,x11,V,F,h,hk,ha,Z,hR=>by obtain rfl:i=(bG σ f.regs f.ins).length:=A_;refine⟨S,d,R,x10,x11,z_,F,aE K _ _ t6L0.eq_1 ?_,hk,hR⟩;simp(disch:=omega)only[go_sem]
 |m+1,i,S,d,R,x10,x11,V,F,h,hk,ha,Z,hR=>by
  have P:i<(bG σ f.regs f.ins).length:=A_;have hl:=lF σ f.regs f.ins;have hi:=hf.n;have N:=bUk (j:=a.ji) P;obtain⟨hh,hd,h7⟩:=aXs hf hv P;obtain⟨v,S1,S2,G,fz,k2⟩:=bL3 (n:=n) (hk.2 _ _ (aN Q) Q) _ hd h7 (by rw[hn];exact hh);have h2:=hk.trans' k2;have fl:=bEi σ f.ins f.regs 0;have h1:=bKw (j:=a.jf) (l:=frM σ f.regs f.ins 0) (i:=i) A_;have hg:frM σ f.regs f.ins 0≠[]:=fun e=>by rw[e]at fl;simp at fl;omega
  have fc:∃c,c<f.ins.length/\(frM σ f.regs f.ins 0).getD i 0=((c:Nat):Int):=by obtain⟨c,j,Q,Z,e⟩:=eS P;have:=aVk σ f.ins f.regs 0 c j Q Z;rw[<-e,A7]at this;exact⟨c,Q,by rw[W_,this];rfl⟩
  obtain⟨c,J,h4⟩:=fc;have s2:=hs.kp h2;have U:=s2.blk;have sn:=fun t=>hR.snoc (f:=f) t;rw[h4,Int.toNat_natCast]at sn;rw[h4]at h1;have hm:∀ {x:VI},(aJ x).length=8/\(aJ x).all mZ=true:=fun {x}=>uS x;have L:At 8 28 (R.map aJ) d S2:=fun H=>k2.2 _ _ (aN (ha H)) (ha H);have he:(R.map aJ).length=i:=by rw[L_,hR.len]
  have I:∀(S3:aA) (z:VI),Kp0 S2.length S2 S3->At 8 28 (R.map aJ) d S3/\Kp0 S0.length S0 (gS1 8 28 (R.map aJ) d S3)/\At 8 28 ((R++[z]).map aJ) (gI (R.map aJ) d S3) (gS1 8 28 (R.map aJ) d S3)/\(R++[z]≠[]->S0.length<=gI (R.map aJ) d S3)/\bA false 8 96 28 S3 (acc d (R.map aJ)) (.iv (.sl .full [aJ z]))=some (acc (gI (R.map aJ) d S3) ((R++[z]).map aJ),gS1 8 28 (R.map aJ) d S3):=fun S3 z h3=>by
   have A:=h2.trans' h3;have a3:At 8 28 (R.map aJ) d S3:=fun H=>h3.2 _ _ (aN (L H)) (L H);have C:=bKs (b:=96) (t:=.full) a3 (uS z) (aVc _) (bR (by rw[he];omega));refine⟨a3,?_,?_,fun _=>?_,?_⟩
   .unfold gS1;split;.exact⟨by rw[H_];have:=A.1;omega,fun q b hq hb=>aR (A.2 q b hq hb) _⟩
    .rename_i H;refine⟨by rw[F6];exact A.1,fun q b hq hb=>?_⟩;have:=Z (fun e=>H (by rw[e];rfl));rw[aB A_];exact A.2 q b hq hb
   .rw[E2];exact aI2 a3 (aJ z)
   .unfold gI;split;.exact A.1
    .rename_i H;exact Z (fun e=>H (by rw[e];rfl))
   .rw[E2];exact C
  rw[cV]at N;generalize hy:(bG σ f.regs f.ins).getD i default=y at *
  by_cases hop:y.op=67
  .obtain⟨w,S3,S4,t,h8,h6,k4,_⟩:=bR3 (i:=c) J (hO c J) s2;obtain⟨a4,kg,Y,jg,C⟩:=I S4 (rX (jH o) σ (wlI 0 (O c)) t y) k4;obtain⟨S',k,R',g,u,r,p,D,W,T⟩:=bEj hf hv hn hO hs Q x0 x1 x2 x3 x4 x5 c0 c1 c2 c3 c4 c5 x12 x13 m (i+1) _ _ _ (j_ i) (.lb ((aJ (rX (jH o) σ (wlI 0 (O c)) t y)).map .iv)) e_ e_ A_ kg Y jg (sn t);rw[show((i+1:Nat):Int)=(i:Int)+1 by omega]at D;refine⟨S',k,R',g,u,r,p,aE K _ _ t6L0.eq_1 ?_,W,T⟩;have ef:rX (jH o) σ (wlI 0 (O c)) t y={fnI (jH o) y with mp:=eG (slF σ (wlI 0 (O c))),tm:=t}:=by unfold rX;rw[K_ hop]
   rw[ef]at D C Y;have es:(sk0 σ f).s=σ:=rfl;rw[es]at h6;have E:aZ (frM σ f.regs f.ins 0)≠[]:=fun e=>hg (by unfold aZ TM.one at e;exact List.map_eq_nil_iff.1 e);have h9:acc a.jf (aZ (sk0 σ f).o)=.tsl a.jf (aZ (frM σ f.regs f.ins 0)):=lO _ E;unfold spB at U;rw[h9]at U;generalize gS1 8 28 (R.map aJ) d S4=S5 at *
   generalize gI (R.map aJ) d S4=jd5 at *
   generalize eG (slF σ (wlI 0 (O c)))=M at *
   generalize (R++[{fnI (jH o) y with mp:=M,tm:=t}]).map aJ=L5 at *
   have eo:(fnI (jH o) y).op=y.op:=rfl;rw[<-eo]at hop;generalize fnI (jH o) y=z at *
   rw[cV]at C fz G;rw[aS]at D;dsimp only at C D;generalize acc a.ji ((sk0 σ f).c.map aJ)=AC at *
   generalize (bG σ f.regs f.ins).length=CL at *
   generalize (bG σ f.regs f.ins).map aJ=CV at *
   generalize aZ (frM σ f.regs f.ins 0)=FR at *
   generalize bK O f.ins.length=RL at *
   have h5:(z.op==67)=true:=by simp[hop]
   simp(disch:=omega)only[go_sem,N,G,fz,h5,U,h1,h8,h6,C,aC];exact X_ er D
  .obtain⟨a4,kg,Y,jg,C⟩:=I S2 (rX (jH o) σ (wlI 0 (O c)) .no y) ⟨O_ _,fun q b _ h=>h⟩;obtain⟨S',k,R',g,u,r,p,D,W,T⟩:=bEj hf hv hn hO hs Q x0 x1 x2 x3 x4 x5 c0 c1 c2 c3 c4 c5 x12 x13 m (i+1) _ _ _ (j_ i) (.lb ((aJ (rX (jH o) σ (wlI 0 (O c)) .no y)).map .iv)) e_ z_ A_ kg Y jg (sn .no);rw[show((i+1:Nat):Int)=(i:Int)+1 by omega]at D;refine⟨S',k,R',g,u,r,p,aE K _ _ t6L0.eq_1 ?_,W,T⟩;have ef:rX (jH o) σ (wlI 0 (O c)) .no y=fnI (jH o) y:=by unfold rX;rw[I_ hop]
   rw[ef]at D C Y;generalize gS1 8 28 (R.map aJ) d S2=S5 at *
   generalize gI (R.map aJ) d S2=jd5 at *
   generalize (R++[fnI (jH o) y]).map aJ=L5 at *
   have eo:(fnI (jH o) y).op=y.op:=rfl;generalize fnI (jH o) y=z at *
   rw[cV]at C fz G;rw[aS]at D;rw[<-eo]at hop;generalize (bG σ f.regs f.ins).length=CL at *
   generalize (bG σ f.regs f.ins).map aJ=CV at *
   simp(disch:=omega)only[go_sem,N,G,fz,hop,C,aC];exact X_ er D
structure zK (f:VF) (v:TV) (σ:List Int) (n:Nat) (o:Nat->Int) (O:Nat->List Nat) (R:List VI) (t:Tag):Prop where
 bare:sP f
 reach:Reach f σ
 hn:(n:Int)=rwR σ f.regs f.ins
 col:aDs (plC σ f.regs f.ins) n o
 wan:jN n o=[]
 out:∀i,i<f.ins.length->∀x,x∈wlI 0 (O i)↔1<=x/\x<f.regs/\zB f.ins x i
 acc:aXu f σ o O R (bG σ f.regs f.ins).length
 val:v=.tup [.iv (.agg [.int .i64 f.fn,.int .i64 32,.int .i64 σ.length,.int .i64 f.nd,.int .i64 f.pr,.bool f.rs,.sl t (R.map aJ)]),.iv (.int .i64 σ.length),.iv (.int .i64 0)]
def noV:TV:=.tup [.iv (.agg [.int .i64 0,.int .i64 0,.int .i64 0,.int .i64 0,.int .i64 0,.bool false,.sl .nil []]),.iv (.int .i64 0),.iv (.int .i64 2)]
theorem bEk{fn rg sl nd pr:Int}{rs:Bool}{ti:Tag}{ins:List VI}(a:TM.Pure K 12 [.iv (.agg (gG fn rg sl nd pr rs ti ins))] z_):fP K 6 [.iv (.agg (gG fn rg sl nd pr rs ti ins))] (·=noV):=by
 refine fP.of ?_ rfl;unfold gG at *
 refine aT t6 rfl rfl ?_;simp(disch:=omega)only[t6,go_sem,aD a];rfl
theorem bL5{fn rg sl nd pr:Int}{rs:Bool}{ti:Tag}{ins:List VI}(c:ins.length<=1000000)(b:∀x∈ins,x.us.length<=999990/\cB x.tu x.us)(d:sI rg sl nd pr ins=false):TM.Pure K 12 [.iv (.agg (gG fn rg sl nd pr rs ti ins))] z_:=by
 have a:=aP9 fn rg sl nd pr rs ti ins c b;rw[d,I_ C_]at a;unfold gG at *
 refine aT t12 rfl rfl ?_;simp(disch:=omega)only[t12,go_sem,aD a]
theorem aQt(f:VF)(hr:f.regs<=110)(hn:f.ins.length<=100)(d:∀x∈f.ins,x.us.length<=1000/\cB x.tu x.us)(N:TM.Pure K 12 [.iv (.agg (kY f))] e_)(g:sP f):fP K 6 [.iv (.agg (kY f))] fun v=>∃σ n o O R t,zK f v σ n o O R t:=by
 have hf:FOK f:=⟨g,hn,hr,d⟩
 obtain⟨I,O,_,D,s⟩:=aQa (f:=f) A_ A_ (fun x A=>⟨by have:=(d x A).1;omega,(d x A).2⟩) g.chk;have E:SpS ((([aG.mp [] 0]:aA)++[aG.cells 43 false [j_ f.fn,j_ f.regs,j_ f.sl,j_ f.nd,j_ f.pr,.iv (.bool f.rs),.iv (.sl f.ti (f.ins.map aJ)),j_ 0,j_ 0,j_ 0,j_ 0,j_ 0,z_,k_,k_,.map 0,.iv (.sl (jL (bK O f.ins.length)) (bK O f.ins.length))]]).set 1 (spB ⟨1,0,0,0⟩ f (.sl (jL (bK O f.ins.length)) (bK O f.ins.length)) ⟨[],f.regs,[],[]⟩)) ⟨1,0,0,0⟩ f (.sl (jL (bK O f.ins.length)) (bK O f.ins.length)) ⟨[],f.regs,[],[]⟩ :=
  ⟨rfl,⟨[],0,rfl,fun n=>rfl,rfl⟩,fun h=>absurd rfl h,fun h=>absurd rfl h,fun h=>absurd rfl h,rfl⟩
 obtain⟨S1,a1,p,s1,k1,Y,y⟩:=aVf (a:=⟨1,0,0,0⟩) (σ:=[]) _ _ _ _ _ _ _ _ rfl E A_ A_ (fun x A=>⟨by have:=(d x A).1;omega,(d x A).2⟩) (fun _ _ _ _=>rfl);have m:=bR2 hf s1;rw[Y,y]at m;dsimp only at p m Y y;simp only[List.cons_append,List.nil_append]at p;unfold fP;unfold kY at *
 refine dJ K _ (fn:=t6) rfl rfl ?_;have hO:=fun i G=>(s i G).2.2;have J:∀i,i<f.ins.length->(wlI 0 (O i)).length<=100000:=fun i G=>by have:=(s i G).1.2;omega
 clear s;simp(disch:=omega)only[t6,go_sem,aD N,aD D,p];refine aBr (P:=fun q=>bR1 f (.sl (jL (bK O f.ins.length)) (bK O f.ins.length)) 1 0 S1 q.1 q.2) (aCv m fun v S' h=>by rw[aFi];exact h) fun v S2 h=>?_;obtain⟨⟨σ,n,o,a,rfl,s2,W,u,r,z,w,hw⟩,k2⟩:=h;have hσ:=r.ok.len;have C:=s2.app [.cells 27 false [.iv (.sl .no (TM.one (.int .i64) ((List.range n).map o)))]];have b3:=cN S2 (.cells 27 false [.iv (.sl .no (TM.one (.int .i64) ((List.range n).map o)))]);have h3:=C.blk;have h5:=lF σ f.regs f.ins;have h4:=(qP g).1;have F:(bG σ f.regs f.ins).map aJ≠[]:=fun e=>by have:=X_ List.length e;rw[L_,List.length_nil]at this;omega
 obtain⟨S',h1,R',h0,h8,h7,h2,V,k6,Z⟩:=bEj hf r.ok.virt z (o:=o) J C b3 (.iv (.agg [.int .i64 f.fn,.int .i64 f.regs,.int .i64 f.sl,.int .i64 f.nd,.int .i64 f.pr,.bool f.rs,.sl f.ti (f.ins.map aJ)])) (.lb [j_ f.fn,j_ f.regs,j_ f.sl,j_ f.nd,j_ f.pr,.iv (.bool f.rs),.iv (.sl f.ti (f.ins.map aJ))]) (.lb [j_ 0,j_ 0,j_ 0,j_ 0,j_ 0,z_,k_]) (j_ 0) (j_ 0) (.iv (.sl (jL (bK O f.ins.length)) (bK O f.ins.length))) (j_ f.fn) (j_ 32) (j_ σ.length) (j_ f.nd) (j_ f.pr) (.iv (.bool f.rs)) z_ z_ (bG σ f.regs f.ins).length 0 _ 0 [] u_ u_ u_ u_ A_ ⟨O_ _,fun q b _ h=>h⟩ (fun h=>absurd rfl h) (fun h=>absurd rfl h) ⟨rfl,fun k hk=>absurd hk (R4 _)⟩;rw[n0_,show([]:List VI).map aJ=[] from rfl,mB,W]at V;have U:=C.kp k6;have T:=U.blk;have j:∀ {S:aA},SpS S a f (.sl (jL (bK O f.ins.length)) (bK O f.ins.length)) (sk0 σ f)->rZ .mp S (.map 0)=some (j_ σ.length):=fun {S} hs=>by
  obtain⟨l,c,y,_,m3⟩:=hs.map;rw[u]at y;have:(mpR kC l).length=σ.length:=by rw[aLp,m3];rfl
  simp[rZ,zM,lenOf,y,this];rfl
 have Q:R'.map aJ≠[]:=fun e=>by have:=X_ List.length e;rw[L_,Z.len,List.length_nil]at this;omega
 have e3:=j C;have e6:=j U;have L:acc a.ji ((sk0 σ f).c.map aJ)=.tsl a.ji ((bG σ f.regs f.ins).map aJ):=lO _ F;have H:((bG σ f.regs f.ins).map aJ).length=(bG σ f.regs f.ins).length:=L_ _;unfold spB at h3 T;rw[L,W,u]at h3 T;generalize hRL:bK O f.ins.length=RL at *
 simp(disch:=omega)only[go_sem,h3,e3,H];rw[V,lO _ Q];simp(disch:=omega)only[go_sem,T,e6];exact bE ⟨_,rfl,⟨σ,n,o,O,R',_,⟨g,r,z,w,hw,hO,Z,rfl⟩⟩⟩
theorem bUl{fn rg sl nd pr:Int}{rs:Bool}{ti:Tag}{ins:List VI}(k:rg<=110)(e:ins.length<=100)(a:∀x∈ins,x.us.length<=1000/\cB x.tu x.us):fP K 6 [.iv (.agg (gG fn rg sl nd pr rs ti ins))] fun v=>v=noV\/∃f:VF,f.ins=ins/\FOK f/\∃σ n o O R t,zK f v σ n o O R t:=by
 have c:∀x∈ins,x.us.length<=999990/\cB x.tu x.us:=fun x i=>⟨by have:=(a x i).1;omega,(a x i).2⟩
 cases hc:sI rg sl nd pr ins with
 |false=>exact fP.mono (bEk (bL5 A_ c hc)) fun v h=>.inl h
 |true =>
  have j:(32:Int)<=rg:=by unfold sI at hc;simp only[P_,q_]at hc;exact hc.1.1
  obtain⟨r,rfl⟩:=H4 (show 0<=rg by omega);obtain⟨b,d,g⟩:=aQf ⟨fn,r,sl,nd,pr,rs,ti,ins⟩ (by dsimp only;omega) (by dsimp only;omega) c;cases b with
  |false=>exact fP.mono (bEk d) fun v h=>.inl h
  |true=>exact fP.mono (aQt ⟨fn,r,sl,nd,pr,rs,ti,ins⟩ (by dsimp only;omega) e a d (g rfl)) fun v h=>.inr ⟨_,rfl,⟨g rfl,e,by dsimp only;omega,a⟩,h⟩
def isB(b:Bool):Out (TV×aA)->Bool
 |.ret (.iv (.bool c),_)=>c==b
 |_=>false
theorem aMs{n f:Nat}{a:Tn_}{b:Bool}(h:isB b ((ex K n).call f a [])=true):TM.Pure K f a (.iv (.bool b)):=by
 unfold isB at h;split at h;.rename_i c S e;refine⟨_,S,aRp e,?_⟩;rw[eq_of_beq h];rfl
 .cases h
def gI1:VI:=⟨64,32,4,0,0,0,.nil,[],.nil,[]⟩
def gIc:VI:=⟨67,4,0,0,8,0,.nil,[],.nil,[]⟩
def gI2:List VI:=[⟨64,33,4,0,0,0,.nil,[],.nil,[]⟩,⟨64,4,32,0,0,0,.nil,[],.nil,[]⟩,⟨64,5,33,0,0,0,.nil,[],.nil,[]⟩,⟨68,0,0,0,-1,0,.full,[4,5],.nil,[]⟩]
def fT:VF:=⟨0,34,0,0,0,false,.no,gI1::gIc::gI2⟩
def fF:VF:=⟨0,34,0,0,0,false,.no,gI1::gI2⟩
theorem bPw:TM.Pure K 12 [.iv (.agg (kY fT))] e_:=aMs (n:=60) (by kernel_rfl)
theorem bPx:TM.Pure K 12 [.iv (.agg (kY fF))] e_:=aMs (n:=60) (by kernel_rfl)
def aHc(Q:List VI)(T:List (List Int)):Bool:=(List.range Q.length).all fun k=>(bF (Q.getD k default)).all (fun w=>decide (w∈T.getD k []))&&(mD Q k).all fun k'=>(T.getD k'.toNat []).all fun w=>decide (w∈aY (Q.getD k default))||decide (w∈T.getD k [])
def bUm(l:List Int):List Int->List Int
 |[]=>l
 |x::m=>bUm (if x∈l then l else x::l) m
def bUn(Q:List VI)(T:List (List Int)):List (List Int):=(List.range Q.length).map fun k=>bUm (bF (Q.getD k default)) ((mD Q k).flatMap fun k'=>(T.getD k'.toNat []).filter fun w=>decide (w∉aY (Q.getD k default)))
def itT(Q:List VI):Nat->List (List Int)
 |0=>[]
 |n+1=>bUn Q (itT Q n)
theorem bR4{Q:List VI}{T:List (List Int)}(h:aHc Q T=true){w:Int}{k:Nat}(c:LvR Q w k):w∈T.getD k []:=by
 have b:∀k,k<Q.length->(∀w∈bF (Q.getD k default),w∈T.getD k [])/\∀k'∈mD Q k,∀w∈T.getD k'.toNat [],w∈aY (Q.getD k default)\/w∈T.getD k []:=fun k b=>by have a:=C6.1 h k (C5.2 b);simp only[P_,C6,D3,q_]at a;exact a
 have out:∀k,¬k<Q.length->Q.getD k default=default:=fun k h=>by rw[W_,B7 A_];rfl
 induction c with
 |@use k a =>
  by_cases hq:k<Q.length;.exact(b k hq).1 _ a
  .rw[out k hq]at a;cases a
 |@step k k' a _ h3 ih =>
  by_cases hq:k<Q.length
  .rcases(b k hq).2 k' a _ ih with h4|h4;.exact absurd h4 h3
   .exact h4
  .unfold mD at a;rw[out k hq]at a;have e:¬(((default:VI).op=68)\/(default:VI).op=72):=C_;have e2:¬((26<=(default:VI).op/\(default:VI).op<=31)\/(default:VI).op=66):=C_;rw[I_ e,I_ e2,I_ A_]at a;cases a
def bUo(Q:List VI)(T:List (List Int))(i:Nat):List Int:=(mD Q i).flatMap fun k=>T.getD k.toNat []
def aXv(Q:List VI)(T:List (List Int))(m:Int):List Int:=(List.range Q.length).flatMap fun i=>(aY (Q.getD i default)).flatMap fun d=>(aY (Q.getD i default)++bUo Q T i).flatMap fun w=>if w=d then []else(if d=m then [w]else [])++(if w=m then [d]else [])
theorem aXw{a b c d:Int}(h:prP a b=prP c d):(a=c/\b=d)\/(a=d/\b=c):=by unfold prP at h;split at h<;>split at h<;>simp only[B5]at h<;>omega
theorem aXx{Q:List VI}{T:List (List Int)}(h:aHc Q T=true){m t:Int}(l:aF0 Q m t):t∈aXv Q T m:=by
 obtain⟨i,g,d,w,e,b,h3,_,c⟩:=l;refine H7.2 ⟨i,C5.2 g,H7.2 ⟨d,e,H7.2 ⟨w,?_,?_⟩⟩⟩
 .rcases b with b|⟨k,f,j⟩;.exact G4 _ b
  .exact G0 _ (H7.2 ⟨k,f,bR4 h j⟩)
 .rw[I_ h3];rcases aXw c with⟨a,e2⟩|⟨a,e2⟩;.rw[K_ a.symm];simp[e2]
  .rw[K_ a.symm];simp[e2]
theorem qS{Q:List VI}{T:List (List Int)}(h:aHc Q T=true){n:Nat}{o:Tg_}(f:aDs Q n o){m:Nat}(j:32<=m)(k:m<n)(v:Int)(p:(aXv Q T m).all (fun t=>decide (t=v)||decide (3<=t/\t<32))=true):¬o m<0:=by
 intro i;have q:o m = -1:=by have:=f.virt m j k;omega
 have r:=f.spill m j k q;have one:∀d:Nat,1<=d->d<=2->0<=v/\o v.toNat=d:=fun d c l=>by
  obtain⟨t,s,g⟩:=r d c A_;have:=C6.1 p _ (aXx h s);simp only[D3,q_]at this;rcases this with e|⟨e2,e3⟩;.rw[<-e,Int.toNat_natCast];exact⟨by omega,g⟩
  .rw[f.mach t A_]at g;omega
 have a:=(one 1 A_ A_).2;have b:=(one 2 A_ A_).2;rw[a]at b;omega
theorem aQu{n:Nat}{o:Tg_}{p:Tj_}(h:∀m,m<n->(o m<0↔p m=true)):jN n o=((List.range n).filter p).map fun i:Nat=>(i:Int):=by
 unfold jN aBy;rw[L_,F8];congr 1;refine V4 fun m c=>?_;have a:=C5.1 c;have e:((List.range n).map o).getD m 0=o m:=by rw[W_,p_,F3 a];rfl
 rw[e];cases hp:p m with
 |true=>exact V_ ((h m a).2 hp)
 |false=>exact l_ fun b=>by rw[(h m a).1 b]at hp;cases hp
theorem aJ4{Q:List VI}{n:Nat}{o:Tg_}(a:aDs Q n o){m:Nat}(h:m<32):¬o m<0:=by rw[a.mach m h];omega
theorem rwF:rwR [] 34 fF.ins=34:=by kernel_rfl
theorem bUp:aHc (plC [] 34 fF.ins) (itT (plC [] 34 fF.ins) 8)=true:=by kernel_rfl
theorem bUq:(aXv (plC [] 34 fF.ins) (itT (plC [] 34 fF.ins) 8) 32).all (fun t=>decide (t=33)||decide (3<=t/\t<32))=true:=by kernel_rfl
theorem bUr:(aXv (plC [] 34 fF.ins) (itT (plC [] 34 fF.ins) 8) 33).all (fun t=>decide (t=32)||decide (3<=t/\t<32))=true:=by kernel_rfl
theorem bWa{n:Nat}{o:Tg_}(c:(n:Int)=rwR [] fF.regs fF.ins)(b:aDs (plC [] fF.regs fF.ins) n o):jN n o=[]:=by
 have e:rwR [] fF.regs fF.ins=34:=rwF;obtain rfl:n=34:=A_;rw[aQu (p:=fun _=>false) fun m d=>?_];.rfl
 .refine⟨fun a=>?_,fun a=>by cases a⟩;by_cases h32:m<32;.exact absurd a (aJ4 b h32)
  .rcases(by omega:m=32\/m=33)with rfl|rfl;.exact absurd a (qS bUp b A_ A_ 33 bUq)
   .exact absurd a (qS bUp b A_ A_ 32 bUr)
theorem bR5{σ:Ta_}(h:Reach fF σ):σ=[]:=by
 induction h with
 |nil=>rfl
 |step _ hn hc h0 ih =>subst ih;exact absurd (bWa hn hc) h0
theorem bWb:rwR [] 34 fT.ins=34:=by kernel_rfl
theorem bUs:aHc (plC [] 34 fT.ins) (itT (plC [] 34 fT.ins) 8)=true:=by kernel_rfl
theorem bUt:(aXv (plC [] 34 fT.ins) (itT (plC [] 34 fT.ins) 8) 33).all (fun t=>decide (t=32)||decide (3<=t/\t<32))=true:=by kernel_rfl
theorem bUu:LvR (plC [] 34 fT.ins) 32 2:=.step (k:=3) (by decide +kernel) (.use (by decide +kernel)) (by decide +kernel)
theorem bUv{d:Nat}(a:1<=d)(b:d<=24):aF0 (plC [] 34 fT.ins) (32:Nat) d:=by
 refine⟨1,by decide +kernel,d,32,?_,.inr ⟨2,by decide +kernel,bUu⟩,by omega,fun h=>?_,bC0 _ _⟩
 .have h3:∀d:Fin 25,1<=d.1->((d.1:Int))∈aY ((plC [] 34 fT.ins).getD 1 default):=by decide +kernel
  exact h3 ⟨d,by omega⟩ a
 .exact absurd h.1 (by decide +kernel)
theorem bPy{n:Nat}{o:Tg_}(g:(n:Int)=rwR [] fT.regs fT.ins)(b:aDs (plC [] fT.regs fT.ins) n o):jN n o=[32]:=by
 have e:rwR [] fT.regs fT.ins=34:=bWb
 obtain rfl:n=34:=A_
 have c:o 32 = -1:=by
  rcases b.virt 32 A_ A_with h|⟨h1,h2⟩
  .exact h
  .obtain⟨d,f⟩:=H4 (show 0<=o 32 by omega)
   exact b.edge 32 d A_ A_ (bUv A_ A_) (by rw[b.mach d A_];exact f)
 rw[aQu (p:=fun m=>m==32) fun m i=>?_]
 .rfl
 .by_cases hm32:m<32
  .exact⟨fun a=>absurd a (aJ4 b hm32),fun a=>by rw[eq_of_beq a]at hm32;omega⟩
  .rcases(by omega:m=32\/m=33)with rfl|rfl
   .exact⟨fun _=>rfl,fun _=>by rw[c];decide⟩
   .refine⟨fun a=>?_,fun a=>by cases a⟩
    -- 33 meets 32,which has no colour,and machine registers
    exact absurd a (qS bUs b A_ A_ 32 bUt)
theorem bWc:rwR [32] 34 fT.ins=36:=by kernel_rfl
theorem aVl:aHc (plC [32] 34 fT.ins) (itT (plC [32] 34 fT.ins) 12)=true:=by kernel_rfl
theorem nbT:[(32,0),(33,35),(34,0),(35,33)].all (fun p:Int×Int=>(aXv (plC [32] 34 fT.ins) (itT (plC [32] 34 fT.ins) 12) p.1).all (fun t=>decide (t=p.2)||decide (3<=t/\t<32)))=true:=by kernel_rfl
theorem bUw{n:Nat}{o:Tg_}(d:(n:Int)=rwR [32] fT.regs fT.ins)(b:aDs (plC [32] fT.regs fT.ins) n o):jN n o=[]:=by
 have e:rwR [32] fT.regs fT.ins=36:=bWc;obtain rfl:n=36:=A_;have c:=C6.1 nbT;rw[aQu (p:=fun _=>false) fun m f=>?_];.rfl
 .refine⟨fun a=>?_,fun a=>by cases a⟩;by_cases h32:m<32;.exact absurd a (aJ4 b h32)
  .rcases(by omega:m=32\/m=33\/m=34\/m=35)with rfl|rfl|rfl|rfl;.exact absurd a (qS aVl b A_ A_ 0 (c (32,0) B_))
   .exact absurd a (qS aVl b A_ A_ 35 (c (33,35) B_))
   .exact absurd a (qS aVl b A_ A_ 0 (c (34,0) B_))
   .exact absurd a (qS aVl b A_ A_ 33 (c (35,33) B_))
theorem bR6{σ:Ta_}(h:Reach fT σ):σ=[]\/σ=[32]:=by
 induction h with
 |nil=>exact .inl rfl
 |step _ hn hc h0 ih =>
  rcases ih with rfl|rfl;.rw[bPy hn hc];exact .inr (by decide +kernel)
  .exact absurd (bUw hn hc) h0
end Go.Proofs.YtehlgnfhkidgoaaGreatDoor
