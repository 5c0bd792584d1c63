/- Some texts of the proof, joined. Condition: none. -/
import Derived.Test.YtehlgnfhkidgoaaGreatDoorJf
import Derived.Test.YtehlgnfhkidgoaaGreatDoorJe
set_option linter.unusedSectionVars false
set_option maxRecDepth 100000
set_option maxHeartbeats 64000000
set_option linter.unusedSimpArgs false
set_option linter.unusedVariables false
namespace Go.Proofs.YtehlgnfhkidgoaaGreatDoor
open Go Go.TM
theorem qE{L:Tc_}{i:Nat}(h:i<L.length):L.getD i default∈L:=by simp only[List.getD,D_ h,Option.getD_some];exact B8 _
theorem aQh{S:aA}{jb t n:Nat}{u:Tg_}(h:Dg S jb t n u){jl v:Nat}{L:Tc_}{J:Tn_}(j:S[jl]?=some (.cells v true (L.map nI++J)))(a:∀x∈L,x<n)(g:L.length<=1000000)(cap:Nat)(x2 x5:TV):∀(k i m:Nat) (x6 x7:TV),i+k=L.length->m∈L ->∃e p f,lp' (lim K) t94L0 [.msl jl v 0 L.length cap 1,.fn 95 [] [.ptr jb 27 0],x2,j_ (m:Nat),j_ i,x5,x6,x7] S = .ret (.exit 0,[.msl jl v 0 L.length cap 1,.fn 95 [] [.ptr jb 27 0],x2,j_ (e:Nat),j_ L.length,x5,p,f],S)/\e∈L
 |0,i,m,x6,x7,hk,hm=>by obtain rfl:i=L.length:=A_;refine⟨m,z_,x7,aE K _ _ t94L0.eq_1 ?_,hm⟩;simp(disch:=omega)only[go_sem]
 |k+1,i,m,x6,x7,hk,hm=>by
  have b:i<L.length:=A_;have s:=bLo (jl:=jl) (v:=v) (cap:=cap) b;have q:=aJv (J:=J) b;have r:=qE b;obtain⟨c,l⟩:=bRu h (a _ r) (a _ hm);simp only[nI]at j q;by_cases hd:0<c;.obtain⟨e,p,f,o,d⟩:=aQh h (J:=J) (by simpa only[nI] using j) a g cap x2 x5 k (i+1) (L.getD i default) e_ e_ A_ r;rw[show((i+1:Nat):Int)=(i:Int)+1 by omega]at o;refine⟨e,p,f,aE K _ _ t94L0.eq_1 ?_,d⟩;simp(disch:=omega)only[go_sem,s,j,q,l,aC];exact X_ er o
  .obtain⟨e,p,f,o,d⟩:=aQh h (J:=J) (by simpa only[nI] using j) a g cap x2 x5 k (i+1) m e_ z_ A_ hm;rw[show((i+1:Nat):Int)=(i:Int)+1 by omega]at o;refine⟨e,p,f,aE K _ _ t94L0.eq_1 ?_,d⟩;simp(disch:=omega)only[go_sem,s,j,q,l,aC];exact X_ er o
theorem bRv{S:aA}{jb k n:Nat}{l:Tg_}(h:Dg S jb k n l){jl v:Nat}{L:Tc_}{J:Tn_}(d:S[jl]?=some (.cells v true (L.map nI++J)))(c:∀x∈L,x<n)(b:L.length<=1000000)(a:0<L.length)(cap:Nat): ∃m:Nat,(lim K).call 94 [.msl jl v 0 L.length cap 1,.fn 95 [] [.ptr jb 27 0]] S=.ret (j_ m,S)/\m∈L:=by have g:=bLo (jl:=jl) (v:=v) (cap:=cap) a;have e:=aJv (J:=J) a;obtain⟨m,p,o,f,i⟩:=aQh h d c b cap (j_ 0) z_ (L.length-1) 1 (L.getD 0 default) u_ u_ A_ (qE a);simp only[nI]at d e;rw[n0_]at g;rw[show((1:Nat):Int)=1 from rfl]at f;refine⟨m,aI K _ (fn:=t94) rfl rfl ?_,i⟩;have j:¬(L.length:Int)<1:=A_;simp(disch:=omega)only[t94,go_sem,g,d,e,j];rw[f];simp(disch:=omega)only[go_sem]
theorem bDs{t:Tag}{L:Tc_}(d:L.length<=1000000)(m:Nat):∀(k i:Nat) (x2 f x6 x7:TV),i+k=L.length->m∈L.drop i ->∃q g h l b,lp' (lim K) t74L0 [.iv (.sl t (cQ L)),j_ m,x2,f,j_ L.length,j_ i,x6,x7] [] = .ret (.ret,[.iv (.sl t (cQ L)),j_ m,j_ (q:Nat),g,j_ L.length,h,l,b],[])/\q<L.length
 |0,i,x2,f,x6,x7,hk,hm=>by rw[F8 A_]at hm;cases hm
 |k+1,i,x2,f,x6,x7,hk,hm=>by
  have a:i<L.length:=A_;have o:=uT (t:=t) a;have c:L.drop i=L.getD i default::L.drop (i+1):=by rw[A7 a];simp[List.getD,D_ a]
  rw[c]at hm;by_cases hd:L.getD i default=m;.rw[hd]at o;refine⟨i,j_ i,j_ i,e_,e_,aE K _ _ t74L0.eq_1 ?_,a⟩;simp(disch:=omega)only[go_sem,o]
  .have j:m∈L.drop (i+1):=by
    rcases J_.1 hm with e|e;.exact absurd e.symm hd
    .exact e
   obtain⟨q,g,h,l,b,p,r⟩:=bDs (t:=t) d m k (i+1) x2 (j_ i) e_ z_ A_ j;rw[show((i+1:Nat):Int)=(i:Int)+1 by omega]at p;refine⟨q,g,h,l,b,aE K _ _ t74L0.eq_1 ?_,r⟩;have n:¬((m:Int)=(L.getD i default:Nat)):=A_;simp(disch:=omega)only[go_sem,o,n,aC];exact X_ er p
theorem bRw{t:Tag}{L:Tc_}(a:L.length<=1000000){m:Nat}(c:m∈L):∃q:Nat,Pure K 74 [.iv (.sl t (cQ L)),j_ m] (j_ q)/\q<L.length:=by obtain⟨q,h,f,g,e,b,d⟩:=bDs (t:=t) a m L.length 0 (j_ 0) u_ u_ u_ A_ (by simpa using c);rw[n0_]at b;refine⟨q,TM.gO (S:=[]) (r:=j_ q) (aI K _ (fn:=t74) rfl rfl ?_) (by rw[oN]),d⟩;simp(disch:=omega)only[t74,go_sem,iW];rw[b];simp(disch:=omega)only[go_sem]
theorem bLq{S:aA}{jl v:Nat}{L:Tc_}{J:Tn_}(c:S[jl]?=some (.cells v true (L.map nI++J)))(cap:Nat):cH S (.msl jl v 0 L.length cap 1)=some (cQ L):=by
 have b:sub (L.map nI++J) 0 (L.length*1)=some (L.map nI):=by simp[sub,X2]
 have e2:toIVs (L.map nI)=some (L.map fun m:Nat=>IV.int .i64 (m:Int)):=by
  have:L.map nI=(L.map fun m:Nat=>IV.int .i64 (m:Int)).map .iv:=by rw[L6];rfl
  rw[this,fL]
 have e3:∀L:List Nat,cN 1 L.length (L.map fun m:Nat=>IV.int .i64 (m:Int))=cQ L:=by
  intro L;induction L with
  |nil=>rfl
  |cons a r ih=>simp only[Q_,List.length_cons,cN,List.take_succ_cons,List.take_zero,I7,C4,ih];rfl
 simp only[cH,c,ne_eq,C8,↓reduceIte,b,e2,Option.map_some,e3]
theorem bLr{m cap a b c:Nat}(d:c<=cap)(e:b<=c)(f:a<=b):fO m cap (some (a:Int)) (some (b:Int)) (some (c:Int))=some (a,b,c):=by simp[fO,lE d,lE e,lE f]
theorem bLs{m cap a b:Nat}(c:b<=cap)(d:a<=b):fO m cap (some (a:Int)) (some (b:Int)) none=some (a,b,cap):=by have:qI none cap cap=some cap:=rfl;simp[fO,this,lE c,lE d]
theorem aCj{S:aA}{jl v m cap:Nat}{cs:Tn_}(f:S[jl]?=some (.cells v true cs))(a d b:Option Int){l h c:Nat}(e:fO m cap a d b=some (l,h,c)):fA S (.sl 1) (.msl jl v 0 m cap 1) a d b=some (.msl jl v (if c=l then 0 else 0+l*1) (h-l) (c-l) 1):=by
 have g:rZ S jl v=true:=by simp[rZ,f]
 simp[fA,g,e]
theorem bRx(l:Tc_):(l.map nI).any bH=false:=by rw[q_];intro x a;obtain⟨m,_,rfl⟩:=r_.1 a;simp[nI,bH]
theorem aMj{L:Tc_}{J:Tn_}{i:Nat}(c:i<L.length):put (L.map nI++J) i ((L.drop (i+1)).map nI)=(L.eraseIdx i).map nI++(nI (L.getD (L.length-1) default)::J):=by
 unfold put;rw[K0 (by simp<;>omega),Q2,D0,List.map_take];simp only[A8];congr 2;have b:i+((L.drop (i+1)).map nI).length=L.length-1:=by simp;omega
 rw[b,J9 (by simp<;>omega),<-List.map_drop];have a:L.drop (L.length-1)=[L.getD (L.length-1) default]:=by rw[A7 A_,F8 A_];simp[List.getD,D_ (show L.length-1<L.length by omega)]
 rw[a];rfl
theorem bDt{S:aA}{jl v:Nat}{L:Tc_}{J:Tn_}(g:S[jl]?=some (.cells v true (L.map nI++J))){i:Nat}(m:i<L.length)(c':Nat): bA false 1 8 3 S (.msl jl v 0 (i-0) (L.length+J.length-0) 1) (.msl jl v (if L.length+J.length=i+1 then 0 else 0+(i+1)*1) (L.length-(i+1)) c' 1)=some (.msl jl v 0 (L.length-1) (L.length+J.length) 1,S.set jl (.cells v true ((L.eraseIdx i).map nI++(nI (L.getD (L.length-1) default)::J)))):=by
 have a:=aMj (J:=J) m;have j:dS S (.msl jl v (if L.length+J.length=i+1 then 0 else 0+(i+1)*1) (L.length-(i+1)) c' 1)=some ((L.drop (i+1)).map nI):=by
  simp only[dS,g,↓reduceIte,H9,A9];by_cases e:L.length+J.length=i+1;.rw[K_ e,show L.length-(i+1)=0 by omega,F8 A_];simp[sub]
  .rw[I_ e];simp only[sub,H_,P_,show i+1+(L.length-(i+1))<=L.length+J.length by omega,↓reduceIte];rw[J9 (by simp;omega),K0 B_,<-List.map_drop,N2 B_]
 have b:((L.drop (i+1)).map nI).length=L.length-(i+1):=B_;have d:lenOf S (.msl jl v (if L.length+J.length=i+1 then 0 else 0+(i+1)*1) (L.length-(i+1)) c' 1)=some (L.length-(i+1)):=rfl;generalize TV.msl jl v (if L.length+J.length=i+1 then 0 else 0+(i+1)*1) (L.length-(i+1)) c' 1=x at j d |-;simp only[bA,j,d,b,H9,ne_eq,C8,bRx,Y_,or_self,↓reduceIte,Nat.sub_zero,A9];by_cases e:L.length-(i+1)=0
 .rw[K_ e];have h:i=L.length-1:=A_;have:L.drop (i+1)=[]:=F8 A_;rw[this]at a;have f:put (L.map nI++J) i (([]:Tc_).map nI)=L.map nI++J:=by simp only[put,C3,A0,List.length_nil,Nat.add_zero,F3]
  rw[f]at a;obtain⟨l,k⟩:=E_.1 g;rw[<-a,<-k,J6,<-h];rfl
 .rw[I_ e];simp only[g,show ¬(1≠1\/v≠v) by simp,↓reduceIte,show i+(L.length-(i+1))<=L.length+J.length by omega,H_,P_,a,show i+(L.length-(i+1))=L.length-1 by omega];have n:L.length-1<=L.length+J.length:=A_;simp[n,show L.length<=L.length+J.length+1 by omega]
theorem bRy{S:aA}{jl v:Nat}{L:Tc_}{J:Tn_}(f:S[jl]?=some (.cells v true (L.map nI++J)))(o:L.length<=1000000){i:Nat}(l:i<L.length): ∃J',(lim K).call 97 [.msl jl v 0 L.length (L.length+J.length) 1,j_ i,j_ (i+1:Nat)] S=.ret (.msl jl v 0 (L.length-1) (L.length+J.length) 1,S.set jl (.cells v true ((L.eraseIdx i).map nI++J')))/\J'.length=J.length+1:=by
 have n:=bLr (m:=L.length) (cap:=L.length+J.length) (a:=i) (b:=i+1) (c:=L.length) A_ A_ A_;have b2:=uK (m:=L.length) (cap:=L.length+J.length) (b:=i) A_;have b3:=pV (m:=L.length) (cap:=L.length+J.length) (a:=i+1) A_ A_;have j:=aCj f _ _ _ n;have r:=aCj f _ _ _ b2;have k:=aCj f _ _ _ b3;have s:=bDt f l (L.length+J.length-(i+1));have h:=aN f;have g:(S.set jl (.cells v true ((L.eraseIdx i).map nI++(nI (L.getD (L.length-1) default)::J))))[jl]?=some _:=aM h _;have u:=bLs (m:=L.length-1) (cap:=L.length+J.length) (a:=L.length-1) (b:=L.length) A_ A_;have t:=aCj g _ _ _ u;have p:∀e,lY [.int .i64 0] (S.set jl (.cells v true ((L.eraseIdx i).map nI++(nI (L.getD (L.length-1) default)::J)))) (.msl jl v (0+(L.length-1)*1) (L.length-(L.length-1)) e 1)=some (S.set jl (.cells v true ((L.eraseIdx i).map nI++(j_ 0::J)))):=by
  intro e;have w:L.length-(L.length-1)=1:=A_;have x:¬L.length+J.length=L.length-1:=A_;have d:((L.eraseIdx i).map nI).length=L.length-1:=by rw[P_,R0,K_ l]
  have q:put ((L.eraseIdx i).map nI++(nI (L.getD (L.length-1) default)::J)) (L.length-1) [j_ 0]=(L.eraseIdx i).map nI++(j_ 0::J):=by
   unfold put;rw[<-d,K1,List.drop_append];.simp
   .rfl
  simp only[lY,g,w,x,↓reduceIte,H9,A9,List.length_cons,List.length_nil,AD];have y:L.length-1+1<=((L.eraseIdx i).map nI++(nI (L.getD (L.length-1) default)::J)).length:=by rw[H_,d];simp<;>omega
  simp only[y,q,X3,↓reduceIte,TM.bE,List.replicate,Q_,C3,A0,Nat.one_ne_zero,H1]
 refine⟨j_ 0::J,aI K _ (fn:=t97) rfl rfl ?_,rfl⟩;rw[show((i+1:Nat):Int)=(i:Int)+1 by omega]at j k |-;simp(disch:=omega)only[t97,go_sem,j,r,k,s,t,fun env c=>aLp _ env _ _ _ (p c)]
theorem uU{S0 S:aA}(k:bL [] S0 S){i:Nat}(c:S0.length<=i)(b:aG):bL [] S0 (S.set i b) :=
 ⟨by have:=k.len;simpa using this,fun j x _ a=>by have:=aN a;rw[aB A_];exact k.get j x B_ a⟩
theorem bDu{S0 S:aA}(k:bL [] S0 S)(a:List aG):bL [] S0 (S++a):=k.trans (bL.app [] S a)
theorem aXi{S:aA}{b v:Nat}{L:Tc_}(r:Nat)(f:S[b]?=some (.cells v true (L.map nI)))(h:L.length<=1000000): bA true 1 8 3 S (.msl b v 0 L.length L.length 1) (.iv (.sl .full [[.int .i64 (r:Int)]]))=some (.msl b (v+1) 0 (L.length+1) (L.length+1) 1,S.set b (.cells (v+1) true ((L++[r]).map nI))):=by have c:sub (L.map nI) 0 L.length=some (L.map nI):=mE B_;have g:dY (L.length+1) 8=true:=bR A_;have e:dS S (.iv (.sl .full [[.int .i64 (r:Int)]]))=some [nI r]:=rfl;have a:lenOf S (.iv (.sl .full [[.int .i64 (r:Int)]]))=some 1:=rfl;have d:bH (nI r)=false:=rfl;simp[bA,e,a,f,d,g,c,show ¬L.length+1<=L.length by omega]
structure Lf (S0 S:aA) (n:Nat) (L:List Nat) (dg:Nat->Int) (lv:TV):Prop where
 keep:bL [] S0 S
 gone:S[S0.length]?=some (.cells 0 false (cF n fun _=>bI false))
 deg:Dg S (S0.length+2) (S0.length+1) n dg
 lst:(L=[]/\lv=.iv (.sl .nil [])/\S.length=S0.length+3)\/(L≠[]/\∃v,lv=.msl (S0.length+3) v 0 L.length L.length 1/\S[S0.length+3]?=some (.cells v true (L.map nI)))
def dF(p:Pn)(i:Nat):List Nat:=((List.range p.n).drop i).filter fun r=>decide (p.to r=r)
theorem aJw{S0:aA}{a:Ad}{p:Pn}(m:PT S0 a p)(P:p.n<=1000000)(R x2 x7 x8 x9 x12 x13 x14 x15 x16:TV):∀(k i:Nat) (L:Tc_) (s:Tg_) (lv:TV) (S:aA) (x10 x11:TV),i+k=p.n->Lf S0 S p.n L s lv->L.length<=i ->∃h q S' g o,lp' (lim K) t70L2 [.ptr a.ip 106 0,R,x2,.msl S0.length 0 0 p.n p.n 1,.ptr (S0.length+2) 27 0,lv,j_ i,x7,x8,x9,x10,x11,x12,x13,x14,x15,x16] S = .ret (.exit 0,[.ptr a.ip 106 0,R,x2,.msl S0.length 0 0 p.n p.n 1,.ptr (S0.length+2) 27 0,g,j_ p.n,x7,x8,x9,h,q,x12,x13,x14,x15,x16],S') /\Lf S0 S' p.n (L++dF p i) o g
 |0,i,L,s,lv,S,x10,x11,hk,hB,hl=>by
  obtain rfl:i=p.n:=A_;have z:=(m.keep hB.keep).blk;simp only[dL]at z;have e:dF p p.n=[]:=by unfold dF;rw[F8 B_];rfl
  refine⟨z_,x11,S,lv,s,aE K _ _ t70L2.eq_1 ?_,by rw[e,A0];exact hB⟩;simp(disch:=omega)only[go_sem,z]
 |k+1,i,L,s,lv,S,x10,x11,hk,hB,hl=>by
  have d:i<p.n:=A_;have T:=m.keep hB.keep;have z:=T.blk;have b2:=T.to;have V:=fR (j:=a.jt) (v:=a.vt) d;have I:=dO (fun r=>nI (p.to r)) d;simp only[dL]at z;simp only[nI]at b2 I;have J:=aDs d;by_cases e:p.to i=i
  .have Z:dF p i=i::dF p (i+1):=by unfold dF;rw[J,E6,K_ (by simpa using e)]
   obtain⟨l,c,m1,m2,m3⟩:=T.nmap i d;have hd:=sV m2 m3;have h4:=aN hB.deg.box;obtain⟨S1,D,Q,E,G,U,F,h1,y,h5⟩:∃S1 D Q,bA true 1 8 3 S lv (.iv (.sl .full [[.int .i64 (i:Int)]]))=some (D,S1)/\D=.msl (S0.length+3) Q 0 (L.length+1) (L.length+1) 1/\S1[S0.length+3]?=some (.cells Q true ((L++[i]).map nI))/\bL [] S0 S1/\S1[S0.length]?=some (.cells 0 false (cF p.n fun _=>bI false))/\Dg S1 (S0.length+2) (S0.length+1) p.n s/\S.length<=S1.length:=by
    rcases hB.lst with⟨rfl,rfl,H⟩|⟨h0,v,rfl,hS⟩
    .have E:=uQ (mu:=true) (bytes:=8) (el:=3) (S:=S) (f:=fun _=>nI i) (x:=.iv (.sl .full [[.int .i64 (i:Int)]])) rfl rfl rfl (bR A_) (.inl rfl);rw[H]at E;have u:∀j b,S[j]?=some b->(S++[aG.cells 0 true (cF 1 fun _=>nI i)])[j]?=some b:=fun j b hb=>by rw[W_ (aN hb)];exact hb
     refine⟨_,_,_,E,rfl,?_,bDu hB.keep _,u _ _ hB.gone,⟨u _ _ hB.deg.box,u _ _ hB.deg.row⟩,by simp⟩;rw[<-H];simp[cF]
    .have E:=aXi i hS A_;refine⟨_,_,_,E,rfl,aM (aN hS) _,uU hB.keep A_ _,by rw[aB A_];exact hB.gone,⟨by rw[aB A_];exact hB.deg.box,by rw[aB A_];exact hB.deg.row⟩,by simp⟩
   have N:∀j,mZ j lv=lv:=by intro j;rcases hB.lst with⟨_,rfl,_⟩|⟨_,v,rfl,_⟩<;>rfl
   subst G;have C:=m.keep F;have b3:=C.blk;have b4:=C.near;have b5:=y.box;have b6:=y.row;have i2:=fR (j:=a.jn) (v:=a.vn) d;have s2:=dO (fun r=>TV.map (a.nm r)) d;have i3:=fR (j:=S0.length+1) (v:=0) d;have s3:=lF (fun r=>vI (s r)) (vI (deg p.n (p.near i):Nat)) d;obtain⟨l',c',Y,h3,h2⟩:=C.nmap i d;have t:=aMf Y;rw[sV h3 h2]at t;have W:Lf S0 (S1.set (S0.length+1) (.cells 0 false (cF p.n fun r=>vI (upd s i (deg p.n (p.near i):Nat) r)))) p.n (L++[i]) (upd s i (deg p.n (p.near i):Nat)) (.msl (S0.length+3) Q 0 (L.length+1) (L.length+1) 1) :=
    ⟨uU F A_ _,by rw[aB A_];exact h1,⟨by rw[aB A_];exact y.box,aM A_ _⟩,.inr ⟨by simp,Q,by simp,by rw[aB A_];exact U⟩⟩
   obtain⟨h,q,S',g,o,A,w⟩:=aJw m P R x2 x7 x8 x9 x12 x13 x14 x15 x16 k (i+1) (L++[i]) _ _ _ e_ e_ A_ W (by simp;omega);rw[show((i+1:Nat):Int)=(i:Int)+1 by omega]at A;refine⟨h,q,S',g,o,aE K _ _ t70L2.eq_1 ?_,by rw[Z];simpa using w⟩;.rw[e]at I;rw[oB vI]at s3;simp only[dL]at b3;simp only[vI]at b6 s3 A;simp(disch:=omega)only[go_sem,z,b2,V,I,N,E,b3,b4,b5,b6,i2,s2,i3,s3,t,aC];exact X_ er A
  .have Z:dF p i=dF p (i+1):=by unfold dF;rw[J,E6,I_ (by simpa using e)]
   obtain⟨h,q,S',g,o,A,w⟩:=aJw m P R x2 x7 x8 x9 x12 x13 x14 x15 x16 k (i+1) L s lv S e_ z_ A_ hB A_;rw[show((i+1:Nat):Int)=(i:Int)+1 by omega]at A;refine⟨h,q,S',g,o,aE K _ _ t70L2.eq_1 ?_,by rw[Z];exact w⟩;have e':¬((p.to i:Int)=(i:Int)):=A_;rcases hB.lst with⟨_,rfl,_⟩|⟨_,v,rfl,_⟩;.simp(disch:=omega)only[go_sem,z,b2,V,I,e',aC];exact X_ er A
   .simp(disch:=omega)only[go_sem,z,b2,V,I,e',aC];exact X_ er A
structure Odr (S0 S:aA) (n:Nat) (L:List Nat) (J:List TV) (v:Nat) (out:List Nat) (jo:Nat) (dg:Nat->Int):Prop where
 keep:bL [] S0 S
 gone:S[S0.length]?=some (.cells 0 false (cF n fun r=>bI (decide (r∈out))))
 deg:Dg S (S0.length+2) (S0.length+1) n dg
 lst:S[S0.length+3]?=some (.cells v true (L.map nI++J))
 tok:At 1 3 (cQ out) jo S
 jo:out≠[]->S0.length+4<=jo
def e21(a:Ad)(s0 n:Nat)(x1 xo lv x6 x7 x8 x9 x10 x11 x12 x13 x14 x15 x16:TV):List TV:=[.ptr a.ip 106 0,x1,xo,.msl s0 0 0 n n 1,.ptr (s0+2) 27 0,lv,x6,x7,x8,x9,x10,x11,x12,x13,x14,x15,x16]
theorem Odr.it{S0 S:aA}{n:Nat}{L:Tc_}{J:Tn_}{v:Nat}{out:Tc_}{jo:Nat}{d:Tg_}(h:Odr S0 S n L J v out jo d){bi:Nat}{m:Option Nat}{x:Nat}{y:Tc_}{z:Nat}(a:S[bi]?=some (.mit m x y z))(c:S0.length<=bi)(f:aG):Odr S0 (S.set bi f) n L J v out jo d :=
 ⟨uU h.keep c _,by rw[aB (bO a h.gone B_)];exact h.gone,⟨by rw[aB (bO a h.deg.box B_)];exact h.deg.box,by rw[aB (bO a h.deg.row B_)];exact h.deg.row⟩,by rw[aB (bO a h.lst B_)];exact h.lst,fun e=>by rw[aB (bO a (h.tok e) B_)];exact h.tok e,h.jo⟩
theorem Odr.setD{S0 S:aA}{n:Nat}{L:Tc_}{J:Tn_}{v:Nat}{out:Tc_}{jo:Nat}{a:Tg_}(h:Odr S0 S n L J v out jo a)(t:Nat)(w:Int):Odr S0 (S.set (S0.length+1) (.cells 0 false (cF n fun r=>vI (upd a t w r)))) n L J v out jo (upd a t w):=by have c:=aN h.deg.row;refine⟨uU h.keep A_ _,by rw[aB A_];exact h.gone,⟨by rw[aB A_];exact h.deg.box,aM c _⟩,by rw[aB A_];exact h.lst,fun b=>?_,h.jo⟩;have:=h.jo (fun e=>b (by rw[e];rfl));rw[aB A_];exact h.tok b
theorem aJx{S0:aA}{a:Ad}{p:Pn}(o:PT S0 a p)(w:p.n<=1000000){r:Nat}(Y:r<p.n){bi c:Nat}(i:S0.length<=bi){l:Td_}(A:gB l c)(Q:∀t:Int,cB l t=true↔∃s:Nat,t=s/\s<p.n/\p.near r s=true){L:Tc_}{J:Tn_}{v:Nat}{out:Tc_}{jo:Nat}(x y lv x6 x7 x8 x10 x11 x12 x13:TV): ∀(k:Nat) (b:Tc_) (d:Tg_) (S:aA) (x9 x15 x16:TV),left l b<k->Odr S0 S p.n L J v out jo d->S[bi]?=some (.mit (some (a.nm r)) c b c)->S[a.nm r]?=some (.mp (mpR vI l) c) ->(lp' (lim K) t70L0 (e21 a S0.length p.n x y lv x6 x7 x8 x9 x10 x11 x12 x13 (.it bi) x15 x16) S).All fun q=>∃I y9 D R,q.1=.exit 4/\q.2.1=e21 a S0.length p.n x y lv x6 x7 x8 y9 x10 x11 x12 x13 (.it bi) D R/\Odr S0 q.2.2 p.n L J v out jo I
 |0,b,d,S,x9,x15,x16,hk,hO,hb,hm=>A_
 |k+1,b,d,S,x9,x15,x16,hk,hO,hb,hm=>by
  unfold e21;refine fC t70L0.eq_1 ?_;simp(disch:=omega)only[go_sem];refine jJ hb hm A.born (L_ _) (fun Z=>?_) (fun z P hs=>?_);.simp(disch:=omega)only[go_sem];exact bG ⟨d,_,_,_,rfl,rfl,hO⟩
  .have h0:=vJ P hs;have G:bi≠a.nm r:=bO hb hm B_;have e:=hO.it hb i (.mit (some (a.nm r)) c (b++[z.1]) c);have g:(S.set bi (.mit (some (a.nm r)) c (b++[z.1]) c))[bi]?=_:=aM (aN hb) _;have h:(S.set bi (.mit (some (a.nm r)) c (b++[z.1]) c))[a.nm r]?=some (.mp (mpR vI l) c):=by rw[aB G];exact hm
   have C:=aAq g h P A.once;generalize S.set bi (.mit (some (a.nm r)) c (b++[z.1]) c)=S1 at *
   obtain⟨t,V,f,h1⟩:=wK Q P;have E:=e.gone;have U:=fR (j:=S0.length) (v:=0) f;have u:=dO (fun r=>bI (decide (r∈out))) f;simp only[bI]at E u;rw[V]at C;rw[V];by_cases hout:t∈out;.rw[V_ hout]at u;have m:=aJx o w Y i A Q x y lv x6 x7 x8 x10 x11 x12 x13 k (b++[z.1]) d S1 (j_ t) e_ z_ A_ e g h;unfold e21 at m;simp(disch:=omega)only[go_sem,C,E,U,u];exact cP m
   .rw[Z_ hout]at u;have b2:=e.deg.box;have b3:=e.deg.row;have i2:=fR (j:=S0.length+1) (v:=0) f;have W:=dO (fun r=>vI (d r)) f;have T:=lF (fun r=>vI (d r)) (vI (IntKind.i64.wrap (d t-1))) f;have N:=e.setD t (IntKind.i64.wrap (d t-1));rw[oB vI]at T;have F:(S1.set (S0.length+1) (.cells 0 false (cF p.n fun r=>vI (upd d t (IntKind.i64.wrap (d t-1)) r))))[a.nm r]?=some (.mp (mpR vI l) c):=by rw[aB (bO b3 h B_)];exact h
    have H:(S1.set (S0.length+1) (.cells 0 false (cF p.n fun r=>vI (upd d t (IntKind.i64.wrap (d t-1)) r))))[bi]?=some (.mit (some (a.nm r)) c (b++[z.1]) c):=by rw[aB (bO b3 g B_)];exact g
    have m:=aJx o w Y i A Q x y lv x6 x7 x8 x10 x11 x12 x13 k (b++[z.1]) _ _ (j_ t) e_ e_ A_ N H F;unfold e21 at m;simp only[vI]at b3 W T m;simp(disch:=omega)only[go_sem,C,E,U,u,b2,b3,i2,W,T];exact cP m
structure OF (p:Pn) (L out:List Nat) (dg:Nat->Int):Prop where
 ndL:L.Nodup
 ndO:out.Nodup
 dis:∀t,t∈L->t∉out
 all:∀t,(t∈L\/t∈out)↔32<=t/\t<p.n/\p.to t=t
theorem OF.step{p:Pn}{ρ d:Th_}(E:Inv p ρ d)(s:p.n<=1000000){L out:Tc_}{C f:Tg_}(h:OF p L out C){q:Nat}(m:q<L.length):OF p (L.eraseIdx q) (out++[L.getD q default]) f:=by
 have g:=qE m;have i:=h.dis _ g;obtain⟨w,v,D⟩:=(h.all _).1 (.inl g);have c:L.getD q default=L[q]:=by simp[List.getD,D_ m]
 have l:L.take q++L[q]::L.drop (q+1)=L:=by rw[List.getElem_cons_drop,F3]
 have b:∀t,t∈L.eraseIdx q↔t∈L/\t≠L.getD q default:=by
  intro t;have nd:=h.ndL;rw[c,Q2,U_];rw[<-l,H4,C7]at nd;obtain⟨_,⟨o,_⟩,u⟩:=nd;have j:t∈L↔t∈L.take q\/t=L[q]\/t∈L.drop (q+1):=by rw[<-J_,<-U_,l]
  rw[j];constructor
  .rintro(a|a);.exact⟨.inl a,fun e=>u t a L[q] N1 e⟩
   .exact⟨.inr (.inr a),fun e=>o (by rw[<-e];exact a)⟩
  .rintro⟨a|a|a,A⟩;.exact .inl a
   .exact absurd a A
   .exact .inr a
 generalize L.getD q default=r at *
 refine⟨h.ndL.eraseIdx q,?_,fun t j=>?_,fun t=>?_⟩;.rw[H4];exact⟨h.ndO,by simp,fun x z y k e=>i (by simp at k;rw[<-k,<-e];exact z)⟩
 .have:=(b t).1 j;simp only[U_,S_,G6];exact⟨h.dis t this.1,this.2⟩
 .rw[<-h.all t,b t];simp only[U_,S_];constructor
  .rintro(a|a|a);.exact .inl a.1
   .exact .inr a
   .rw[a];exact .inl g
  .rintro(a|a)
   .by_cases e:t=r;.exact .inr (.inr e)
    .exact .inl ⟨a,e⟩
   .exact .inr (.inl a)
theorem bDv{S0:aA}{a:Ad}{p:Pn}{ρ d:Th_}(C:PT S0 a p)(hI:Inv p ρ d)(I:p.n<=1000000)(x1 x6:TV): ∀(k:Nat) (L:Tc_) (J:Tn_) (v:Nat) (out:Tc_) (jo:Nat) (s:Tg_) (S:aA) (x7 x8 x9 x10 x11 x12 x13 x14 x15 x16:TV),L.length=k->Odr S0 S p.n L J v out jo s->OF p L out s->L.length+out.length<=1000000 ->(lp' (lim K) t70L1 (e21 a S0.length p.n x1 (acc jo (cQ out)) (.msl (S0.length+3) v 0 L.length (L.length+J.length) 1) x6 x7 x8 x9 x10 x11 x12 x13 x14 x15 x16) S).All fun q=>∃u hd f y5 y7 y8 y9 h5 ha h7 A N,q.1=.exit 2 /\q.2.1=e21 a S0.length p.n x1 (acc hd (cQ u)) y5 x6 y7 y8 y9 x10 x11 h5 ha h7 A N/\bL [] S0 q.2.2/\OF p [] u f
 |0,L,J,v,out,jo,s,S,x7,x8,x9,x10,x11,x12,x13,x14,x15,x16,hk,hO,hF,hlen=>by obtain rfl:L=[]:=a_ hk;unfold e21;refine fC t70L1.eq_1 ?_;simp(disch:=omega)only[go_sem,List.length_nil];exact bG ⟨out,jo,s,_,_,_,_,_,_,_,_,_,rfl,rfl,hO.keep,hF⟩
 |k+1,L,J,v,out,jo,s,S,x7,x8,x9,x10,x11,x12,x13,x14,x15,x16,hk,hO,hF,hlen=>by
  have y:=hO.lst;have R:∀x∈L,x<p.n:=fun x hx=>((hF.all x).1 (.inl hx)).2.1;obtain⟨w,h3,hw⟩:=bLp hO.deg y R A_ (L.length+J.length);obtain⟨q,z,hc⟩:∃q,q<L.length/\(w=q\/w = -1/\∃m:Nat,(lim K).call 94 [.msl (S0.length+3) v 0 L.length (L.length+J.length) 1,.fn 95 [] [.ptr (S0.length+2) 27 0]] S=.ret (j_ m,S)/\Pure K 74 [.iv (.sl .no (cQ L)),j_ m] (j_ q)):=by
   rcases hw with⟨rfl,hw⟩|⟨q,rfl,h1,h2⟩;.obtain⟨m,F,hm⟩:=bRv hO.deg y R A_ A_ (L.length+J.length);obtain⟨q,G,z⟩:=bRw (t:=.no) (L:=L) A_ hm;exact⟨q,z,.inr ⟨rfl,m,F,G⟩⟩
   .exact⟨q,h1,.inl rfl⟩
  have hm:=qE z;obtain⟨hh,o,hj⟩:=(hF.all _).1 (.inl hm);have hf:=hF.dis _ hm;have i1:=bLo (jl:=S0.length+3) (v:=v) (cap:=L.length+J.length) z;have s1:=aJv (J:=J) z;obtain⟨J',D,hg⟩:=bRy y A_ z;have h6:=bLq y (L.length+J.length);have h9:=fun f=>@OF.step p ρ d hI I L out s f hF q z;have h4:(L.eraseIdx q).length=L.length-1:=by rw[R0,K_ z]
  generalize hr:L.getD q default=r at *
  have g0:=aN y;have a1:(S.set (S0.length+3) (.cells v true ((L.eraseIdx q).map nI++J')))[S0.length]?=some (.cells 0 false (cF p.n fun r=>bI (decide (r∈out)))):=by rw[aB A_];exact hO.gone
  have i2:=fR (j:=S0.length) (v:=0) o;have U:=lF (fun r=>bI (decide (r∈out))) (bI true) o;rw[oB bI]at U;have he:(fun t=>bI (upd (fun t=>decide (t∈out)) r true t))=fun t=>bI (decide (t∈out++[r])):=by
   funext t;by_cases e:t=r;.subst e;simp[bU]
   .rw[cZ _ _ e];simp[e]
  rw[he]at U;have V:bL [] S0 ((S.set (S0.length+3) (.cells v true ((L.eraseIdx q).map nI++J'))).set S0.length (.cells 0 false (cF p.n fun t=>bI (decide (t∈out++[r]))))):=uU (uU hO.keep A_ _) (L_ _) _;have a2:((S.set (S0.length+3) (.cells v true ((L.eraseIdx q).map nI++J'))).set S0.length (.cells 0 false (cF p.n fun t=>bI (decide (t∈out++[r])))))[S0.length+3]?=some (.cells v true ((L.eraseIdx q).map nI++J')):=by rw[aB A_,aM g0]
  have a3:((S.set (S0.length+3) (.cells v true ((L.eraseIdx q).map nI++J'))).set S0.length (.cells 0 false (cF p.n fun t=>bI (decide (t∈out++[r])))))[S0.length]?=some (.cells 0 false (cF p.n fun t=>bI (decide (t∈out++[r])))):=aM (by rw[F5];exact aN hO.gone) _;have a4:Dg ((S.set (S0.length+3) (.cells v true ((L.eraseIdx q).map nI++J'))).set S0.length (.cells 0 false (cF p.n fun t=>bI (decide (t∈out++[r]))))) (S0.length+2) (S0.length+1) p.n s:=⟨by rw[aB A_,aB A_];exact hO.deg.box,by rw[aB A_,aB A_];exact hO.deg.row⟩
  have a5:At 1 3 (cQ out) jo ((S.set (S0.length+3) (.cells v true ((L.eraseIdx q).map nI++J'))).set S0.length (.cells 0 false (cF p.n fun t=>bI (decide (t∈out++[r]))))):=fun ho=>by have:=hO.jo (fun e=>ho (by rw[e];rfl));rw[aB A_,aB A_];exact hO.tok ho
  have a6:((S.set (S0.length+3) (.cells v true ((L.eraseIdx q).map nI++J'))).set S0.length (.cells 0 false (cF p.n fun t=>bI (decide (t∈out++[r]))))).length=S.length:=B_;generalize hS2:(S.set (S0.length+3) (.cells v true ((L.eraseIdx q).map nI++J'))).set S0.length (.cells 0 false (cF p.n fun t=>bI (decide (t∈out++[r]))))=S2 at *
  have e1:=bP0 (b:=8) (c:=[.int .i64 (r:Int)]) (t:=.full) a5 ⟨rfl,rfl⟩ (aUw out) (bR (by rw[iW];omega));have gk:=aUu 1 3 (cQ out) jo S2;have gt:=bPz a5 [.int .i64 (r:Int)];have gj:S0.length+4<=gI (cQ out) jo S2:=by
   unfold gI;split;.omega
   .rename_i h0;exact hO.jo (fun e=>h0 (by rw[e];rfl))
  rw[aDr]at e1 gt;have ht:∀i b,S2[i]?=some b->(∀n w e,b≠aG.tok n w e)->(gSc 1 3 (cQ out) jo S2)[i]?=some b:=fun i b Q hn=>gk.get i b (fun P=>by obtain⟨n,w,e,h1⟩:=aUv a5 i P;rw[Q]at h1;exact hn n w e (D9 h1)) Q;have g:Odr S0 (gSc 1 3 (cQ out) jo S2) p.n (L.eraseIdx q) J' v (out++[r]) (gI (cQ out) jo S2) s :=
   ⟨⟨by have:=V.len;have:=gk.len;omega,fun i b _ Q=>gk.get i b (fun P=>by
    unfold aB2 at P;split at P;.cases P
    .rename_i h0;simp at P;have:=hO.jo (fun e=>h0 (by rw[e];rfl));have:=aN Q;omega) (V.get i b B_ Q)⟩,ht _ _ a3 B_,⟨ht _ _ a4.box B_,ht _ _ a4.row B_⟩,ht _ _ a2 B_,gt,fun _=>gj⟩
  generalize hS3:gSc 1 3 (cQ out) jo S2=S3 at *
  generalize hj3:gI (cQ out) jo S2=jo3 at *
  have E:=C.keep g.keep;have b1:=E.blk;have b2:=E.near;have i3:=fR (j:=a.jn) (v:=a.vn) o;have s3:=dO (fun r=>TV.map (a.nm r)) o;simp only[dL]at b1;obtain⟨l,c,m1,m2,m3⟩:=E.nmap r o;have rg:=kG m1;have H:=bL.app [] S3 [aG.mit (some (a.nm r)) c [] c];have h8:Odr S0 (S3++[aG.mit (some (a.nm r)) c [] c]) p.n (L.eraseIdx q) J' v (out++[r]) jo3 s :=
   ⟨g.keep.trans H,H.get _ _ B_ g.gone,⟨H.get _ _ B_ g.deg.box,H.get _ _ B_ g.deg.row⟩,H.get _ _ B_ g.lst,fun ho=>H.get _ _ B_ (g.tok ho),g.jo⟩
  have l1:=fun x13=>aJx C I o (bi:=S3.length) (by have:=g.keep.len;omega) m2 m3 x1 (acc jo3 (cQ (out++[r]))) (.msl (S0.length+3) v 0 (L.length-1) (L.length+J.length) 1) x6 (j_ q) (j_ r) x10 x11 e_ x13 (left l []+1) [] s _ x9 x15 x16 A_ h8 (cM _ _) (H.get _ _ B_ m1);have fin:=fun f=>h9 f;have T:=fun f S' x7 x8 x9 x12 x13 x14 x15 x16=>bDv C hI I x1 x6 k (L.eraseIdx q) J' v (out++[r]) jo3 f S' x7 x8 x9 x10 x11 x12 x13 x14 x15 x16 A_;rw[h4]at T;rw[show L.length-1+J'.length=L.length+J.length by omega]at T;rw[show((q+1:Nat):Int)=(q:Int)+1 by omega]at D;simp only[nI]at y s1;simp only[bI]at a1 U hS2;unfold e21 at l1 T |-;refine fC t70L1.eq_1 ?_;rcases hc with rfl|⟨rfl,m,F,G⟩;.simp(disch:=omega)only[go_sem,h3,i1,y,s1,D,a1,i2,U,hS2,e1,b1,b2,i3,s3,rg,aC];refine mS (l1 _) ?_;rintro j e S' ⟨f,y9,A,N,Y,W,Z⟩;dsimp only at Y W Z;subst Y W;simp(disch:=omega)only[go_sem];refine cP (Out.all_mono ?_ (T f S' _ _ _ _ _ _ _ _ Z (fin f) (by rw[H_,List.length_singleton];omega)));exact fun _ h=>h
  .simp(disch:=omega)only[go_sem,h3,F,h6,aD G,i1,y,s1,D,a1,i2,U,hS2,e1,b1,b2,i3,s3,rg,aC];refine mS (l1 _) ?_;rintro j e S' ⟨f,y9,A,N,Y,W,Z⟩;dsimp only at Y W Z;subst Y W;simp(disch:=omega)only[go_sem];refine cP (Out.all_mono ?_ (T f S' _ _ _ _ _ _ _ _ Z (fin f) (by rw[H_,List.length_singleton];omega)));exact fun _ h=>h
structure bLt (p:Pn) (out:List Nat):Prop where
 nd:out.Nodup
 all:∀t,t∈out↔32<=t/\t<p.n/\p.to t=t
theorem aMk(p:Pn)(i:Nat):(dF p i).Nodup:=(Q6.sublist (V4 _ _)).filter _
theorem aXj{p:Pn}{i t:Nat}:t∈dF p i↔i<=t/\t<p.n/\p.to t=t:=by
 unfold dF;rw[B5,U9];simp only[F6,O9,p_];constructor;.rintro⟨⟨q,d,rfl⟩,h⟩;exact⟨by omega,by omega,h⟩
 .rintro⟨b,c,a⟩;exact⟨⟨t-i,by omega,by omega⟩,a⟩
theorem bRz{S0:aA}{a:Ad}{p:Pn}{ρ d:Th_}(f:PT S0 a p)(T:Inv p ρ d)(Z:p.n<=500000)(h4:32<=p.n): ((lim K).call 70 [.ptr a.ip 106 0] S0).All fun r=>∃out jo,r.1=acc jo (cQ out)/\bL [] S0 r.2/\bLt p out:=by
 have G:=f.blk;have k1:=bL.app [] S0 [aG.cells 0 false (cF p.n fun _=>bI false)];have b2:=(f.keep k1).blk;have q:=fun m=>bDq (z:=.bool false) (m:=m) (bR (n:=p.n) (b:=1) A_);have u:=fun m=>bDq (z:=.int .i64 0) (m:=m) (bR (n:=p.n) (b:=8) A_);have x:∀A:aG,(S0++[A]).length=S0.length+1:=fun A=>B_;have g:∀A B:aG,(S0++[A]++[B]).length=S0.length+2:=fun A B=>B_;have J:∀A B C:aG,(S0++[A]++[B]++[C])[S0.length+2]?=some C:=fun A B C=>by have:=cM (S0++[A]++[B]) C;rwa [g]at this
 have N:∀A B C D:aG,(S0++[A]++[B]++[C]).set (S0.length+2) D=S0++[A]++[B]++[D]:=fun A B C D=>by rw[<-g A B];simp
 have P:Lf S0 (S0++[.cells 0 false (cF p.n fun _=>bI false)]++[.cells 0 false (cF p.n fun _=>vI 0)]++[.cells 27 false [.msl (S0.length+1) 0 0 p.n p.n 1]]) p.n [] (fun _=>0) k_ :=
  ⟨((bL.app [] S0 _).trans (bL.app [] _ _)).trans (bL.app [] _ _),by simp,⟨J _ _ _,by simp⟩,.inl ⟨rfl,rfl,by simp⟩⟩
 obtain⟨i,k,S1,lv,w,s,c⟩:=aJw f A_ k_ k_ u_ u_ u_ u_ u_ u_ u_ u_ (p.n-32) 32 [] (fun _=>0) _ _ u_ u_ A_ P B_;rw[show((32:Nat):Int)=32 from rfl]at s;rw[List.nil_append]at c;simp only[vI,bI]at s;have l:OF p (dF p 32) [] w:=⟨aMk _ _,Y7,fun t _=>B_,fun t=>by simp[aXj]⟩
 refine dG K _ (fn:=t70) rfl rfl ?_;simp only[dL]at G b2;simp only[bI]at b2;simp(disch:=omega)only[t70,go_sem,G,q,b2,u,x,g,J,N];rw[s];rcases c.lst with⟨H,rfl,_⟩|⟨H,v,rfl,Y⟩
 .rw[H]at l;simp(disch:=omega)only[go_sem];have l2:lp' (lim K) t70L1 [.ptr a.ip 106 0,k_,k_,.msl S0.length 0 0 p.n p.n 1,.ptr (S0.length+2) 27 0,k_,j_ p.n,u_,u_,u_,i,k,u_,u_,u_,u_,u_] S1=.ret (.exit 2,[.ptr a.ip 106 0,k_,k_,.msl S0.length 0 0 p.n p.n 1,.ptr (S0.length+2) 27 0,k_,j_ p.n,u_,u_,u_,i,k,z_,u_,u_,u_,u_],S1):=by refine aE K _ _ t70L1.eq_1 ?_;simp(disch:=omega)only[go_sem]
  rw[l2];simp(disch:=omega)only[go_sem];exact bG ⟨[],0,rfl,c.keep,⟨Y7,fun t=>by rw[<-l.all t];simp⟩⟩
 .have U:Odr S0 S1 p.n (dF p 32) [] v [] 0 w:=⟨c.keep,by simpa using c.gone,c.deg,by simpa using Y,At.nil,fun h=>absurd rfl h⟩
  have I:(dF p 32).length<=p.n:=by unfold dF;have V:=E0 (fun r=>decide (p.to r=r)) ((List.range p.n).drop 32);simp at V;omega
  have l2:=bDv f T A_ k_ (j_ p.n) (dF p 32).length (dF p 32) [] v [] 0 w S1 u_ u_ u_ i k u_ u_ u_ u_ u_ rfl U l (by simp;omega);unfold e21 at l2;rw[show acc 0 (cQ [])=k_ from rfl,List.length_nil,Nat.add_zero]at l2;simp(disch:=omega)only[go_sem];refine dJ l2 ?_;rintro j e S2 ⟨out,jo,Q,y5,y7,y8,y9,h3,W,h5,R,h2,E,y,F,L⟩;dsimp only at E y F;subst E y;have o:∀j,mZ j (acc jo (cQ out))=acc jo (cQ out):=fun j=>qR _ _ _;simp(disch:=omega)only[go_sem,o];exact bG ⟨out,jo,rfl,F,⟨L.ndO,fun t=>by rw[<-L.all t];simp⟩⟩
theorem go_exec_all{K:bD}{O:Orc}{c:aL}{env:Env}{S:aA}{P:aV×Env×aA->Prop}(h:(go' K O c [] env S).All P):(eS K O c env S).All P:=by
 unfold go' at h;simp only[go]at h;have a:=aKu h;have e:∀X:Out (aV×Env×aA),(X.bind fun r=>back K O [] r.1 r.2.1 r.2.2).All P->X.All P:=by
  intro X;induction X with
  |ret r=>exact id
  |fail s=>exact id
  |pick n k ih=>exact fun h i b=>ih i (h i b)
 exact e _ a
theorem bLu{K:bD}{i:Nat}{args:Tn_}{S S1:aA}{st:LoopState}{p p2:Option aV}{env env1 env2 e2:Env}{ps ps2:Tc_}{a b a2 b2:aL}{R:aA->Prop} (h:S[i]?=some (.lp st p env ps a b)) (g:rH env ps args=some env1) (k:go' K (lim K) a [] env1 S=.ret (.normal,env2,S1)) (m:S1[i]?=some (.lp .ready p2 e2 ps2 a2 b2)) (n:(go' K (lim K) b [] env2 (S1.set i (.lp .busy p2 e2 ps2 a2 b2))).All fun r=>r.1=.normal/\∃st3 p3 e3 ps3 a3 b3,r.2.2[i]?=some (.lp st3 p3 e3 ps3 a3 b3)/\R (r.2.2.set i (.lp .ready none e3 ps3 a3 b3))): ((lim K).yld i args S).All fun r=>r.1=e_/\R r.2:=by refine aNq ?_;have l:=go_exec k;have e3:=go_exec_all n;simp only[iB,h,g,l,Out.bind,m];refine aPc e3 ?_;rintro⟨j,e,S2⟩ ⟨d,st3,p3,e3,ps3,a3,b3,f,c⟩;dsimp only at d f c;subst d;simp only[f];exact⟨rfl,c⟩
theorem aMl{K:bD}{O:Orc}{i:Nat}{k:Kt}{M:To_}{n:Nat}{a:List Fr}{env:Env}{S:aA}{P:TV×aA->Prop}{R:aV×Env×aA->Prop}{X:Out (TV×aA)}(b:X.All P)(h:∀v S',P (v,S')->Out.All R (fK K O (.ret (v,S')) i k M n a env)):Out.All R (fK K O (aFh false S X) i k M n a env) :=
 bPk (P:=P) (aCu b fun v S' c=>by rw[aFk];exact c) h
inductive wM (p:Pn) (ρ:Nat->Nat):List Nat->(Nat->Int)->(Nat->Int)->Prop
 |nil (o:Nat->Int):wM p ρ [] o o
 |cons {r:Nat} {l:List Nat} {o o1 o':Nat->Int} (h:qY {p with out:=o} (bJ p ρ r 32) o1) (g:wM p ρ l o1 o'):wM p ρ (r::l) o o'
def rfA:aL:=.region [⟨.mov (.loc 16),(some 6),none⟩]
def rfC:aL:=.block 5 (.draw [0,1,2] [(3,[0],[]),(4,[],[])] [⟨.load1 (.loc 3),none,none⟩,⟨.load1 (.loc 3),none,none⟩,⟨.mov (.loc 6),none,none⟩,⟨.call false false 68 [(.reg 1),(.reg 2)],none,none⟩,⟨.call false false 71 [(.reg 0),(.reg 3)],none,none⟩])
def e9(jp:Nat)(x0 x1 x2 x4 x5 x6 x7 x8 x9 x10 x11 x12 x13 x14 x15 x16:TV):List TV:=[x0,x1,x2,.ptr jp 102 0,x4,x5,x6,x7,x8,x9,x10,x11,x12,x13,x14,x15,x16]
theorem PT.busy{S:aA}{a:Ad}{p:Pn}(h:PT S a p){i:Nat}{st:LoopState}{q:Option aV}{e:Env}{ps:Tc_}{c b:aL}(d:S[i]?=some (.lp st q e ps c b))(f:aG):PT (S.set i f) a p :=
 h.setO d (by simp only[Ad.own,J_,D1,H2,G6];exact⟨bO d h.blk B_,bO d h.near B_,bO d h.own B_,bO d h.to B_,bO d h.out B_⟩) B_
theorem sX{p:Pn}{ρ:Th_}{r i m:Nat}:m∈bJ p ρ r i↔i<=m/\m<p.n/\ρ m=r:=by
 unfold bJ;rw[B5,U9];simp only[F6,O9,p_];constructor;.rintro⟨⟨q,d,rfl⟩,h⟩;exact⟨by omega,by omega,h⟩
 .rintro⟨b,c,a⟩;exact⟨⟨m-i,by omega,by omega⟩,a⟩
theorem aU4(p:Pn)(ρ:Th_)(r i:Nat):(bJ p ρ r i).length<=p.n:=by unfold bJ;have a:=E0 (fun m=>decide (ρ m=r)) ((List.range p.n).drop i);simp at a;omega
theorem bUh{S:aA}{a:Ad}{p:Pn}{ρ d:Th_}{o:Tg_}(hP:PT S a {p with out:=o})(U:Uf p ρ d)(h0:p.n<=500000)(N:32<=p.n){s jp jb:Nat}{B:aG}(x0 x2 x4 x5 x6 x7 x8 x9 x10 x11 x12 x13 x14 x15 x16:TV) (y:S[s]?=some (.lp .ready none (e9 jp x0 .hole x2 x4 x5 x6 x7 x8 x9 x10 x11 x12 x13 x14 x15 x16) [15,16] rfA rfC)) (V:S[jp]?=some (.cells 102 false [.ptr a.ip 106 0])) (J:jp∉a.own) (Z:S[jb]?=some B) (F:jb∉a.own) (G:∀es c,B≠.mp es c) (w:jb≠s) (i r:Nat): ((lim K).yld s [j_ i,j_ r] S).All fun q=>q.1=e_/\∃o',PT q.2 a {p with out:=o'}/\qY {p with out:=o} (bJ p ρ r 32) o' /\q.2[s]?=some (.lp .ready none (e9 jp x0 .hole x2 x4 x5 x6 x7 x8 x9 x10 x11 x12 x13 x14 x15 x16) [15,16] rfA rfC)/\q.2[jp]?=some (.cells 102 false [.ptr a.ip 106 0])/\q.2[jb]?=some B:=by
 have k:=hP.busy y (.lp .busy none (e9 jp x0 .hole x2 x4 x5 x6 x7 x8 x9 x10 x11 x12 x13 x14 x15 x16) [15,16] rfA rfC);have z:s≠jp:=bO y V B_;have C:(S.set s (.lp .busy none (e9 jp x0 .hole x2 x4 x5 x6 x7 x8 x9 x10 x11 x12 x13 x14 x15 x16) [15,16] rfA rfC))[jp]?=some (.cells 102 false [.ptr a.ip 106 0]):=by rw[aB z];exact V
 have P:(S.set s (.lp .busy none (e9 jp x0 .hole x2 x4 x5 x6 x7 x8 x9 x10 x11 x12 x13 x14 x15 x16) [15,16] rfA rfC))[jb]?=some B:=by rw[aB (B0 w)];exact Z
 have u:(S.set s (.lp .busy none (e9 jp x0 .hole x2 x4 x5 x6 x7 x8 x9 x10 x11 x12 x13 x14 x15 x16) [15,16] rfA rfC))[s]?=some (.lp .busy none (e9 jp x0 .hole x2 x4 x5 x6 x7 x8 x9 x10 x11 x12 x13 x14 x15 x16) [15,16] rfA rfC):=aM (aN y) _;refine bLu (R:=fun S'=>∃o',PT S' a {p with out:=o'}/\qY {p with out:=o} (bJ p ρ r 32) o'/\S'[s]?=some (.lp .ready none (e9 jp x0 .hole x2 x4 x5 x6 x7 x8 x9 x10 x11 x12 x13 x14 x15 x16) [15,16] rfA rfC)/\S'[jp]?=some (.cells 102 false [.ptr a.ip 106 0])/\S'[jb]?=some B) (st:=.ready) (p:=none) (args:=[j_ (i:Int),j_ (r:Int)]) (env:=e9 jp x0 .hole x2 x4 x5 x6 x7 x8 x9 x10 x11 x12 x13 x14 x15 x16) (env2:=e9 jp x0 .hole x2 x4 x5 (j_ r) x7 x8 x9 x10 x11 x12 x13 x14 (j_ i) (j_ r)) y (env1:=e9 jp x0 .hole x2 x4 x5 x6 x7 x8 x9 x10 x11 x12 x13 x14 (j_ i) (j_ r)) rfl ?_ y ?_;.unfold e9 rfA;simp(disch:=omega)only[go_sem]
 .generalize S.set s (.lp .busy none (e9 jp x0 .hole x2 x4 x5 x6 x7 x8 x9 x10 x11 x12 x13 x14 x15 x16) [15,16] rfA rfC)=S1 at *
  have L:Uf {p with out:=o} ρ d:=⟨U.up,U.fix⟩
  obtain⟨j,S2,I,t⟩:=bDn k L (by show p.n<=_;omega) N r;have H:=bRr (k.keep t) (vO.acc j (bJ {p with out:=o} ρ r 32)) (by have:=aU4 p ρ r 32;show(bJ p ρ r 32).length<=_;omega) (fun m hm=>(sX.1 hm).2.1);have x:=t.get _ _ B_ C;have E:∀q,mZ q (acc j (cQ (bJ {p with out:=o} ρ r 32)))=acc j (cQ (bJ {p with out:=o} ρ r 32)):=fun q=>qR _ _ _;have D:bY (acc j (cQ (bJ {p with out:=o} ρ r 32)))=false:=by unfold acc;split<;>rfl
  have key:∀r_1:aV×Env×aA,(∃o',PT r_1.2.2 a {p with out:=o'}/\KpG a S2 r_1.2.2/\qY {p with out:=o} (bJ p ρ r 32) o')->r_1.1=.normal->r_1.1=aV.normal/\∃st3 p3 e3 ps3 a3 b3,r_1.2.2[s]?=some (.lp st3 p3 e3 ps3 a3 b3)/\∃o',PT (r_1.2.2.set s (.lp .ready none e3 ps3 a3 b3)) a {p with out:=o'}/\qY {p with out:=o} (bJ p ρ r 32) o' /\
   (r_1.2.2.set s (.lp .ready none e3 ps3 a3 b3))[s]?=some (.lp .ready none (e9 jp x0 .hole x2 x4 x5 x6 x7 x8 x9 x10 x11 x12 x13 x14 x15 x16) [15,16] rfA rfC)/\(r_1.2.2.set s (.lp .ready none e3 ps3 a3 b3))[jp]?=some (.cells 102 false [.ptr a.ip 106 0])/\(r_1.2.2.set s (.lp .ready none e3 ps3 a3 b3))[jb]?=some B:=by
   rintro⟨j',e',S3⟩ ⟨o',A,l,T⟩ W
   dsimp only at A l W |-
   have g:=l.get _ _ (t.get _ _ B_ u) (by have b:=t.get _ _ B_ u;have f:=k.keep t;simp only[Ad.own,J_,D1,H2,G6];exact⟨bO b f.blk B_,bO b f.near B_,bO b f.own B_,bO b f.to B_,bO b f.out B_⟩) B_
   refine⟨W,_,_,_,_,_,_,g,o',A.busy g _,T,aM (aN g) _,?_,?_⟩
   .rw[aB z];exact l.get _ _ x J B_
   .rw[aB (B0 w)];exact l.get _ _ (t.get _ _ B_ P) F G
  refine Out.all_mono (Q:=fun q:aV×Env×aA=>(∃o',PT q.2.2 a {p with out:=o'}/\KpG a S2 q.2.2/\qY {p with out:=o} (bJ p ρ r 32) o')/\q.1=.normal) (fun q h=>key q h.1 h.2) ?_;unfold e9 rfC;simp(disch:=omega)only[go_sem,C,I,x,E,D];refine aMl H ?_;rintro v S3 ⟨o',Y,A,l,T⟩;dsimp only at Y A l;subst Y;simp(disch:=omega)only[go_sem];exact bG ⟨⟨o',A,l,T⟩,rfl⟩
theorem bDw{a:Ad}{p:Pn}{ρ d:Th_}(A:Uf p ρ d)(m:p.n<=500000)(t:32<=p.n){s jp jb jo:Nat}{out:Tc_}(u:out.length<=1000000)(l:jp∉a.own)(h:jb∉a.own)(g:jb≠s)(x0 x2 x4 x5 x6 x7 x8 x9 x10 x11 x12 x13 x14 x15 x16:TV): ∀(k:Nat) (o:Tg_) (S:aA) (f b:TV),k<=out.length->PT S a {p with out:=o}->S[s]?=some (.lp .ready none (e9 jp x0 .hole x2 x4 x5 x6 x7 x8 x9 x10 x11 x12 x13 x14 x15 x16) [15,16] rfA rfC)->S[jp]?=some (.cells 102 false [.ptr a.ip 106 0])->S[jb]?=some (.cells 27 false [acc jo (cQ out)]) ->(lp' (lim K) t92L0 [.yld s,.ptr jb 27 0,j_ ((k:Int)-1),f,b] S).All fun q=>∃w y x o',q.1=.exit 0/\q.2.1=[.yld s,.ptr jb 27 0,w,y,x]/\PT q.2.2 a {p with out:=o'}/\wM p ρ (out.take k).reverse o o' /\q.2.2[s]?=some (.lp .ready none (e9 jp x0 .hole x2 x4 x5 x6 x7 x8 x9 x10 x11 x12 x13 x14 x15 x16) [15,16] rfA rfC)/\q.2.2[jp]?=some (.cells 102 false [.ptr a.ip 106 0])
 |0,o,S,f,b,hk,hP,hs,hp,hb=>by refine fC t92L0.eq_1 ?_;rw[show((0:Nat):Int)-1 = -1 from rfl];simp(disch:=omega)only[go_sem,P1];exact bG ⟨_,_,_,o,rfl,rfl,hP,.nil o,hs,hp⟩
 |k+1,o,S,f,b,hk,hP,hs,hp,hb=>by
  have c:k<out.length:=A_;have z:cQ out≠[]:=by rw[Ne,bDm];intro e;rw[e]at c;simp at c
  have i:=hb;rw[jQ _ z]at i;have H:=xR (j:=jo) c;have Q:out.take (k+1)=out.take k++[out.getD k default]:=by rw[G4];simp[List.getD,D_ c]
  generalize out.getD k default=r at *
  have J:=bUh (x0:=x0) (x2:=x2) (x4:=x4) (x5:=x5) (x6:=x6) (x7:=x7) (x8:=x8) (x9:=x9) (x10:=x10) (x11:=x11) (x12:=x12) (x13:=x13) (x14:=x14) (x15:=x15) (x16:=x16) hP A m t hs hp l hb h B_ g k r;have L:=fun o' S' f b=>bDw (jo:=jo) A m t u l h g x0 x2 x4 x5 x6 x7 x8 x9 x10 x11 x12 x13 x14 x15 x16 k o' S' f b A_;have P:((k+1:Nat):Int)-1=(k:Int):=A_;rw[P];refine fC t92L0.eq_1 ?_;simp(disch:=omega)only[go_sem,P1,i,H];refine pC (cP J) ?_;rintro v S1 ⟨F,R,D,V,G,C,E⟩;dsimp only at F D G C E;subst F;simp(disch:=omega)only[go_sem,aC];refine cP (Out.all_mono ?_ (L R S1 _ _ D G C E));rintro q ⟨w,y,x,o',N,e2,T,I,U,W⟩;refine⟨w,y,x,o',N,e2,T,?_,U,W⟩;rw[Q,List.reverse_append,List.reverse_singleton,List.singleton_append];exact .cons V I
structure PI (p:Pn) (ρ:Nat->Nat) (D:List Nat) (o:Nat->Int):Prop where
 mach:∀m,m<32->o m=m
 low:∀m,32<=m->m<p.n->ρ m<32->o m=(ρ m:Nat)
 don:∀m,32<=m->m<p.n->32<=ρ m->ρ m∈D->o m = -1\/1<=o m/\o m<=24
 un:∀m,32<=m->m<p.n->32<=ρ m->ρ m∉D->o m=0
 edge:∀x y,x<p.n->y<p.n->p.own x y=true->o x=o y->o x<=0
 spill:∀m,32<=m->m<p.n->o m = -1->∀d:Nat,1<=d->d<=24->∃t,t<p.n/\p.own m t=true/\o t=d
structure Own (p:Pn):Prop where
 sym:∀r s,p.own r s=true->p.own s r=true
 irr:∀r,p.own r r=false
 vt:∀r s,p.own r s=true->vtx p.n r
theorem PI.one{p:Pn}{ρ:Th_}(F:Own p){o:Tg_}{m:Nat}(N:m<p.n)(I:o m=0){v:Int}(z:aDu {p with out:=o} [m] v) (k:∀x y,x<p.n->y<p.n->p.own x y=true->o x=o y->o x<=0) (h:∀m,32<=m->m<p.n->o m = -1->∀d:Nat,1<=d->d<=24->∃t,t<p.n/\p.own m t=true/\o t=d): (∀x y,x<p.n->y<p.n->p.own x y=true->upd o m v x=upd o m v y->upd o m v x<=0)/\(∀w,32<=w->w<p.n->upd o m v w = -1->∀d:Nat,1<=d->d<=24->∃t,t<p.n/\p.own w t=true/\upd o m v t=d)/\(v = -1\/1<=v/\v<=24):=by
 have g:∀(t:Nat) (d:Nat),1<=d->o t=d->upd o m v t=d:=fun t d P i=>by rw[cZ _ _ (fun e=>by rw[e,I]at i;omega)];exact i
 rcases z with⟨rfl,z⟩|⟨d,rfl,H,J,z⟩
 .refine⟨fun x y C A a f=>?_,fun w D q c d b j=>?_,.inl rfl⟩
  .by_cases e:x=m;.rw[e,bU];decide
   .rw[cZ _ _ e]at f |-;by_cases e2:y=m;.rw[e2,bU]at f;omega
    .rw[cZ _ _ e2]at f;exact k x y C A a f
  .by_cases e:w=m;.subst e;obtain⟨L,u,t,i,r,l,_⟩:=z d b j;simp at u;subst u;exact⟨t,i,r,g t d b l⟩
   .rw[cZ _ _ e]at c;obtain⟨t,i,r,l⟩:=h w D q c d b j;exact⟨t,i,r,g t d b l⟩
 .have s:∀t,t<p.n->p.own m t=true->o t≠d:=fun t i r l=>z m B_ ⟨t,i,r,l,H,J⟩;refine⟨fun x y C A a f=>?_,fun w D q c G b j=>?_,.inr ⟨by omega,by omega⟩⟩
  .by_cases e:x=m
   .have E:y≠m:=fun e2=>by rw[e,e2,F.irr]at a;cases a
    rw[e,bU,cZ _ _ E]at f;rw[e]at a;exact absurd f.symm (s y A a)
   .rw[cZ _ _ e]at f |-;by_cases e2:y=m;.rw[e2,bU]at f;rw[e2]at a;exact absurd f (s x C (F.sym _ _ a))
    .rw[cZ _ _ e2]at f;exact k x y C A a f
  .have e:w≠m:=fun e=>by rw[e,bU]at c;omega
   rw[cZ _ _ e]at c;obtain⟨t,i,r,l⟩:=h w D q c G b j;exact⟨t,i,r,g t G b l⟩
theorem PI.seq{p:Pn}(s:Own p):∀ {l:Tc_} {o o':Tg_},zN p l o o'->l.Nodup->(∀m∈l,m<p.n/\o m=0) ->(∀x y,x<p.n->y<p.n->p.own x y=true->o x=o y->o x<=0)->(∀m,32<=m->m<p.n->o m = -1->∀d:Nat,1<=d->d<=24->∃t,t<p.n/\p.own m t=true/\o t=d) ->(∀x y,x<p.n->y<p.n->p.own x y=true->o' x=o' y->o' x<=0)/\(∀m,32<=m->m<p.n->o' m = -1->∀d:Nat,1<=d->d<=24->∃t,t<p.n/\p.own m t=true/\o' t=d)/\(∀m∈l,o' m = -1\/1<=o' m/\o' m<=24)/\∀m,m∉l->o' m=o m:=by
 intro l o o' h;induction h with
 |nil o=>exact fun _ _ i j=>⟨i,j,by simp,fun _ _=>rfl⟩
 |@cons m l o o' v hv g ih =>
  intro b f i j;rw[C7]at b;obtain⟨r,q⟩:=f m B_;obtain⟨A,e2,e3⟩:=PI.one (ρ:=fun x=>x) s r q hv i j;obtain⟨z,u,C,k⟩:=ih b.2 (fun w a=>⟨(f w (by simp[a])).1,by rw[cZ _ _ (fun e=>b.1 (by rw[<-e];exact a))];exact(f w (by simp[a])).2⟩) A e2;refine⟨z,u,fun w a=>?_,fun w a=>?_⟩
  .rcases J_.1 a with rfl|c;.rw[k w b.1,bU];exact e3
   .exact C w c
  .simp only[J_,G6]at a;rw[k w a.2,cZ _ _ a.1]
theorem aXk(p:Pn)(ρ:Th_)(r i:Nat):(bJ p ρ r i).Nodup:=(Q6.sublist (V4 _ _)).filter _
theorem PI.step{p:Pn}{ρ d:Th_}(Y:Inv p ρ d)(hO:Own p){l:Tc_}(hl:bLt p l){T D:Tc_}{r:Nat}(H:l=T.reverse++r::D){o I:Tg_}(h:PI p ρ D o)(hs:qY {p with out:=o} (bJ p ρ r 32) I):PI p ρ (r::D) I:=by
 have F:=hl.nd;rw[H,H4,C7]at F;obtain⟨_,⟨h6,_⟩,hb⟩:=F;obtain⟨G,h7,Z⟩:=(hl.all r).1 (by rw[H];simp);have ha:=Y.uf.fix r h7 Z;have u:∀m,m∈bJ p ρ r 32↔32<=m/\m<p.n/\ρ m=r:=fun m=>sX;have h0:∀m,m∈bJ p ρ r 32->o m=0:=fun m f=>by obtain⟨i,q,j⟩:=(u m).1 f;exact h.un m i q (by rw[j];exact G) (by rw[j];exact h6)
 rcases hs with⟨c,E,P,J,Q⟩|⟨h9,R⟩
 .have w:∀m,m∈bJ p ρ r 32->I m=c:=fun m f=>by rw[Q m,K_ f]
  have g:∀m,m∉bJ p ρ r 32->I m=o m:=fun m f=>by rw[Q m,I_ f]
  have s:∀m,m<32->m∉bJ p ρ r 32:=fun m f i=>by have:=((u m).1 i).1;omega
  have L:∀t (k:Nat),1<=k->o t=k->I t=k:=fun t k hk U=>by rw[g t (fun f=>by rw[h0 t f]at U;omega)];exact U
  refine⟨fun m f=>?_,fun m i q j=>?_,fun m i q j v=>?_,fun m i q j v=>?_,fun x y hx W z A=>?_,fun m i q j k N h8=>?_⟩;.rw[g m (s m f)];exact h.mach m f
  .rw[g m (fun f=>by have:=((u m).1 f).2.2;omega)];exact h.low m i q j
  .by_cases e:ρ m=r;.rw[w m ((u m).2 ⟨i,q,e⟩)];right;omega
   .rw[g m (fun f=>e ((u m).1 f).2.2)];exact h.don m i q j (by rcases J_.1 v with C|C;exact absurd C e;exact C)
  .simp only[J_,G6]at v;rw[g m (fun f=>v.1 ((u m).1 f).2.2)];exact h.un m i q j v.2
  .by_cases e1:x∈bJ p ρ r 32
   .by_cases e2:y∈bJ p ρ r 32;.have:=Y.img x y hx W z;rw[((u x).1 e1).2.2,((u y).1 e2).2.2,Y.irr r]at this;cases this
    .rw[w x e1,g y e2]at A;exact absurd ⟨y,W,z,A.symm,E,P⟩ (J x e1)
   .by_cases e2:y∈bJ p ρ r 32;.rw[g x e1,w y e2]at A;exact absurd ⟨x,hx,hO.sym _ _ z,A,E,P⟩ (J y e2)
    .rw[g x e1]at A |-;rw[g y e2]at A;exact h.edge x y hx W z A
  .have f:m∉bJ p ρ r 32:=fun f=>by rw[w m f]at j;omega
   rw[g m f]at j;obtain⟨t,U,g1,g2⟩:=h.spill m i q j k N h8;exact⟨t,U,g1,L t k N g2⟩
 .obtain⟨f1,f2,f3,V⟩:=PI.seq hO (p:=p) (by have key:∀ {l:Tc_} {a b:Tg_},zN {p with out:=o} l a b->zN p l a b:=fun h=>h.re;exact key R) (aXk p ρ r 32) (fun m f=>⟨((u m).1 f).2.1,h0 m f⟩) h.edge h.spill;have s:∀m,m<32->m∉bJ p ρ r 32:=fun m f i=>by have:=((u m).1 i).1;omega
  refine⟨fun m f=>?_,fun m i q j=>?_,fun m i q j v=>?_,fun m i q j v=>?_,f1,f2⟩;.rw[V m (s m f)];exact h.mach m f
  .rw[V m (fun f=>by have:=((u m).1 f).2.2;omega)];exact h.low m i q j
  .by_cases e:ρ m=r;.exact f3 m ((u m).2 ⟨i,q,e⟩)
   .rw[V m (fun f=>e ((u m).1 f).2.2)];exact h.don m i q j (by rcases J_.1 v with C|C;exact absurd C e;exact C)
  .simp only[J_,G6]at v;rw[V m (fun f=>v.1 ((u m).1 f).2.2)];exact h.un m i q j v.2
theorem PI.all{p:Pn}{ρ d:Th_}(c:Inv p ρ d)(f:Own p){l:Tc_}(i:bLt p l):∀ {T:Tc_} {o o':Tg_},wM p ρ T o o'->∀D,l=T.reverse++D->PI p ρ D o->PI p ρ l o':=by
 intro T o o' h;induction h with
 |nil o=>intro D a b;rw[a];exact b
 |@cons r T o o1 o' hs g ih =>
  intro D a b;have e:l=T.reverse++r::D:=by rw[a];simp
  exact ih (r::D) e (b.step c f i e hs)
def vP(r:Int)(p:Int×Int):Bool:=decide (p.1<1)||(decide (p.2<1)||(decide (r<=p.1)||(decide (r<=p.2)||(p.1==p.2))))
theorem aHc(env:Env)(S:aA)(p:Int×Int):bQ env S (.iv (.cp (iQ p))) 2=some [j_ p.1,j_ p.2]:=rfl
set_option maxHeartbeats 4000000 in
theorem bDx(r:Int)(t1:Tag)(E:Tb_)(t2:Tag)(M:Tb_)(p:Int×Int):(lim K).call 85 [.iv (.agg [.int .i64 p.1,.int .i64 p.2]),.ptr 0 69 0] [.cells 69 false (qX r t1 E t2 M)]=.ret (.iv (.bool (vP r p)),[.cells 69 false (qX r t1 E t2 M)]):=by
 refine aI K _ (fn:=t85) rfl rfl ?_;simp(disch:=omega)only[t85,go_sem,qX];repeat' (first|(first|refine aLa (fun h=>?_) (fun h=>?_)|refine aLb (fun h=>?_) (fun h=>?_)|refine aLc (fun h=>?_) (fun h=>?_)|refine aSk (fun h=>?_) (fun h=>?_))|simp(disch:=omega)only[go_sem])
 all_goals (congr 4;simp[vP, *])
theorem aU5(t:Tag)(l:Tb_)(C:l.length<=1000000)(f:Nat)(cap:Tn_)(q:Int×Int->Bool)(S:aA)(b:([TV.iv (.agg [.int .i64 0,.int .i64 0])]++cap).all kQ=false)(c:cap.any bY=false) (x:∀p:Int×Int,p∈l->(lim K).call f ([]++[.iv (.agg [.int .i64 p.1,.int .i64 p.2])]++cap) S=.ret (.iv (.bool (q p)),S)) (s:TV):∀(k i:Nat) (r x6 x7:TV),i+k=l.length ->∃y j n o d,0<=y/\lp' (lim K) t118L0 [.iv (.sl t (l.map iQ)),.fn f [] cap,s,r,j_ l.length,j_ i,x6,x7] S=.ret (if(l.drop i).any q then(.ret,[.iv (.sl t (l.map iQ)),.fn f [] cap,j_ y,j,j_ l.length,n,o,d],S)else(.exit 0,[.iv (.sl t (l.map iQ)),.fn f [] cap,s,j,j_ l.length,n,o,d],S))
 |0,i,r,x6,x7,h=>by obtain rfl:i=l.length:=A_;have e:(l.drop l.length).any q=false:=B_;refine⟨0,?_,?_,?_,?_,by omega,aE K _ _ t118L0.eq_1 ?_⟩;rotate_left 4;.simp(disch:=omega)only[go_sem,e];rfl
 |k+1,i,r,x6,x7,h=>by
  have z:l.drop i=l.getD i default::l.drop (i+1):=by rw[A7 A_];simp[List.getD,D_ (show i<l.length by omega)]
  have u:=jF (w:=2) (f:=iQ) (fun _=>rfl) (t:=t) (l:=l) (i:=(i:Int)) A_;rw[Int.toNat_natCast]at u;have v:=aU5 t l C f cap q S b c x s k (i+1);have a:=x (l.getD i default) (by simp only[List.getD,D_ (show i<l.length by omega),Option.getD_some];exact B8 _);have m:([]++[TV.iv (.agg [.int .i64 (l.getD i default).1,.int .i64 (l.getD i default).2])]++cap).all kQ=false:=by simpa[kQ] using b
  have g:([]++[TV.iv (.agg [.int .i64 (l.getD i default).1,.int .i64 (l.getD i default).2])]++cap).any bY=false:=by simpa[bY] using c
  generalize l.getD i default=p at *
  cases hp:q p
  .obtain⟨y,j,n,o,d,A,v⟩:=v (j_ i) e_ z_ A_;refine⟨y,j,n,o,d,A,aE K _ _ t118L0.eq_1 ?_⟩;rw[hp]at a;have e:(l.drop i).any q=(l.drop (i+1)).any q:=by rw[z,List.any_cons,hp,G0]
   rw[e];simp only[List.nil_append,List.cons_append]at m g a;simp(disch:=omega)only[go_sem,u,aHc,aC,m,g,a];exact X_ er v
  .refine⟨i,?_,?_,?_,?_,by omega,aE K _ _ t118L0.eq_1 ?_⟩;rotate_left 4
   .rw[hp]at a;have e:(l.drop i).any q=true:=by rw[z,List.any_cons,hp,F4]
    rw[e];simp only[List.nil_append,List.cons_append]at m g a;simp(disch:=omega)only[go_sem,u,aHc,aC,m,g,a];rfl
theorem bLv(t:Tag)(l:Tb_)(g:l.length<=1000000)(f:Nat)(cap:Tn_)(q:Int×Int->Bool)(S:aA)(a:([TV.iv (.agg [.int .i64 0,.int .i64 0])]++cap).all kQ=false)(b:cap.any bY=false) (d:∀p:Int×Int,p∈l->(lim K).call f ([]++[.iv (.agg [.int .i64 p.1,.int .i64 p.2])]++cap) S=.ret (.iv (.bool (q p)),S)): ∃y:Int,(0<=y↔l.any q=true)/\(lim K).call 118 [.iv (.sl t (l.map iQ)),.fn f [] cap] S=.ret (j_ y,S):=by
 obtain⟨y,i,j,k,h,c,e⟩:=aU5 t l g f cap q S a b d (j_ 0) l.length 0 u_ u_ u_ A_;rw[n0_,C4]at e;cases ha:l.any q
 .refine⟨-1,by simp,aI K _ (fn:=t118) rfl rfl ?_⟩;rw[ha]at e;simp only[Y_,↓reduceIte]at e;simp(disch:=omega)only[t118,go_sem,P_,e]
 .refine⟨y,by simp[c],aI K _ (fn:=t118) rfl rfl ?_⟩;rw[ha]at e;simp only[↓reduceIte]at e;simp(disch:=omega)only[t118,go_sem,P_,e]
theorem bDy(t:Tag)(l:Tb_)(d:l.length<=1000000)(f:Nat)(cap:Tn_)(q:Int×Int->Bool)(S:aA)(a:([TV.iv (.agg [.int .i64 0,.int .i64 0])]++cap).all kQ=false)(c:cap.any bY=false) (g:∀p:Int×Int,p∈l->(lim K).call f ([]++[.iv (.agg [.int .i64 p.1,.int .i64 p.2])]++cap) S=.ret (.iv (.bool (q p)),S)): (lim K).call 86 [.iv (.sl t (l.map iQ)),.fn f [] cap] S=.ret (.iv (.bool (l.any q)),S):=by
 obtain⟨y,b,e⟩:=bLv t l d f cap q S a c g;refine aI K _ (fn:=t86) rfl rfl ?_;simp(disch:=omega)only[t86,go_sem,e];congr 4;cases ha:l.any q
 .rw[ha]at b;simp at b |-;omega
 .rw[ha]at b;simp at b |-;omega
def may(r:Int)(E M:List (Int×Int)):Bool:=decide (32<=r)&&(!(E.any (vP r))&&!(M.any (vP r)))
theorem bR0(r:Int)(t1:Tag)(E:Tb_)(t2:Tag)(M:Tb_)(d:E.length<=1000000)(c:M.length<=1000000):Pure K 65 [.iv (gv r t1 E t2 M)] (.iv (.bool (may r E M))):=by
 have a:=bDy t1 E d 85 [.ptr 0 69 0] (vP r) [.cells 69 false (qX r t1 E t2 M)] rfl rfl (fun p _=>bDx r t1 E t2 M p);have b:=bDy t2 M c 85 [.ptr 0 69 0] (vP r) [.cells 69 false (qX r t1 E t2 M)] rfl rfl (fun p _=>bDx r t1 E t2 M p);refine aT t65 rfl rfl ?_;simp only[qX]at a b;simp(disch:=omega)only[t65,go_sem,gv,a,b];repeat' (first|(first|refine aLa (fun h=>?_) (fun h=>?_)|refine aLb (fun h=>?_) (fun h=>?_)|refine aLc (fun h=>?_) (fun h=>?_)|refine aSk (fun h=>?_) (fun h=>?_))|simp(disch:=omega)only[go_sem,a,b])
 all_goals (simp[may, *])
theorem aU6{a:Ad}{lv:TV}{l:Tc_}(d:vO lv l)(q:l.length<=1000000)(jp:Nat)(g:jp∉a.own)(r:Nat)(x0 s x2 x6 x7 x8 x9 x14 x15 x16:TV): ∀(k i:Nat) (p:Pn) (S:aA) (x5 x13:TV),i+k=l.length->(∀m∈l,m<p.n)->PT S a p->S[jp]?=some (.cells 102 false [.ptr a.ip 106 0]) ->∃D f S' b,lp' (lim K) t36L0 (e9 jp x0 s x2 (j_ r) x5 x6 x7 x8 x9 lv (j_ l.length) (j_ i) x13 x14 x15 x16) S = .ret (.exit 2,e9 jp x0 s x2 (j_ r) D x6 x7 x8 x9 lv (j_ l.length) (j_ l.length) f x14 x15 x16,S')/\PT S' a {p with out:=b}/\S'[jp]?=some (.cells 102 false [.ptr a.ip 106 0])/\∀m,b m=if m∈l.drop i then(r:Int)else p.out m
 |0,i,p,S,x5,x13,h,hln,hP,hp=>by
  obtain rfl:i=l.length:=A_;refine⟨x5,z_,S,p.out,?_,hP,hp,fun m=>by rw[D7];simp⟩;unfold e9;refine aE K _ _ t36L0.eq_1 ?_;rcases d with⟨t,rfl⟩|⟨j,rfl⟩;.simp(disch:=omega)only[go_sem]
  .simp(disch:=omega)only[go_sem]
 |k+1,i,p,S,x5,x13,h,hln,hP,hp=>by
  have c:i<l.length:=A_;have y:l.drop i=l.getD i default::l.drop (i+1):=by rw[A7 c];simp[List.getD,D_ c]
  have E:=fun t=>uT (t:=t) c;have z:=fun j=>xR (j:=j) c;have F:l.getD i default<p.n:=hln _ (qE c);generalize l.getD i default=w at *
  have u:=hP.setOut w r;have x:=hP.blk;have b2:=hP.out;have G:=fR (j:=a.ju) (v:=0) F;have C:=lF (fun r=>vI (p.out r)) (vI r) F;simp only[dL]at x;have A:(S.set a.ju (.cells 0 false (cF p.n (upd (fun r=>vI (p.out r)) w (vI r)))))[jp]?=some (.cells 102 false [.ptr a.ip 106 0]):=by rw[aB (fun e=>g (by rw[<-e];simp[Ad.own]))];exact hp
  obtain⟨D,f,S',b,o,H,I,J⟩:=aU6 d q jp g r x0 s x2 x6 x7 x8 x9 x14 x15 x16 k (i+1) {p with out:=upd p.out w r} _ (j_ w) e_ A_ hln u A;rw[show((i+1:Nat):Int)=(i:Int)+1 by omega]at o;simp only[vI]at b2 C o;refine⟨D,f,S',b,?_,H,I,fun m=>?_⟩
  .unfold e9 at o |-;refine aE K _ _ t36L0.eq_1 ?_;rcases d with⟨t,rfl⟩|⟨j,rfl⟩;.simp(disch:=omega)only[go_sem,hp,E,x,b2,G,C,aC];exact X_ er o
   .simp(disch:=omega)only[go_sem,hp,z,x,b2,G,C,aC];exact X_ er o
  .rw[J m,y];simp only[J_];by_cases e:m∈l.drop (i+1);.rw[K_ e,K_ (.inr e)]
   .rw[I_ e];by_cases e2:m=w;.subst e2;rw[bU,K_ (.inl rfl)]
    .rw[cZ _ _ e2,I_ (by simp[e,e2])]
def O0(p:Pn)(ρ:Nat->Nat)(i:Nat)(o:Nat->Int):Prop:=∀m,o m=if m<32 then(if m<i then(m:Int)else 0)else if m<p.n/\ρ m<i then((ρ m:Nat):Int)else 0
theorem bDz{a:Ad}{p:Pn}{ρ d:Th_}(E:Inv p ρ d)(U:p.n<=500000)(C:32<=p.n)(jp:Nat)(s:jp∉a.own)(x0 D x2 x6 x7 x14 x15 x16:TV): ∀(k i:Nat) (o:Tg_) (S:aA) (x4 x5 x9 x10 x11 x12 x13:TV),i+k=32->PT S a {p with out:=o}->S[jp]?=some (.cells 102 false [.ptr a.ip 106 0])->O0 p ρ i o ->∃Q L I c l f t S' o',lp' (lim K) t36L1 (e9 jp x0 D x2 x4 x5 x6 x7 (j_ i) x9 x10 x11 x12 x13 x14 x15 x16) S = .ret (.exit 0,e9 jp x0 D x2 Q L x6 x7 (j_ 32) I c l f t x14 x15 x16,S')/\PT S' a {p with out:=o'}/\S'[jp]?=some (.cells 102 false [.ptr a.ip 106 0])/\O0 p ρ 32 o'
 |0,i,o,S,x4,x5,x9,x10,x11,x12,x13,h,hP,hp,ho=>by obtain rfl:i=32:=A_;refine⟨x4,x5,z_,x10,x11,x12,x13,S,o,?_,hP,hp,ho⟩;unfold e9;refine aE K _ _ t36L1.eq_1 ?_;rw[show((32:Nat):Int)=32 from rfl];simp(disch:=omega)only[go_sem]
 |k+1,i,o,S,x4,x5,x9,x10,x11,x12,x13,h,hP,hp,ho=>by
  have z:i<p.n:=A_;have A:=hP.setOut i i;have b1:=hP.blk;have b2:=hP.out;have i1:=fR (j:=a.ju) (v:=0) z;have s1:=lF (fun r=>vI (o r)) (vI i) z;simp only[dL]at b1;have w:(S.set a.ju (.cells 0 false (cF p.n (upd (fun r=>vI (o r)) i (vI i)))))[jp]?=some (.cells 102 false [.ptr a.ip 106 0]):=by rw[aB (fun e=>s (by rw[<-e];simp[Ad.own]))];exact hp
  have H:Uf {p with out:=upd o i i} ρ d:=⟨E.uf.up,E.uf.fix⟩
  obtain⟨j,S2,P,hk⟩:=bDn A H (by show p.n<=_;omega) C i;have N:=hk.get _ _ B_ w;have h0:=aU4 p ρ i 32;obtain⟨L,t,S3,Z,T,h1,h2,h3⟩:=aU6 (vO.acc j (bJ p ρ i 32)) A_ jp s i x0 D x2 x6 x7 (j_ i) e_ x14 x15 x16 (bJ p ρ i 32).length 0 {p with out:=upd o i i} S2 x5 x13 A_ (fun m hm=>(sX.1 hm).2.1) (A.keep hk) N;rw[n0_]at T;rw[C4]at h3;have W:O0 p ρ (i+1) Z:=by
   intro m;rw[h3 m];by_cases e:m∈bJ p ρ i 32;.obtain⟨u,y,V⟩:=sX.1 e;rw[K_ e,I_ A_,K_ ⟨y,by omega⟩,V]
   .rw[I_ e];show upd o i (i:Int) m=_;by_cases e2:m=i;.subst e2;rw[bU,K_ A_,K_ A_]
    .rw[cZ _ _ e2,ho m];by_cases e3:m<32
     .rw[K_ e3,K_ e3];by_cases e4:m<i;.rw[K_ e4,K_ A_]
      .rw[I_ e4,I_ A_]
     .rw[I_ e3,I_ e3];have e5:(m<p.n/\ρ m<i)↔(m<p.n/\ρ m<i+1):=by
       constructor;.rintro⟨u,y⟩;exact⟨u,by omega⟩
       .rintro⟨u,y⟩;refine⟨u,?_⟩;have:ρ m≠i:=fun x=>e (sX.2 ⟨by omega,u,x⟩);omega
      by_cases x:m<p.n/\ρ m<i;.rw[K_ x,K_ (e5.1 x)]
      .rw[I_ x,I_ (fun g=>x (e5.2 g))]
  obtain⟨Q,z5,I,c,l,f,R,S',o',J,u,y,V⟩:=bDz E U C jp s x0 D x2 x6 x7 x14 x15 x16 k (i+1) Z S3 (j_ i) L e_ (acc j (cQ (bJ p ρ i 32))) (.iv (.int .i64 (bJ p ρ i 32).length)) (.iv (.int .i64 (bJ p ρ i 32).length)) t A_ h1 h2 W;rw[show((i+1:Nat):Int)=(i:Int)+1 by omega]at J;refine⟨Q,z5,I,c,l,f,R,S',o',?_,u,y,V⟩;have F:∀q,mZ q (acc j (cQ (bJ p ρ i 32)))=acc j (cQ (bJ p ρ i 32)):=fun q=>qR _ _ _;have Y:bY (acc j (cQ (bJ p ρ i 32)))=false:=by unfold acc;split<;>rfl
  have G:∀S,sI .sl S (acc j (cQ (bJ p ρ i 32)))=some (.iv (.int .i64 (bJ p ρ i 32).length)):=fun S=>by rw[aFp,iW]
  have b:(lim K).call 68 [.ptr a.ip 106 0,j_ i] (S.set a.ju (.cells 0 false (cF p.n (upd (fun r=>vI (o r)) i (vI i)))))=.ret (acc j (cQ (bJ p ρ i 32)),S2):=P;simp only[vI]at b2 s1 w b;unfold e9 at T J |-;refine aE K _ _ t36L1.eq_1 ?_;simp(disch:=omega)only[go_sem,hp,b1,b2,i1,s1,w,b,F,Y,G,aC];rw[T];simp(disch:=omega)only[go_sem,aC];exact X_ er J
structure bUi (n:Nat) (tE:Tag) (E:List (Int×Int)) (tM:Tag) (M:List (Int×Int)) (o:Nat->Int):Prop where
 mach:∀m,m<32->o m=m
 virt:∀m,32<=m->m<n->o m = -1\/1<=o m/\o m<=24
 edge:∀x y,x<n->y<n->wL E x y=true->o x=o y->o x = -1
 spill:∀m,32<=m->m<n->o m = -1->∀d:Nat,1<=d->d<=24->∃t,t<n/\wL E m t=true/\o t=d
theorem sY{K:bD}{O:Orc}{n:Nat}{env:Env}{b:List Fr}{rs:List mW}{P R:TV×aA->Prop}{X:Out (TV×aA)}(d:X.All P)(h:∀v S,P (v,S)->(jW rs (rfR K O n env b (.ret (v,S)))).All R):(jW rs (rfR K O n env b X)).All R:=by
 have e:∀Y:Out (TV×aA),Y.All P->(fin rs ((er Y).bind fun r=>rfB K O n env b r.2 (r.2[n]?))).All R:=by
  intro Y;induction Y with
  |ret r=>intro a;have:=h r.1 r.2 a;unfold jW rfR at this;exact this
  |fail s=>intro a;exact a.elim
  |pick m q ih=>intro a j c;exact ih j (a j c)
 unfold jW rfR;exact e X d
theorem bD0{S:aA}{j v n:Nat}{o:Tg_}(h:S[j]?=some (.cells v false (cF n fun r=>vI (o r)))):cH S (.msl j v 0 n n 1)=some (TM.one (.int .i64) ((List.range n).map o)):=by
 have c:sub (cF n fun r=>vI (o r)) 0 (n*1)=some (cF n fun r=>vI (o r)):=mE (by simp[aC4]);have e2:toIVs (cF n fun r=>vI (o r))=some ((List.range n).map fun r=>IV.int .i64 (o r)):=by
  have:(cF n fun r=>vI (o r))=((List.range n).map fun r=>IV.int .i64 (o r)).map .iv:=by rw[L6];rfl
  rw[this,fL]
 have e3:∀l:List Nat,cN 1 l.length (l.map fun r=>IV.int .i64 (o r))=TM.one (.int .i64) (l.map o):=by
  intro l;induction l with
  |nil=>rfl
  |cons a r ih=>simp only[Q_,List.length_cons,cN,List.take_succ_cons,List.take_zero,I7,C4,ih];rfl
 have b:=e3 (List.range n);rw[F6]at b;simp only[cH,h,ne_eq,C8,↓reduceIte,c,e2,Option.map_some,b]
theorem bD1{r:Int}{E M:Tb_}(h:may r E M=true):∃n:Nat,r=n/\32<=n/\aXh n E/\OkM n M:=by
 unfold may at h;simp only[O_,p_,D5]at h;obtain⟨f,c,d⟩:=h;refine⟨r.toNat,by omega,by omega,fun e a=>?_,fun m b=>?_⟩;.have:=q_.1 c e a;simp[vP]at this;exact⟨e.1.toNat,e.2.toNat,by omega,by omega,by omega,by omega,by omega⟩
 .have:=q_.1 d m b;simp[vP]at this;exact⟨m.1.toNat,m.2.toNat,by omega,by omega,⟨by omega,by omega⟩,⟨by omega,by omega⟩⟩
theorem bR1{a:Ad}{p:Pn}{ρ d:Th_}(y:Uf p ρ d)(i:p.n<=500000)(l:32<=p.n){s jp jb jo:Nat}{out:Tc_}(b:out.length<=1000000)(c:jp∉a.own)(k:jb∉a.own)(h:jb≠s)(x0 x2 x4 x5 x6 x7 x8 x9 x10 x11 x12 x13 x14 x15 x16:TV)(o:Tg_)(S:aA)(A:PT S a {p with out:=o})(x:S[s]?=some (.lp .ready none (e9 jp x0 .hole x2 x4 x5 x6 x7 x8 x9 x10 x11 x12 x13 x14 x15 x16) [15,16] rfA rfC))(C:S[jp]?=some (.cells 102 false [.ptr a.ip 106 0]))(m:S[jb]?=some (.cells 27 false [acc jo (cQ out)])): ((lim K).call 92 [.yld s,.ptr jb 27 0] S).All fun q=>q.1=u_/\∃o',PT q.2 a {p with out:=o'}/\wM p ρ out.reverse o o' /\q.2[s]?=some (.lp .ready none (e9 jp x0 .hole x2 x4 x5 x6 x7 x8 x9 x10 x11 x12 x13 x14 x15 x16) [15,16] rfA rfC)/\q.2[jp]?=some (.cells 102 false [.ptr a.ip 106 0]):=by
 have z:=bDw (jo:=jo) y i l b c k h x0 x2 x4 x5 x6 x7 x8 x9 x10 x11 x12 x13 x14 x15 x16 out.length o S u_ u_ (L_ _) A x C m;have g:∀S,sI .sl S (acc jo (cQ out))=some (j_ out.length):=fun S=>by rw[aFp,iW]
 have f:∀q,mZ q (acc jo (cQ out))=acc jo (cQ out):=fun q=>qR _ _ _;refine dG K _ (fn:=t92) rfl rfl ?_;simp(disch:=omega)only[t92,go_sem,m,g,f,aC];refine dJ z ?_;rintro j e S1 ⟨F,E,D,o',v,e2,r,t,u,w⟩;dsimp only at v e2 r u w;subst v e2;rw[C5]at t;simp(disch:=omega)only[go_sem];exact bG ⟨rfl,o',r,t,u,w⟩
def bWe(r:Int)(tE:Tag)(E:List (Int×Int))(tM:Tag)(M:List (Int×Int))(v:TV):Prop :=
 (may r E M=false/\v=.iv (.sl .nil []))\/(may r E M=true/\∃(n:Nat) (o:Nat->Int),r=n/\32<=n/\v=.iv (.sl .no (TM.one (.int .i64) ((List.range n).map o)))/\bUi n tE E tM M o)
theorem bLw{n:Nat}{tE:Tag}{E:Tb_}{tM:Tag}{M:Tb_}(p:aXh n E){to:Th_}{near:Ti_}{ρ d:Th_}(i:Inv {pn0 n tE E tM M with to:=to,near:=near} ρ d) {l:Tc_} (J:bLt {pn0 n tE E tM M with to:=to,near:=near} l) {q o':Tg_} (Q:O0 {pn0 n tE E tM M with to:=to,near:=near} ρ 32 q) (R:wM {pn0 n tE E tM M with to:=to,near:=near} ρ l.reverse q o'):bUi n tE E tM M o':=by
 have P:Own {pn0 n tE E tM M with to:=to,near:=near}:=⟨fun r s h=>by rw[<-h];exact aMi E s r,fun r=>by
  cases h:({pn0 n tE E tM M with to:=to,near:=near}:Pn).own r r with
  |false=>rfl
  |true=>exact absurd rfl (uS p h).1,fun r s h=>(uS p h).2.1⟩
 have T:∀m,m<n->m<32->ρ m=m:=fun m w D=>i.uf.fix m w (i.mach m w D);have t:∀m,q m=if m<32 then(m:Int)else if m<n/\ρ m<32 then((ρ m:Nat):Int)else 0:=fun m=>by
  rw[Q m];by_cases e:m<32;.rw[K_ e,K_ e,K_ e]
  .rw[I_ e,I_ e];rfl
 have A:PI {pn0 n tE E tM M with to:=to,near:=near} ρ [] q:=by
  refine⟨fun m w=>by rw[t,K_ w],fun m a b k=>by rw[t,I_ A_,K_ ⟨b,k⟩],fun m a b k L=>(by cases L),fun m a b k L=>by rw[t,I_ A_,I_ A_],fun x y f v g H=>?_,fun m a b k=>?_⟩
  .have I:=i.img x y f v g;have G:x<n:=f;have F:y<n:=v;have key:∀z,z<n->0<q z->q z=(ρ z:Nat):=fun z N h=>by
    rw[t]at h |-;by_cases e:z<32;.rw[K_ e,T z N e]
    .rw[I_ e]at h |-;by_cases e2:z<n/\ρ z<32;.rw[K_ e2]
     .rw[I_ e2]at h;omega
   apply K5;intro u;have a:=key x G A_;have b:=key y F A_;have:ρ x=ρ y:=A_;rw[this,i.irr]at I;cases I
  .rw[t,I_ A_]at k;split at k<;>omega
 have j:=PI.all i P J R [] B_ A;have c:∀m,32<=m->m<n->32<=ρ m->ρ m∈l:=fun m a b k=>by have:=i.rt (r:=m) b;exact(J.all _).2 ⟨k,this.1,this.2⟩
 refine⟨j.mach,fun m a b=>?_,fun x y f v g H=>?_,j.spill⟩
 .by_cases e:ρ m<32;.right;rw[j.low m a b e];have:=(i.low m b ⟨b,.inr a⟩).2;omega
  .exact j.don m a b A_ (c m a b A_)
 .have u:=j.edge x y f v g H;obtain⟨_,C,_,_⟩:=uS p g;rcases C.2 with h|h;.rw[j.mach x A_]at u;omega
  .by_cases e:ρ x<32;.have:=j.low x h f e;have:=(i.low x f ⟨f,.inr h⟩).2;omega
   .rcases j.don x h f A_ (c x h f A_)with a|a;.exact a
    .omega
theorem PT.lt{S:aA}{a:Ad}{p:Pn}(h:PT S a p):∀i∈a.own,i<S.length:=by
 intro i b;simp only[Ad.own,J_,D1,H2]at b;rcases b with rfl|rfl|rfl|rfl|rfl;.exact aN h.blk
 .exact aN h.near
 .exact aN h.own
 .exact aN h.to
 .exact aN h.out
theorem bD2(S:aA)(b a:aG):(S++[b]).set S.length a=S++[a]:=B_
theorem bR2(r:Int)(tE:Tag)(E:Tb_)(tM:Tag)(M:Tb_)(hr:r<=100000)(hE:E.length<=1000000)(hM:M.length<=1000000):gP K 36 [.iv (gv r tE E tM M)] (bWe r tE E tM M):=by
 have c:=bR0 r tE E tM M hE hM;unfold gP;refine dG K _ (fn:=t36) rfl rfl ?_;cases hm:may r E M with
 |false =>rw[hm]at c;unfold gv at c |-;simp(disch:=omega)only[t36,go_sem,aD c];exact bG ⟨_,rfl,.inl ⟨hm,rfl⟩⟩
 |true =>
  rw[hm]at c;obtain⟨n,rfl,f,j,A⟩:=bD1 hm;have hn:n<=100000:=A_;obtain⟨S1,a,L,I⟩:=bRq (tE:=tE) (tM:=tM) (M:=M) (n:=n) A_ f hE j;have V:=I.lt;have t:S1.length∉a.own:=fun h=>by have:=V _ h;omega
  have h6:=I.keep (bL.app [] S1 [aG.cells 102 false [.ptr a.ip 106 0]]);have F:=cM S1 (aG.cells 102 false [.ptr a.ip 106 0]);have h9:=cM S1 (aG.cells 102 false [.iv .nilp]);have T:=bD2 S1 (aG.cells 102 false [.iv .nilp]) (aG.cells 102 false [.ptr a.ip 106 0]);have h4:=bRn h6 (inv0 (tE:=tE) (tM:=tM) (M:=M) j) (by show n<=_;omega) hM A;generalize hS2:S1++[aG.cells 102 false [.ptr a.ip 106 0]]=S2 at *
  have he:S1.length<S2.length:=by rw[<-hS2];simp
  unfold gv at c L |-;simp(disch:=omega)only[t36,go_sem,aD c,L,h9,T,hS2,F];refine fG h4 ?_;rintro v S3 ⟨i,nm,to,near,ρ,d,k3,y,e,_,_⟩;dsimp only at i k3 y;subst i;have hc:=k3.get _ _ F t B_;obtain⟨y4,y5,y9,R,h5,h0,h8,S4,o1,l4,D,H,Z⟩:=bDz (a:={a with nm:=nm}) (p:={pn0 n tE E tM M with to:=to,near:=near}) e (by show n<=_;omega) f S1.length t (.iv (.agg [.int .i64 n,.sl tE (E.map iQ),.sl tM (M.map iQ)])) (.lb [j_ n,.iv (.sl tE (E.map iQ)),.iv (.sl tM (M.map iQ))]) k_ u_ z_ u_ u_ u_ 32 0 (fun _=>0) S3 u_ u_ u_ u_ u_ u_ u_ A_ y hc (fun m=>B_);rw[n0_]at l4;unfold e9 at l4;have Y:=bRz D ⟨⟨e.uf.up,e.uf.fix⟩,e.sym,e.irr,e.root,e.img,e.mach,e.low⟩ (by show n<=_;omega) f;simp(disch:=omega)only[go_sem];rw[l4];simp(disch:=omega)only[go_sem,H];refine fG Y ?_;rintro v S5 ⟨l,jo,i,k5,P⟩;dsimp only at i k5;subst i;have u:∀q,mZ q (acc jo (cQ l))=acc jo (cQ l):=fun q=>qR _ _ _;have N:bY (acc jo (cQ l))=false:=by unfold acc;split<;>rfl
  have h7:(lim K).call 69 [acc jo (cQ l)] S5=.ret (.fn 92 [] [.ptr S5.length 27 0],S5++[.cells 27 false [acc jo (cQ l)]]):=by refine aI K _ (fn:=t69) rfl rfl ?_;simp(disch:=omega)only[t69,go_sem,u,N]
  simp(disch:=omega)only[go_sem,u,N,h7];have z:=D.keep k5;have G:=z.lt;have k6:=(bL.app [] S5 [aG.cells 27 false [acc jo (cQ l)]])
  have W:=cM S5 (aG.cells 27 false [acc jo (cQ l)]);generalize hS6:S5++[aG.cells 27 false [acc jo (cQ l)]]=S6 at *
  have hd:S6.length=S5.length+1:=by rw[<-hS6];simp
  have k7:=bL.app [] S6 [aG.lp LoopState.ready none (e9 S1.length (.iv (.agg [.int .i64 n,.sl tE (E.map iQ),.sl tM (M.map iQ)])) .hole k_ (noLb y4) (noLb y5) u_ z_ (j_ 32) (noLb y9) (noLb R) (noLb h5) (noLb h0) (noLb h8) (.fn 92 [] [.ptr S5.length 27 0]) u_ u_) [15,16] rfA rfC];have U:l.length<=1000000:=by have h2:=aHa P.nd (Q6.filter fun x=>decide (x∈l)) (fun x=>by rw[B5,C2];simp only[p_];exact⟨fun h=>⟨((P.all x).1 h).2.1,h⟩,fun h=>h.2⟩) (m:=(List.range n).filter fun x=>decide (x∈l));have h3:=E0 (fun x=>decide (x∈l)) (List.range n);simp only[F6]at h3;omega
  have J:=bR1 (a:={a with nm:=nm}) (p:={pn0 n tE E tM M with to:=to,near:=near}) (jo:=jo) e.uf (by show n<=_;omega) f (s:=S6.length) (jp:=S1.length) (jb:=S5.length) U t (fun h=>by have:=G _ h;omega) A_ _ _ _ _ _ _ _ _ _ _ _ _ _ _ _ o1 _ ((z.keep k6).keep k7) (cM _ _) (k7.get _ _ B_ (k6.get _ _ B_ (k5.get _ _ B_ H))) (k7.get _ _ B_ W);unfold e9 rfA rfC at J;refine sY J ?_;rintro v S8 ⟨i,o',w,Q,g,k⟩;dsimp only at i w g k;subst i;have ha:S6.length≠S1.length:=bO g k B_;have C:=fun b=>w.busy g b;have b1:=fun b=>(C b).blk;have hb:=fun b:aG=>(aB ha b).trans k;have h1:=fun b=>bD0 (C b).out;simp only[dL]at b1;simp(disch:=omega)only[go_sem,g,hb,b1];refine bG ⟨_,?_,.inr ⟨hm,n,o',rfl,f,rfl,bLw j e ⟨P.nd,P.all⟩ Z Q⟩⟩;show TM.resolve _ (.msl a.ju 0 0 n n 1)=_;rw[aBv,show cH _ (.msl a.ju 0 0 n n 1)=_ from h1 _];rfl
theorem aJy{rg:Int}{ins:List VI}(c:ins.any (qV rg ins)=false){i:Nat}(e:i<ins.length){r:Int}(f:r∈bN (ins.getD i default)):0<=r/\r<rg:=by
 have a:=q_.1 c (ins.getD i default) (by simp only[List.getD,D_ e,Option.getD_some];exact B8 _);generalize ins.getD i default=x at *
 unfold qV at a;have d:(bN x).any (nH rg)=false:=by
  cases h:(bN x).any (nH rg)with
  |false=>rfl
  |true=>rw[h]at a;simp at a
 have b:=q_.1 d r f;unfold nH at b;simp only[p_]at b;omega
theorem bWf{rg:Int}{ins:List VI}(c:ins.any (qV rg ins)=false){i:Nat}(b:i<ins.length):0<=(ins.getD i default).a/\(ins.getD i default).a<rg:=aJy c b (by unfold bN;simp)
theorem bUj{rg:Int}{ins:List VI}(b:ins.any (qV rg ins)=false){i:Nat}(a:i<ins.length)(h:(ins.getD i default).op≠67\/0<=(ins.getD i default).d):0<=(ins.getD i default).d/\(ins.getD i default).d<rg:=aJy b a (by unfold bN;rw[K_ h];simp)
theorem bLx{rg:Int}(k:32<=rg){ins:List VI}(f:ins.any (qV rg ins)=false){i:Nat}(j:i<ins.length):∀d∈aW (ins.getD i default),1<=d/\d<rg:=by
 intro d b;have c:=bUj f j;generalize ins.getD i default=x at *
 unfold aW at b;split at b;.rename_i h;obtain⟨a,g⟩:=((jR _).mem d).1 b;rw[S_]at a;subst a;have:=c (.inl A_);omega
 .split at b
  .obtain⟨a,g⟩:=((jR _).mem d).1 b;rw[U_]at a;rcases a with a|a;.unfold dN at a;obtain⟨n,e,rfl⟩:=r_.1 a;rw[C2]at e;omega
   .simp only[J_,D1,H2]at a;rcases a with rfl|rfl;.omega
    .have:=c (.inr A_);omega
  .cases b
structure zO (Q:List VI) (n:Nat) (o:Nat->Int):Prop where
 mach:∀m,m<32->o m=m
 virt:∀m,32<=m->m<n->o m = -1\/1<=o m/\o m<=24
 edge:∀x y:Nat,x<n->y<n->aDm Q x y->o x=o y->o x = -1
 spill:∀m,32<=m->m<n->o m = -1->∀d:Nat,1<=d->d<=24->∃t:Nat,aDm Q m t/\o t=d
theorem aXl{Q:List VI}{O:Te_}{rg:Int}(h:∀i,i<Q.length->∀x,x∈wlI 0 (O i)↔1<=x/\x<rg/\zH Q x i){x y:Int}:pF Q (fun i=>wlI 0 (O i)) (prP x y)->aDm Q x y:=by
 rintro⟨i,e,d,f,r,a,b,c,g⟩;refine⟨i,e,d,r,f,?_,b,c,g⟩;rcases U_.1 a with a|a;.exact .inr ((h i e r).1 a).2.2
 .exact .inl a
theorem aXm{Q:List VI}{O:Te_}{rg:Int}(l:∀i,i<Q.length->∀x,x∈wlI 0 (O i)↔1<=x/\x<rg/\zH Q x i){x y:Int}(j:1<=x/\x<rg)(f:1<=y/\y<rg)(h:aDm Q x y):pF Q (fun i=>wlI 0 (O i)) (prP x y):=by
 obtain⟨i,k,d,r,m,a,b,c,g⟩:=h;refine⟨i,k,d,m,r,?_,b,c,g⟩;rcases a with a|a;.exact J5 _ a
 .refine G9 _ ((l i k r).2 ?_);rcases aDk.1 g with⟨_,e⟩|⟨e,_⟩;.rw[<-e];exact⟨f.1,f.2,by rw[e];exact a⟩
  .rw[<-e];exact⟨j.1,j.2,by rw[e];exact a⟩
theorem aMm{r:Int}{L:Tb_}(h:∀p∈L,InP r p):L.any (vP r)=false:=by rw[q_];intro p a;have:=h p a;unfold InP at this;unfold vP;simp;omega
theorem bWg{Q:List VI}{n:Nat}(h7:32<=n)(hn:n<=1000){O:Te_}(P:∀i,i<Q.length->∀x,x∈wlI 0 (O i)↔1<=x/\x<n/\zH Q x i){E M:Tb_}(r:nK (pF Q fun i=>wlI 0 (O i)) E)(J:nK (sR Q) M)(q:∀p,pF Q (fun i=>wlI 0 (O i)) p->InP n p)(u:∀p,sR Q p->InP n p)(tE tM:Tag): gP K 36 [.iv (.agg [.int .i64 n,.sl tE (aAw E),.sl tM (aAw M)])] fun v=>∃o:Nat->Int,v=.iv (.sl .no (TM.one (.int .i64) ((List.range n).map o)))/\zO Q n o:=by
 have c:=bR2 n tE E tM M A_ (xP (rg:=n) A_ r.inc fun p g=>q p ((r.mem p).1 g)) (xP (rg:=n) A_ J.inc fun p g=>u p ((J.mem p).1 g));refine gP.mono c ?_;have j:may n E M=true:=by unfold may;rw[V_ A_,aMm fun p g=>q p ((r.mem p).1 g),aMm fun p g=>u p ((J.mem p).1 g)];rfl
 obtain⟨_,_,_,L,_⟩:=bD1 j;rintro v (⟨h,_⟩|⟨_,F,o,h8,_,rfl,f⟩);.rw[j]at h;cases h
 obtain rfl:F=n:=A_;refine⟨o,rfl,f.mach,f.virt,fun x y I G R k=>?_,fun m l N V d h4 W=>?_⟩
 .have h6:(x:Int)≠y:=by obtain⟨i,_,d,w,_,_,h0,_,g⟩:=R;rcases aDk.1 g with⟨C,e2⟩|⟨C,e2⟩<;>omega
  have s:∀z:Nat,z<F->¬(1<=z/\z<=24\/32<=z)->z<32/\o z=z/\(z=0\/25<=z):=fun z U h=>⟨by omega,f.mach z A_,by omega⟩
  by_cases hcx:1<=x/\x<=24\/32<=x
  .by_cases hcy:1<=y/\y<=24\/32<=y
   .refine f.edge x y I G ?_ k;have H:=aXm (rg:=F) P (x:=x) (y:=y) A_ A_ R;have A:=(r.mem _).2 H;refine E5.2 ⟨_,A,?_⟩;unfold aJr prP;have D:∀z:Nat,(1<=z/\z<=24\/32<=z)->isV z=true:=fun z U=>by
     have l:(1<=(z:Int)/\(z:Int)<=24)\/32<=(z:Int):=A_;unfold isV kH;rcases l with⟨l,N⟩|l;.rw[V_ l,V_ N];rfl
     .rw[V_ l,K9]
    split;.rw[D x hcx,D y hcy];simp
    .rw[D x hcx,D y hcy];simp
   .obtain⟨a,b,c⟩:=s y G hcy;rw[b]at k;by_cases h:x<32;.rw[f.mach x h]at k;omega
    .have:=f.virt x A_ I;omega
  .obtain⟨a,b,c⟩:=s x I hcx;rw[b]at k;by_cases h:y<32;.rw[f.mach y h]at k;omega
   .have:=f.virt y A_ G;omega
 .obtain⟨t,_,ha,Z⟩:=f.spill m l N V d h4 W;refine⟨t,aXl (rg:=F) P ?_,Z⟩;obtain⟨_,_,_,e,k,hh⟩:=uS L ha;have T:=(r.mem e).1 k;have Y:=q e T;unfold InP at Y;have:e=prP m t:=by
   unfold prP;rcases hh with⟨C,e2⟩|⟨C,e2⟩;.rw[K_ A_,<-C,<-e2]
   .rw[I_ A_,<-C,<-e2]
  rw[<-this];exact T
end Go.Proofs.YtehlgnfhkidgoaaGreatDoor
