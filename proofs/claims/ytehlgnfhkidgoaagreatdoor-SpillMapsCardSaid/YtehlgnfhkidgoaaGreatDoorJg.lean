/- Some texts of the proof, joined. Condition: none. -/
import Derived.Test.YtehlgnfhkidgoaaGreatDoorJf
import Derived.Test.YtehlgnfhkidgoaaGreatDoorJe
set_option linter.unusedSectionVars false
set_option maxRecDepth 100000
set_option maxHeartbeats 64000000
set_option linter.unusedSimpArgs false
set_option linter.unusedVariables false
namespace Go.Proofs.YtehlgnfhkidgoaaGreatDoor
open Go Go.TM
theorem pV{L:Tc_}{i:Nat}(h:i<L.length):L.getD i default∈L:=by simp only[List.getD,D_ h,Option.getD_some];exact B8 _
theorem aQl{S:aA}{jb t n:Nat}{u:Tg_}(h:Dg S jb t n u){jl v:Nat}{L:Tc_}{J:Tn_}(l:S[jl]?=some (.cells v true (L.map nI++J)))(a:∀x∈L,x<n)(j:L.length<=1000000)(cap:Nat)(x2 x5:TV):∀(k i m:Nat) (x6 x7:TV),i+k=L.length->m∈L ->∃e f g,lp' (lim K) t94L0 [.msl jl v 0 L.length cap 1,.fn 95 [] [.ptr jb 27 0],x2,j_ (m:Nat),j_ i,x5,x6,x7] S = .ret (.exit 0,[.msl jl v 0 L.length cap 1,.fn 95 [] [.ptr jb 27 0],x2,j_ (e:Nat),j_ L.length,x5,f,g],S)/\e∈L
 |0,i,m,x6,x7,hk,hm=>by obtain rfl:i=L.length:=A_;refine⟨m,z_,x7,aE K _ _ t94L0.eq_1 ?_,hm⟩;simp(disch:=omega)only[go_sem]
 |k+1,i,m,x6,x7,hk,hm=>by
  have b:i<L.length:=A_;have r:=bLf (jl:=jl) (v:=v) (cap:=cap) b;have q:=aJw (J:=J) b;have s:=pV b;obtain⟨c,o⟩:=bRj h (a _ s) (a _ hm);simp only[nI]at l q;by_cases hd:0<c;.obtain⟨e,f,g,p,d⟩:=aQl h (J:=J) (by simpa only[nI] using l) a j cap x2 x5 k (i+1) (L.getD i default) e_ e_ A_ s;rw[show((i+1:Nat):Int)=(i:Int)+1 by omega]at p;refine⟨e,f,g,aE K _ _ t94L0.eq_1 ?_,d⟩;simp(disch:=omega)only[go_sem,r,l,q,o,aC];exact X_ er p
  .obtain⟨e,f,g,p,d⟩:=aQl h (J:=J) (by simpa only[nI] using l) a j cap x2 x5 k (i+1) m e_ z_ A_ hm;rw[show((i+1:Nat):Int)=(i:Int)+1 by omega]at p;refine⟨e,f,g,aE K _ _ t94L0.eq_1 ?_,d⟩;simp(disch:=omega)only[go_sem,r,l,q,o,aC];exact X_ er p
theorem bRk{S:aA}{jb k n:Nat}{l:Tg_}(h:Dg S jb k n l){jl v:Nat}{L:Tc_}{J:Tn_}(c:S[jl]?=some (.cells v true (L.map nI++J)))(a:∀x∈L,x<n)(b:L.length<=1000000)(d:0<L.length)(cap:Nat): ∃m:Nat,(lim K).call 94 [.msl jl v 0 L.length cap 1,.fn 95 [] [.ptr jb 27 0]] S=.ret (j_ m,S)/\m∈L:=by have e:=bLf (jl:=jl) (v:=v) (cap:=cap) d;have g:=aJw (J:=J) d;obtain⟨m,o,p,f,j⟩:=aQl h c a b cap (j_ 0) z_ (L.length-1) 1 (L.getD 0 default) u_ u_ A_ (pV d);simp only[nI]at c g;rw[n0_]at e;rw[show((1:Nat):Int)=1 from rfl]at f;refine⟨m,aI K _ (fn:=t94) rfl rfl ?_,j⟩;have i:¬(L.length:Int)<1:=A_;simp(disch:=omega)only[t94,go_sem,e,c,g,i];rw[f];simp(disch:=omega)only[go_sem]
theorem bDs{t:Tag}{L:Tc_}(g:L.length<=1000000)(m:Nat):∀(k i:Nat) (x2 b x6 x7:TV),i+k=L.length->m∈L.drop i ->∃q f c h o,lp' (lim K) t74L0 [.iv (.sl t (cR L)),j_ m,x2,b,j_ L.length,j_ i,x6,x7] [] = .ret (.ret,[.iv (.sl t (cR L)),j_ m,j_ (q:Nat),f,j_ L.length,c,h,o],[])/\q<L.length
 |0,i,x2,b,x6,x7,hk,hm=>by rw[G5 A_]at hm;cases hm
 |k+1,i,x2,b,x6,x7,hk,hm=>by
  have a:i<L.length:=A_;have d:=uQ (t:=t) a;have n:L.drop i=L.getD i default::L.drop (i+1):=by rw[A6 a];simp[List.getD,D_ a]
  rw[n]at hm;by_cases hd:L.getD i default=m;.rw[hd]at d;refine⟨i,j_ i,j_ i,e_,e_,aE K _ _ t74L0.eq_1 ?_,a⟩;simp(disch:=omega)only[go_sem,d]
  .have j:m∈L.drop (i+1):=by
    rcases J_.1 hm with e|e;.exact absurd e.symm hd
    .exact e
   obtain⟨q,f,c,h,o,p,r⟩:=bDs (t:=t) g m k (i+1) x2 (j_ i) e_ z_ A_ j;rw[show((i+1:Nat):Int)=(i:Int)+1 by omega]at p;refine⟨q,f,c,h,o,aE K _ _ t74L0.eq_1 ?_,r⟩;have l:¬((m:Int)=(L.getD i default:Nat)):=A_;simp(disch:=omega)only[go_sem,d,l,aC];exact X_ er p
theorem bRl{t:Tag}{L:Tc_}(a:L.length<=1000000){m:Nat}(c:m∈L):∃q:Nat,Pure K 74 [.iv (.sl t (cR L)),j_ m] (j_ q)/\q<L.length:=by obtain⟨q,e,h,g,f,b,d⟩:=bDs (t:=t) a m L.length 0 (j_ 0) u_ u_ u_ A_ (by simpa using c);rw[n0_]at b;refine⟨q,TM.gQ (S:=[]) (r:=j_ q) (aI K _ (fn:=t74) rfl rfl ?_) (by rw[oH]),d⟩;simp(disch:=omega)only[t74,go_sem,iT];rw[b];simp(disch:=omega)only[go_sem]
theorem bLh{S:aA}{jl v:Nat}{L:Tc_}{J:Tn_}(b:S[jl]?=some (.cells v true (L.map nI++J)))(cap:Nat):cH S (.msl jl v 0 L.length cap 1)=some (cR L):=by
 have c:sub (L.map nI++J) 0 (L.length*1)=some (L.map nI):=by simp[sub,X0]
 have e2:toIVs (L.map nI)=some (L.map fun m:Nat=>IV.int .i64 (m:Int)):=by
  have:L.map nI=(L.map fun m:Nat=>IV.int .i64 (m:Int)).map .iv:=by rw[M3];rfl
  rw[this,fM]
 have e3:∀L:List Nat,cP 1 L.length (L.map fun m:Nat=>IV.int .i64 (m:Int))=cR L:=by
  intro L;induction L with
  |nil=>rfl
  |cons a r ih=>simp only[Q_,List.length_cons,cP,List.take_succ_cons,List.take_zero,J5,C4,ih];rfl
 simp only[cH,b,ne_eq,C9,↓reduceIte,c,e2,Option.map_some,e3]
theorem bLi{m cap a b c:Nat}(d:c<=cap)(e:b<=c)(h3:a<=b):fN m cap (some (a:Int)) (some (b:Int)) (some (c:Int))=some (a,b,c):=by simp[fN,lB d,lB e,lB h3]
theorem bLj{m cap a b:Nat}(c:b<=cap)(h3:a<=b):fN m cap (some (a:Int)) (some (b:Int)) none=some (a,b,cap):=by have:pY none cap cap=some cap:=rfl;simp[fN,this,lB c,lB h3]
theorem aCh{S:aA}{jl v m cap:Nat}{cs:Tn_}(d:S[jl]?=some (.cells v true cs))(lo a b:Option Int){l h c:Nat}(f:fN m cap lo a b=some (l,h,c)):fQ S (.sl 1) (.msl jl v 0 m cap 1) lo a b=some (.msl jl v (if c=l then 0 else 0+l*1) (h-l) (c-l) 1):=by
 have e:rU S jl v=true:=by simp[rU,d]
 simp[fQ,e,f]
theorem bRm(l:Tc_):(l.map nI).any bJ=false:=by rw[t_];intro x a;obtain⟨m,_,rfl⟩:=A0.1 a;simp[nI,bJ]
theorem aMk{L:Tc_}{J:Tn_}{i:Nat}(c:i<L.length):put (L.map nI++J) i ((L.drop (i+1)).map nI)=(L.eraseIdx i).map nI++(nI (L.getD (L.length-1) default)::J):=by
 unfold put;rw[K3 (by simp<;>omega),Q1,E1,List.map_take];simp only[A9];congr 2;have b:i+((L.drop (i+1)).map nI).length=L.length-1:=by simp;omega
 rw[b,K2 (by simp<;>omega),<-List.map_drop];have a:L.drop (L.length-1)=[L.getD (L.length-1) default]:=by rw[A6 A_,G5 A_];simp[List.getD,D_ (show L.length-1<L.length by omega)]
 rw[a];rfl
theorem bDt{S:aA}{jl v:Nat}{L:Tc_}{J:Tn_}(f:S[jl]?=some (.cells v true (L.map nI++J))){i:Nat}(n:i<L.length)(c':Nat): bA false 1 8 3 S (.msl jl v 0 (i-0) (L.length+J.length-0) 1) (.msl jl v (if L.length+J.length=i+1 then 0 else 0+(i+1)*1) (L.length-(i+1)) c' 1)=some (.msl jl v 0 (L.length-1) (L.length+J.length) 1,S.set jl (.cells v true ((L.eraseIdx i).map nI++(nI (L.getD (L.length-1) default)::J)))):=by
 have a:=aMk (J:=J) n;have j:dU S (.msl jl v (if L.length+J.length=i+1 then 0 else 0+(i+1)*1) (L.length-(i+1)) c' 1)=some ((L.drop (i+1)).map nI):=by
  simp only[dU,f,↓reduceIte,I8,A7];by_cases e:L.length+J.length=i+1;.rw[K_ e,show L.length-(i+1)=0 by omega,G5 A_];simp[sub]
  .rw[I_ e];simp only[sub,H_,L_,show i+1+(L.length-(i+1))<=L.length+J.length by omega,↓reduceIte];rw[K2 (by simp;omega),K3 B_,<-List.map_drop,K5 B_]
 have b:((L.drop (i+1)).map nI).length=L.length-(i+1):=B_;have d:lenOf S (.msl jl v (if L.length+J.length=i+1 then 0 else 0+(i+1)*1) (L.length-(i+1)) c' 1)=some (L.length-(i+1)):=rfl;generalize TV.msl jl v (if L.length+J.length=i+1 then 0 else 0+(i+1)*1) (L.length-(i+1)) c' 1=x at j d |-;simp only[bA,j,d,b,I8,ne_eq,C9,bRm,b_,or_self,↓reduceIte,Nat.sub_zero,A7];by_cases e:L.length-(i+1)=0
 .rw[K_ e];have h:i=L.length-1:=A_;have:L.drop (i+1)=[]:=G5 A_;rw[this]at a;have g:put (L.map nI++J) i (([]:Tc_).map nI)=L.map nI++J:=by simp only[put,C3,A4,List.length_nil,Nat.add_zero,G1]
  rw[g]at a;obtain⟨l,k⟩:=E_.1 f;rw[<-a,<-k,J9,<-h];rfl
 .rw[I_ e];simp only[f,show ¬(1≠1\/v≠v) by simp,↓reduceIte,show i+(L.length-(i+1))<=L.length+J.length by omega,H_,L_,a,show i+(L.length-(i+1))=L.length-1 by omega];have m:L.length-1<=L.length+J.length:=A_;simp[m,show L.length<=L.length+J.length+1 by omega]
theorem bRn{S:aA}{jl v:Nat}{L:Tc_}{J:Tn_}(g:S[jl]?=some (.cells v true (L.map nI++J)))(q:L.length<=1000000){i:Nat}(k:i<L.length): ∃J',(lim K).call 97 [.msl jl v 0 L.length (L.length+J.length) 1,j_ i,j_ (i+1:Nat)] S=.ret (.msl jl v 0 (L.length-1) (L.length+J.length) 1,S.set jl (.cells v true ((L.eraseIdx i).map nI++J')))/\J'.length=J.length+1:=by
 have t:=bLi (m:=L.length) (cap:=L.length+J.length) (a:=i) (b:=i+1) (c:=L.length) A_ A_ A_;have b2:=uF (m:=L.length) (cap:=L.length+J.length) (b:=i) A_;have b3:=pL (m:=L.length) (cap:=L.length+J.length) (a:=i+1) A_ A_;have l:=aCh g _ _ _ t;have r:=aCh g _ _ _ b2;have j:=aCh g _ _ _ b3;have n:=bDt g k (L.length+J.length-(i+1));have h:=aN g;have e:(S.set jl (.cells v true ((L.eraseIdx i).map nI++(nI (L.getD (L.length-1) default)::J))))[jl]?=some _:=aM h _;have w:=bLj (m:=L.length-1) (cap:=L.length+J.length) (a:=L.length-1) (b:=L.length) A_ A_;have u:=aCh e _ _ _ w;have x:∀f,lW [.int .i64 0] (S.set jl (.cells v true ((L.eraseIdx i).map nI++(nI (L.getD (L.length-1) default)::J)))) (.msl jl v (0+(L.length-1)*1) (L.length-(L.length-1)) f 1)=some (S.set jl (.cells v true ((L.eraseIdx i).map nI++(j_ 0::J)))):=by
  intro f;have p:L.length-(L.length-1)=1:=A_;have o:¬L.length+J.length=L.length-1:=A_;have d:((L.eraseIdx i).map nI).length=L.length-1:=by rw[L_,Q9,K_ k]
  have s:put ((L.eraseIdx i).map nI++(nI (L.getD (L.length-1) default)::J)) (L.length-1) [j_ 0]=(L.eraseIdx i).map nI++(j_ 0::J):=by
   unfold put;rw[<-d,K4,List.drop_append];.simp
   .rfl
  simp only[lW,e,p,o,↓reduceIte,I8,A7,List.length_cons,List.length_nil,Z8];have h3:L.length-1+1<=((L.eraseIdx i).map nI++(nI (L.getD (L.length-1) default)::J)).length:=by rw[H_,d];simp<;>omega
  simp only[h3,s,X1,↓reduceIte,TM.bC,List.replicate,Q_,C3,A4,Nat.one_ne_zero,G9]
 refine⟨j_ 0::J,aI K _ (fn:=t97) rfl rfl ?_,rfl⟩;rw[show((i+1:Nat):Int)=(i:Int)+1 by omega]at l j |-;simp(disch:=omega)only[t97,go_sem,l,r,j,n,u,fun env c=>aLr _ env _ _ _ (x c)]
theorem uR{S0 S:aA}(k:bL [] S0 S){i:Nat}(c:S0.length<=i)(b:aG):bL [] S0 (S.set i b) :=
 ⟨by have:=k.len;simpa using this,fun j x _ a=>by have:=aN a;rw[aB A_];exact k.get j x B_ a⟩
theorem bDu{S0 S:aA}(k:bL [] S0 S)(a:List aG):bL [] S0 (S++a):=k.trans (bL.app [] S a)
theorem aXj{S:aA}{b v:Nat}{L:Tc_}(r:Nat)(e:S[b]?=some (.cells v true (L.map nI)))(h:L.length<=1000000): bA true 1 8 3 S (.msl b v 0 L.length L.length 1) (.iv (.sl .full [[.int .i64 (r:Int)]]))=some (.msl b (v+1) 0 (L.length+1) (L.length+1) 1,S.set b (.cells (v+1) true ((L++[r]).map nI))):=by have f:sub (L.map nI) 0 L.length=some (L.map nI):=mC B_;have c:eA (L.length+1) 8=true:=bR A_;have d:dU S (.iv (.sl .full [[.int .i64 (r:Int)]]))=some [nI r]:=rfl;have a:lenOf S (.iv (.sl .full [[.int .i64 (r:Int)]]))=some 1:=rfl;have g:bJ (nI r)=false:=rfl;simp[bA,d,a,e,g,c,f,show ¬L.length+1<=L.length by omega]
structure Lf (S0 S:aA) (n:Nat) (L:List Nat) (dg:Nat->Int) (lv:TV):Prop where
 keep:bL [] S0 S
 gone:S[S0.length]?=some (.cells 0 false (cF n fun _=>bI false))
 deg:Dg S (S0.length+2) (S0.length+1) n dg
 lst:(L=[]/\lv=.iv (.sl .nil [])/\S.length=S0.length+3)\/(L≠[]/\∃v,lv=.msl (S0.length+3) v 0 L.length L.length 1/\S[S0.length+3]?=some (.cells v true (L.map nI)))
def dI(p:Pn)(i:Nat):List Nat:=((List.range p.n).drop i).filter fun r=>decide (p.to r=r)
theorem aJx{S0:aA}{a:Ad}{p:Pn}(o:PT S0 a p)(J:p.n<=1000000)(R x2 x7 x8 x9 x12 x13 x14 x15 x16:TV):∀(k i:Nat) (L:Tc_) (s:Tg_) (lv:TV) (S:aA) (x10 x11:TV),i+k=p.n->Lf S0 S p.n L s lv->L.length<=i ->∃q h S' g m,lp' (lim K) t70L2 [.ptr a.ip 106 0,R,x2,.msl S0.length 0 0 p.n p.n 1,.ptr (S0.length+2) 27 0,lv,j_ i,x7,x8,x9,x10,x11,x12,x13,x14,x15,x16] S = .ret (.exit 0,[.ptr a.ip 106 0,R,x2,.msl S0.length 0 0 p.n p.n 1,.ptr (S0.length+2) 27 0,g,j_ p.n,x7,x8,x9,q,h,x12,x13,x14,x15,x16],S') /\Lf S0 S' p.n (L++dI p i) m g
 |0,i,L,s,lv,S,x10,x11,hk,hB,hl=>by
  obtain rfl:i=p.n:=A_;have y:=(o.keep hB.keep).blk;simp only[dQ]at y;have e:dI p p.n=[]:=by unfold dI;rw[G5 B_];rfl
  refine⟨z_,x11,S,lv,s,aE K _ _ t70L2.eq_1 ?_,by rw[e,A4];exact hB⟩;simp(disch:=omega)only[go_sem,y]
 |k+1,i,L,s,lv,S,x10,x11,hk,hB,hl=>by
  have d:i<p.n:=A_;have T:=o.keep hB.keep;have y:=T.blk;have b2:=T.to;have U:=fS (j:=a.jt) (v:=a.vt) d;have Q:=dS (fun r=>nI (p.to r)) d;simp only[dQ]at y;simp only[nI]at b2 Q;have N:=aDp d;by_cases e:p.to i=i
  .have Y:dI p i=i::dI p (i+1):=by unfold dI;rw[N,E4,K_ (by simpa using e)]
   obtain⟨l,c,m1,m2,m3⟩:=T.nmap i d;have hd:=sQ m2 m3;have h5:=aN hB.deg.box;obtain⟨S1,u,H,E,F,W,I,h2,A,h6⟩:∃S1 u H,bA true 1 8 3 S lv (.iv (.sl .full [[.int .i64 (i:Int)]]))=some (u,S1)/\u=.msl (S0.length+3) H 0 (L.length+1) (L.length+1) 1/\S1[S0.length+3]?=some (.cells H true ((L++[i]).map nI))/\bL [] S0 S1/\S1[S0.length]?=some (.cells 0 false (cF p.n fun _=>bI false))/\Dg S1 (S0.length+2) (S0.length+1) p.n s/\S.length<=S1.length:=by
    rcases hB.lst with⟨rfl,rfl,G⟩|⟨h0,v,rfl,hS⟩
    .have E:=uN (mu:=true) (bytes:=8) (el:=3) (S:=S) (f:=fun _=>nI i) (x:=.iv (.sl .full [[.int .i64 (i:Int)]])) rfl rfl rfl (bR A_) (.inl rfl);rw[G]at E;have z:∀j b,S[j]?=some b->(S++[aG.cells 0 true (cF 1 fun _=>nI i)])[j]?=some b:=fun j b hb=>by rw[Y_ (aN hb)];exact hb
     refine⟨_,_,_,E,rfl,?_,bDu hB.keep _,z _ _ hB.gone,⟨z _ _ hB.deg.box,z _ _ hB.deg.row⟩,by simp⟩;rw[<-G];simp[cF]
    .have E:=aXj i hS A_;refine⟨_,_,_,E,rfl,aM (aN hS) _,uR hB.keep A_ _,by rw[aB A_];exact hB.gone,⟨by rw[aB A_];exact hB.deg.box,by rw[aB A_];exact hB.deg.row⟩,by simp⟩
   have P:∀j,mX j lv=lv:=by intro j;rcases hB.lst with⟨_,rfl,_⟩|⟨_,v,rfl,_⟩<;>rfl
   subst F;have C:=o.keep I;have b3:=C.blk;have b4:=C.near;have b5:=A.box;have b6:=A.row;have i2:=fS (j:=a.jn) (v:=a.vn) d;have s2:=dS (fun r=>TV.map (a.nm r)) d;have i3:=fS (j:=S0.length+1) (v:=0) d;have s3:=lC (fun r=>vI (s r)) (vI (deg p.n (p.near i):Nat)) d;obtain⟨l',c',V,h4,Z⟩:=C.nmap i d;have t:=aMg V;rw[sQ h4 Z]at t;have h1:Lf S0 (S1.set (S0.length+1) (.cells 0 false (cF p.n fun r=>vI (upd s i (deg p.n (p.near i):Nat) r)))) p.n (L++[i]) (upd s i (deg p.n (p.near i):Nat)) (.msl (S0.length+3) H 0 (L.length+1) (L.length+1) 1) :=
    ⟨uR I A_ _,by rw[aB A_];exact h2,⟨by rw[aB A_];exact A.box,aM A_ _⟩,.inr ⟨by simp,H,by simp,by rw[aB A_];exact W⟩⟩
   obtain⟨q,h,S',g,m,D,w⟩:=aJx o J R x2 x7 x8 x9 x12 x13 x14 x15 x16 k (i+1) (L++[i]) _ _ _ e_ e_ A_ h1 (by simp;omega);rw[show((i+1:Nat):Int)=(i:Int)+1 by omega]at D;refine⟨q,h,S',g,m,aE K _ _ t70L2.eq_1 ?_,by rw[Y];simpa using w⟩;.rw[e]at Q;rw[nW vI]at s3;simp only[dQ]at b3;simp only[vI]at b6 s3 D;simp(disch:=omega)only[go_sem,y,b2,U,Q,P,E,b3,b4,b5,b6,i2,s2,i3,s3,t,aC];exact X_ er D
  .have Y:dI p i=dI p (i+1):=by unfold dI;rw[N,E4,I_ (by simpa using e)]
   obtain⟨q,h,S',g,m,D,w⟩:=aJx o J R x2 x7 x8 x9 x12 x13 x14 x15 x16 k (i+1) L s lv S e_ z_ A_ hB A_;rw[show((i+1:Nat):Int)=(i:Int)+1 by omega]at D;refine⟨q,h,S',g,m,aE K _ _ t70L2.eq_1 ?_,by rw[Y];exact w⟩;have e':¬((p.to i:Int)=(i:Int)):=A_;rcases hB.lst with⟨_,rfl,_⟩|⟨_,v,rfl,_⟩;.simp(disch:=omega)only[go_sem,y,b2,U,Q,e',aC];exact X_ er D
   .simp(disch:=omega)only[go_sem,y,b2,U,Q,e',aC];exact X_ er D
structure Odr (S0 S:aA) (n:Nat) (L:List Nat) (J:List TV) (v:Nat) (out:List Nat) (jo:Nat) (dg:Nat->Int):Prop where
 keep:bL [] S0 S
 gone:S[S0.length]?=some (.cells 0 false (cF n fun r=>bI (decide (r∈out))))
 deg:Dg S (S0.length+2) (S0.length+1) n dg
 lst:S[S0.length+3]?=some (.cells v true (L.map nI++J))
 tok:At 1 3 (cR out) jo S
 jo:out≠[]->S0.length+4<=jo
def e21(a:Ad)(s0 n:Nat)(x1 xo lv x6 x7 x8 x9 x10 x11 x12 x13 x14 x15 x16:TV):List TV:=[.ptr a.ip 106 0,x1,xo,.msl s0 0 0 n n 1,.ptr (s0+2) 27 0,lv,x6,x7,x8,x9,x10,x11,x12,x13,x14,x15,x16]
theorem Odr.it{S0 S:aA}{n:Nat}{L:Tc_}{J:Tn_}{v:Nat}{out:Tc_}{jo:Nat}{e:Tg_}(h:Odr S0 S n L J v out jo e){bi:Nat}{m:Option Nat}{x:Nat}{y:Tc_}{z:Nat}(a:S[bi]?=some (.mit m x y z))(c:S0.length<=bi)(f:aG):Odr S0 (S.set bi f) n L J v out jo e :=
 ⟨uR h.keep c _,by rw[aB (bN a h.gone B_)];exact h.gone,⟨by rw[aB (bN a h.deg.box B_)];exact h.deg.box,by rw[aB (bN a h.deg.row B_)];exact h.deg.row⟩,by rw[aB (bN a h.lst B_)];exact h.lst,fun d=>by rw[aB (bN a (h.tok d) B_)];exact h.tok d,h.jo⟩
theorem Odr.setD{S0 S:aA}{n:Nat}{L:Tc_}{J:Tn_}{v:Nat}{out:Tc_}{jo:Nat}{a:Tg_}(h:Odr S0 S n L J v out jo a)(t:Nat)(w:Int):Odr S0 (S.set (S0.length+1) (.cells 0 false (cF n fun r=>vI (upd a t w r)))) n L J v out jo (upd a t w):=by have c:=aN h.deg.row;refine⟨uR h.keep A_ _,by rw[aB A_];exact h.gone,⟨by rw[aB A_];exact h.deg.box,aM c _⟩,by rw[aB A_];exact h.lst,fun b=>?_,h.jo⟩;have:=h.jo (fun e=>b (by rw[e];rfl));rw[aB A_];exact h.tok b
theorem aJy{S0:aA}{a:Ad}{p:Pn}(u:PT S0 a p)(o:p.n<=1000000){r:Nat}(Y:r<p.n){bi c:Nat}(i:S0.length<=bi){l:Td_}(A:gE l c)(Q:∀t:Int,cG l t=true↔∃s:Nat,t=s/\s<p.n/\p.near r s=true){L:Tc_}{J:Tn_}{v:Nat}{out:Tc_}{jo:Nat}(x y lv x6 x7 x8 x10 x11 x12 x13:TV): ∀(k:Nat) (b:Tc_) (d:Tg_) (S:aA) (x9 x15 x16:TV),left l b<k->Odr S0 S p.n L J v out jo d->S[bi]?=some (.mit (some (a.nm r)) c b c)->S[a.nm r]?=some (.mp (mpR vI l) c) ->(lp' (lim K) t70L0 (e21 a S0.length p.n x y lv x6 x7 x8 x9 x10 x11 x12 x13 (.it bi) x15 x16) S).All fun q=>∃E y9 H R,q.1=.exit 4/\q.2.1=e21 a S0.length p.n x y lv x6 x7 x8 y9 x10 x11 x12 x13 (.it bi) H R/\Odr S0 q.2.2 p.n L J v out jo E
 |0,b,d,S,x9,x15,x16,hk,hO,hb,hm=>A_
 |k+1,b,d,S,x9,x15,x16,hk,hO,hb,hm=>by
  unfold e21;refine fE t70L0.eq_1 ?_;simp(disch:=omega)only[go_sem];refine jD hb hm A.born (O_ _) (fun W=>?_) (fun z P hs=>?_);.simp(disch:=omega)only[go_sem];exact bE ⟨d,_,_,_,rfl,rfl,hO⟩
  .have h1:=vE P hs;have F:bi≠a.nm r:=bN hb hm B_;have e:=hO.it hb i (.mit (some (a.nm r)) c (b++[z.1]) c);have h:(S.set bi (.mit (some (a.nm r)) c (b++[z.1]) c))[bi]?=_:=aM (aN hb) _;have g:(S.set bi (.mit (some (a.nm r)) c (b++[z.1]) c))[a.nm r]?=some (.mp (mpR vI l) c):=by rw[aB F];exact hm
   have D:=aAl h g P A.once;generalize S.set bi (.mit (some (a.nm r)) c (b++[z.1]) c)=S1 at *
   obtain⟨t,V,f,h0⟩:=wE Q P;have N:=e.gone;have U:=fS (j:=S0.length) (v:=0) f;have w:=dS (fun r=>bI (decide (r∈out))) f;simp only[bI]at N w;rw[V]at D;rw[V];by_cases hout:t∈out;.rw[V_ hout]at w;have m:=aJy u o Y i A Q x y lv x6 x7 x8 x10 x11 x12 x13 k (b++[z.1]) d S1 (j_ t) e_ z_ A_ e h g;unfold e21 at m;simp(disch:=omega)only[go_sem,D,N,U,w];exact cQ m
   .rw[l_ hout]at w;have b2:=e.deg.box;have b3:=e.deg.row;have i2:=fS (j:=S0.length+1) (v:=0) f;have Z:=dS (fun r=>vI (d r)) f;have I:=lC (fun r=>vI (d r)) (vI (IntKind.i64.wrap (d t-1))) f;have G:=e.setD t (IntKind.i64.wrap (d t-1));rw[nW vI]at I;have C:(S1.set (S0.length+1) (.cells 0 false (cF p.n fun r=>vI (upd d t (IntKind.i64.wrap (d t-1)) r))))[a.nm r]?=some (.mp (mpR vI l) c):=by rw[aB (bN b3 g B_)];exact g
    have T:(S1.set (S0.length+1) (.cells 0 false (cF p.n fun r=>vI (upd d t (IntKind.i64.wrap (d t-1)) r))))[bi]?=some (.mit (some (a.nm r)) c (b++[z.1]) c):=by rw[aB (bN b3 h B_)];exact h
    have m:=aJy u o Y i A Q x y lv x6 x7 x8 x10 x11 x12 x13 k (b++[z.1]) _ _ (j_ t) e_ e_ A_ G T C;unfold e21 at m;simp only[vI]at b3 Z I m;simp(disch:=omega)only[go_sem,D,N,U,w,b2,b3,i2,Z,I];exact cQ m
structure OF (p:Pn) (L out:List Nat) (dg:Nat->Int):Prop where
 ndL:L.Nodup
 ndO:out.Nodup
 dis:∀t,t∈L->t∉out
 all:∀t,(t∈L\/t∈out)↔32<=t/\t<p.n/\p.to t=t
theorem OF.step{p:Pn}{ρ d:Th_}(E:Inv p ρ d)(v:p.n<=1000000){L out:Tc_}{C g:Tg_}(h:OF p L out C){q:Nat}(m:q<L.length):OF p (L.eraseIdx q) (out++[L.getD q default]) g:=by
 have j:=pV m;have f:=h.dis _ j;obtain⟨A,u,o⟩:=(h.all _).1 (.inl j);have c:L.getD q default=L[q]:=by simp[List.getD,D_ m]
 have k:L.take q++L[q]::L.drop (q+1)=L:=by rw[List.getElem_cons_drop,G1]
 have b:∀t,t∈L.eraseIdx q↔t∈L/\t≠L.getD q default:=by
  intro t;have nd:=h.ndL;rw[c,Q1,a_];rw[<-k,H9,C8]at nd;obtain⟨_,⟨D,_⟩,w⟩:=nd;have i:t∈L↔t∈L.take q\/t=L[q]\/t∈L.drop (q+1):=by rw[<-J_,<-a_,k]
  rw[i];constructor
  .rintro(a|a);.exact⟨.inl a,fun e=>w t a L[q] N5 e⟩
   .exact⟨.inr (.inr a),fun e=>D (by rw[<-e];exact a)⟩
  .rintro⟨a|a|a,s⟩;.exact .inl a
   .exact absurd a s
   .exact .inr a
 generalize L.getD q default=r at *
 refine⟨h.ndL.eraseIdx q,?_,fun t i=>?_,fun t=>?_⟩;.rw[H9];exact⟨h.ndO,by simp,fun x z y l e=>f (by simp at l;rw[<-l,<-e];exact z)⟩
 .have:=(b t).1 i;simp only[a_,U_,H2];exact⟨h.dis t this.1,this.2⟩
 .rw[<-h.all t,b t];simp only[a_,U_];constructor
  .rintro(a|a|a);.exact .inl a.1
   .exact .inr a
   .rw[a];exact .inl j
  .rintro(a|a)
   .by_cases e:t=r;.exact .inr (.inr e)
    .exact .inl ⟨a,e⟩
   .exact .inr (.inl a)
theorem bDv{S0:aA}{a:Ad}{p:Pn}{ρ d:Th_}(N:PT S0 a p)(hI:Inv p ρ d)(F:p.n<=1000000)(x1 x6:TV): ∀(k:Nat) (L:Tc_) (J:Tn_) (v:Nat) (out:Tc_) (jo:Nat) (s:Tg_) (S:aA) (x7 x8 x9 x10 x11 x12 x13 x14 x15 x16:TV),L.length=k->Odr S0 S p.n L J v out jo s->OF p L out s->L.length+out.length<=1000000 ->(lp' (lim K) t70L1 (e21 a S0.length p.n x1 (acc jo (cR out)) (.msl (S0.length+3) v 0 L.length (L.length+J.length) 1) x6 x7 x8 x9 x10 x11 x12 x13 x14 x15 x16) S).All fun q=>∃y h5 f y5 y7 y8 y9 hd he h8 D H,q.1=.exit 2 /\q.2.1=e21 a S0.length p.n x1 (acc h5 (cR y)) y5 x6 y7 y8 y9 x10 x11 hd he h8 D H/\bL [] S0 q.2.2/\OF p [] y f
 |0,L,J,v,out,jo,s,S,x7,x8,x9,x10,x11,x12,x13,x14,x15,x16,hk,hO,hF,hlen=>by obtain rfl:L=[]:=Z_ hk;unfold e21;refine fE t70L1.eq_1 ?_;simp(disch:=omega)only[go_sem,List.length_nil];exact bE ⟨out,jo,s,_,_,_,_,_,_,_,_,_,rfl,rfl,hO.keep,hF⟩
 |k+1,L,J,v,out,jo,s,S,x7,x8,x9,x10,x11,x12,x13,x14,x15,x16,hk,hO,hF,hlen=>by
  have u:=hO.lst;have W:∀x∈L,x<p.n:=fun x hx=>((hF.all x).1 (.inl hx)).2.1;obtain⟨w,V,hw⟩:=bLg hO.deg u W A_ (L.length+J.length);obtain⟨q,z,h6⟩:∃q,q<L.length/\(w=q\/w = -1/\∃m:Nat,(lim K).call 94 [.msl (S0.length+3) v 0 L.length (L.length+J.length) 1,.fn 95 [] [.ptr (S0.length+2) 27 0]] S=.ret (j_ m,S)/\Pure K 74 [.iv (.sl .no (cR L)),j_ m] (j_ q)):=by
   rcases hw with⟨rfl,hw⟩|⟨q,rfl,h1,h2⟩;.obtain⟨m,G,hm⟩:=bRk hO.deg u W A_ A_ (L.length+J.length);obtain⟨q,A,z⟩:=bRl (t:=.no) (L:=L) A_ hm;exact⟨q,z,.inr ⟨rfl,m,G,A⟩⟩
   .exact⟨q,h1,.inl rfl⟩
  have hm:=pV z;obtain⟨hg,o,hj⟩:=(hF.all _).1 (.inl hm);have hf:=hF.dis _ hm;have i1:=bLf (jl:=S0.length+3) (v:=v) (cap:=L.length+J.length) z;have s1:=aJw (J:=J) z;obtain⟨J',C,hh⟩:=bRn u A_ z;have ha:=bLh u (L.length+J.length);have h7:=fun f=>@OF.step p ρ d hI F L out s f hF q z;have h4:(L.eraseIdx q).length=L.length-1:=by rw[Q9,K_ z]
  generalize hr:L.getD q default=r at *
  have g0:=aN u;have a1:(S.set (S0.length+3) (.cells v true ((L.eraseIdx q).map nI++J')))[S0.length]?=some (.cells 0 false (cF p.n fun r=>bI (decide (r∈out)))):=by rw[aB A_];exact hO.gone
  have i2:=fS (j:=S0.length) (v:=0) o;have s2:=lC (fun r=>bI (decide (r∈out))) (bI true) o;rw[nW bI]at s2;have hc:(fun t=>bI (upd (fun t=>decide (t∈out)) r true t))=fun t=>bI (decide (t∈out++[r])):=by
   funext t;by_cases e:t=r;.subst e;simp[bU]
   .rw[dB _ _ e];simp[e]
  rw[hc]at s2;have T:bL [] S0 ((S.set (S0.length+3) (.cells v true ((L.eraseIdx q).map nI++J'))).set S0.length (.cells 0 false (cF p.n fun t=>bI (decide (t∈out++[r]))))):=uR (uR hO.keep A_ _) (O_ _) _;have a2:((S.set (S0.length+3) (.cells v true ((L.eraseIdx q).map nI++J'))).set S0.length (.cells 0 false (cF p.n fun t=>bI (decide (t∈out++[r])))))[S0.length+3]?=some (.cells v true ((L.eraseIdx q).map nI++J')):=by rw[aB A_,aM g0]
  have a3:((S.set (S0.length+3) (.cells v true ((L.eraseIdx q).map nI++J'))).set S0.length (.cells 0 false (cF p.n fun t=>bI (decide (t∈out++[r])))))[S0.length]?=some (.cells 0 false (cF p.n fun t=>bI (decide (t∈out++[r])))):=aM (by rw[F6];exact aN hO.gone) _;have a4:Dg ((S.set (S0.length+3) (.cells v true ((L.eraseIdx q).map nI++J'))).set S0.length (.cells 0 false (cF p.n fun t=>bI (decide (t∈out++[r]))))) (S0.length+2) (S0.length+1) p.n s:=⟨by rw[aB A_,aB A_];exact hO.deg.box,by rw[aB A_,aB A_];exact hO.deg.row⟩
  have a5:At 1 3 (cR out) jo ((S.set (S0.length+3) (.cells v true ((L.eraseIdx q).map nI++J'))).set S0.length (.cells 0 false (cF p.n fun t=>bI (decide (t∈out++[r]))))):=fun ho=>by have:=hO.jo (fun e=>ho (by rw[e];rfl));rw[aB A_,aB A_];exact hO.tok ho
  have a6:((S.set (S0.length+3) (.cells v true ((L.eraseIdx q).map nI++J'))).set S0.length (.cells 0 false (cF p.n fun t=>bI (decide (t∈out++[r]))))).length=S.length:=B_;generalize hS2:(S.set (S0.length+3) (.cells v true ((L.eraseIdx q).map nI++J'))).set S0.length (.cells 0 false (cF p.n fun t=>bI (decide (t∈out++[r]))))=S2 at *
  have e1:=bPr (b:=8) (c:=[.int .i64 (r:Int)]) (t:=.full) a5 ⟨rfl,rfl⟩ (aUz out) (bR (by rw[iT];omega));have gk:=aUx 1 3 (cR out) jo S2;have gt:=bPq a5 [.int .i64 (r:Int)];have gj:S0.length+4<=gI (cR out) jo S2:=by
   unfold gI;split;.omega
   .rename_i h0;exact hO.jo (fun e=>h0 (by rw[e];rfl))
  rw[aDo]at e1 gt;have ht:∀i b,S2[i]?=some b->(∀n w e,b≠aG.tok n w e)->(gSc 1 3 (cR out) jo S2)[i]?=some b:=fun i b Q hn=>gk.get i b (fun P=>by obtain⟨n,w,e,h1⟩:=aUy a5 i P;rw[Q]at h1;exact hn n w e (D6 h1)) Q;have g:Odr S0 (gSc 1 3 (cR out) jo S2) p.n (L.eraseIdx q) J' v (out++[r]) (gI (cR out) jo S2) s :=
   ⟨⟨by have:=T.len;have:=gk.len;omega,fun i b _ Q=>gk.get i b (fun P=>by
    unfold aBx at P;split at P;.cases P
    .rename_i h0;simp at P;have:=hO.jo (fun e=>h0 (by rw[e];rfl));have:=aN Q;omega) (T.get i b B_ Q)⟩,ht _ _ a3 B_,⟨ht _ _ a4.box B_,ht _ _ a4.row B_⟩,ht _ _ a2 B_,gt,fun _=>gj⟩
  generalize hS3:gSc 1 3 (cR out) jo S2=S3 at *
  generalize hj3:gI (cR out) jo S2=jo3 at *
  have E:=N.keep g.keep;have b1:=E.blk;have b2:=E.near;have i3:=fS (j:=a.jn) (v:=a.vn) o;have s3:=dS (fun r=>TV.map (a.nm r)) o;simp only[dQ]at b1;obtain⟨l,c,m1,m2,m3⟩:=E.nmap r o;have rg:=kE m1;have I:=bL.app [] S3 [aG.mit (some (a.nm r)) c [] c];have h9:Odr S0 (S3++[aG.mit (some (a.nm r)) c [] c]) p.n (L.eraseIdx q) J' v (out++[r]) jo3 s :=
   ⟨g.keep.trans I,I.get _ _ B_ g.gone,⟨I.get _ _ B_ g.deg.box,I.get _ _ B_ g.deg.row⟩,I.get _ _ B_ g.lst,fun ho=>I.get _ _ B_ (g.tok ho),g.jo⟩
  have l1:=fun x13=>aJy N F o (bi:=S3.length) (by have:=g.keep.len;omega) m2 m3 x1 (acc jo3 (cR (out++[r]))) (.msl (S0.length+3) v 0 (L.length-1) (L.length+J.length) 1) x6 (j_ q) (j_ r) x10 x11 e_ x13 (left l []+1) [] s _ x9 x15 x16 A_ h9 (cN _ _) (I.get _ _ B_ m1);have fin:=fun f=>h7 f;have Y:=fun f S' x7 x8 x9 x12 x13 x14 x15 x16=>bDv N hI F x1 x6 k (L.eraseIdx q) J' v (out++[r]) jo3 f S' x7 x8 x9 x10 x11 x12 x13 x14 x15 x16 A_;rw[h4]at Y;rw[show L.length-1+J'.length=L.length+J.length by omega]at Y;rw[show((q+1:Nat):Int)=(q:Int)+1 by omega]at C;simp only[nI]at u s1;simp only[bI]at a1 s2 hS2;unfold e21 at l1 Y |-;refine fE t70L1.eq_1 ?_;rcases h6 with rfl|⟨rfl,m,G,A⟩;.simp(disch:=omega)only[go_sem,V,i1,u,s1,C,a1,i2,s2,hS2,e1,b1,b2,i3,s3,rg,aC];refine mQ (l1 _) ?_;rintro j e S' ⟨f,y9,D,H,Z,R,U⟩;dsimp only at Z R U;subst Z R;simp(disch:=omega)only[go_sem];refine cQ (Out.all_mono ?_ (Y f S' _ _ _ _ _ _ _ _ U (fin f) (by rw[H_,List.length_singleton];omega)));exact fun _ h=>h
  .simp(disch:=omega)only[go_sem,V,G,ha,aD A,i1,u,s1,C,a1,i2,s2,hS2,e1,b1,b2,i3,s3,rg,aC];refine mQ (l1 _) ?_;rintro j e S' ⟨f,y9,D,H,Z,R,U⟩;dsimp only at Z R U;subst Z R;simp(disch:=omega)only[go_sem];refine cQ (Out.all_mono ?_ (Y f S' _ _ _ _ _ _ _ _ U (fin f) (by rw[H_,List.length_singleton];omega)));exact fun _ h=>h
structure bLk (p:Pn) (out:List Nat):Prop where
 nd:out.Nodup
 all:∀t,t∈out↔32<=t/\t<p.n/\p.to t=t
theorem aMl(p:Pn)(i:Nat):(dI p i).Nodup:=(Q5.sublist (V3 _ _)).filter _
theorem aXk{p:Pn}{i t:Nat}:t∈dI p i↔i<=t/\t<p.n/\p.to t=t:=by
 unfold dI;rw[D1,U9];simp only[F8,P1,q_];constructor;.rintro⟨⟨q,b,rfl⟩,h⟩;exact⟨by omega,by omega,h⟩
 .rintro⟨a,c,h3⟩;exact⟨⟨t-i,by omega,by omega⟩,h3⟩
theorem bRo{S0:aA}{a:Ad}{p:Pn}{ρ d:Th_}(f:PT S0 a p)(hI:Inv p ρ d)(R:p.n<=500000)(h4:32<=p.n): ((lim K).call 70 [.ptr a.ip 106 0] S0).All fun r=>∃out jo,r.1=acc jo (cR out)/\bL [] S0 r.2/\bLk p out:=by
 have F:=f.blk;have T:=bL.app [] S0 [aG.cells 0 false (cF p.n fun _=>bI false)];have b2:=(f.keep T).blk;have w:=fun m=>aU1 (z:=.bool false) (m:=m) (bR (n:=p.n) (b:=1) A_);have s:=fun m=>aU1 (z:=.int .i64 0) (m:=m) (bR (n:=p.n) (b:=8) A_);have x:∀A:aG,(S0++[A]).length=S0.length+1:=fun A=>B_;have i:∀A B:aG,(S0++[A]++[B]).length=S0.length+2:=fun A B=>B_;have G:∀A B C:aG,(S0++[A]++[B]++[C])[S0.length+2]?=some C:=fun A B C=>by have:=cN (S0++[A]++[B]) C;rwa [i]at this
 have Q:∀A B C D:aG,(S0++[A]++[B]++[C]).set (S0.length+2) D=S0++[A]++[B]++[D]:=fun A B C D=>by rw[<-i A B];simp
 have V:Lf S0 (S0++[.cells 0 false (cF p.n fun _=>bI false)]++[.cells 0 false (cF p.n fun _=>vI 0)]++[.cells 27 false [.msl (S0.length+1) 0 0 p.n p.n 1]]) p.n [] (fun _=>0) k_ :=
  ⟨((bL.app [] S0 _).trans (bL.app [] _ _)).trans (bL.app [] _ _),by simp,⟨G _ _ _,by simp⟩,.inl ⟨rfl,rfl,by simp⟩⟩
 obtain⟨k,g,S1,lv,o,u,c⟩:=aJx f A_ k_ k_ u_ u_ u_ u_ u_ u_ u_ u_ (p.n-32) 32 [] (fun _=>0) _ _ u_ u_ A_ V B_;rw[show((32:Nat):Int)=32 from rfl]at u;rw[List.nil_append]at c;simp only[vI,bI]at u;have q:OF p (dI p 32) [] o:=⟨aMl _ _,Y4,fun t _=>B_,fun t=>by simp[aXk]⟩
 refine dJ K _ (fn:=t70) rfl rfl ?_;simp only[dQ]at F b2;simp only[bI]at b2;simp(disch:=omega)only[t70,go_sem,F,w,b2,s,x,i,G,Q];rw[u];rcases c.lst with⟨I,rfl,_⟩|⟨I,v,rfl,hL⟩
 .rw[I]at q;simp(disch:=omega)only[go_sem];have l2:lp' (lim K) t70L1 [.ptr a.ip 106 0,k_,k_,.msl S0.length 0 0 p.n p.n 1,.ptr (S0.length+2) 27 0,k_,j_ p.n,u_,u_,u_,k,g,u_,u_,u_,u_,u_] S1=.ret (.exit 2,[.ptr a.ip 106 0,k_,k_,.msl S0.length 0 0 p.n p.n 1,.ptr (S0.length+2) 27 0,k_,j_ p.n,u_,u_,u_,k,g,z_,u_,u_,u_,u_],S1):=by refine aE K _ _ t70L1.eq_1 ?_;simp(disch:=omega)only[go_sem]
  rw[l2];simp(disch:=omega)only[go_sem];exact bE ⟨[],0,rfl,c.keep,⟨Y4,fun t=>by rw[<-q.all t];simp⟩⟩
 .have hO:Odr S0 S1 p.n (dI p 32) [] v [] 0 o:=⟨c.keep,by simpa using c.gone,c.deg,by simpa using hL,At.nil,fun h=>absurd rfl h⟩
  have H:(dI p 32).length<=p.n:=by unfold dI;have U:=D8 (fun r=>decide (p.to r=r)) ((List.range p.n).drop 32);simp at U;omega
  have l2:=bDv f hI A_ k_ (j_ p.n) (dI p 32).length (dI p 32) [] v [] 0 o S1 u_ u_ u_ k g u_ u_ u_ u_ u_ rfl hO q (by simp;omega);unfold e21 at l2;rw[show acc 0 (cR [])=k_ from rfl,List.length_nil,Nat.add_zero]at l2;simp(disch:=omega)only[go_sem];refine dN l2 ?_;rintro j e S2 ⟨out,jo,h2,y5,y7,y8,y9,W,Y,P,N,Z,L,J,E,y⟩;dsimp only at L J E;subst L J;have l:∀j,mX j (acc jo (cR out))=acc jo (cR out):=fun j=>qH _ _ _;simp(disch:=omega)only[go_sem,l];exact bE ⟨out,jo,rfl,E,⟨y.ndO,fun t=>by rw[<-y.all t];simp⟩⟩
theorem go_exec_all{K:bD}{O:Orc}{c:aL}{env:Env}{S:aA}{P:aW×Env×aA->Prop}(h:(go' K O c [] env S).All P):(eV K O c env S).All P:=by
 unfold go' at h;simp only[go]at h;have a:=aKw h;have e:∀X:Out (aW×Env×aA),(X.bind fun r=>back K O [] r.1 r.2.1 r.2.2).All P->X.All P:=by
  intro X;induction X with
  |ret r=>exact id
  |fail s=>exact id
  |pick n k ih=>exact fun h i b=>ih i (h i b)
 exact e _ a
theorem bLl{K:bD}{i:Nat}{args:Tn_}{S S1:aA}{st:LoopState}{p p2:Option aW}{env env1 env2 e2:Env}{ps ps2:Tc_}{a b a2 b2:aL}{R:aA->Prop} (h:S[i]?=some (.lp st p env ps a b)) (k:qW env ps args=some env1) (l:go' K (lim K) a [] env1 S=.ret (.normal,env2,S1)) (g:S1[i]?=some (.lp .ready p2 e2 ps2 a2 b2)) (h3:(go' K (lim K) b [] env2 (S1.set i (.lp .busy p2 e2 ps2 a2 b2))).All fun r=>r.1=.normal/\∃st3 p3 e3 ps3 a3 b3,r.2.2[i]?=some (.lp st3 p3 e3 ps3 a3 b3)/\R (r.2.2.set i (.lp .ready none e3 ps3 a3 b3))): ((lim K).yld i args S).All fun r=>r.1=e_/\R r.2:=by refine aNq ?_;have m:=go_exec l;have e3:=go_exec_all h3;simp only[iA,h,k,m,Out.bind,g];refine aPb e3 ?_;rintro⟨j,e,S2⟩ ⟨c,st3,p3,e3,ps3,a3,b3,f,d⟩;dsimp only at c f d;subst c;simp only[f];exact⟨rfl,d⟩
theorem aMm{K:bD}{O:Orc}{i:Nat}{k:Kt}{M:To_}{n:Nat}{a:List Fr}{env:Env}{S:aA}{P:TV×aA->Prop}{R:aW×Env×aA->Prop}{X:Out (TV×aA)}(c:X.All P)(h:∀v S',P (v,S')->Out.All R (fL K O (.ret (v,S')) i k M n a env)):Out.All R (fL K O (aFe false S X) i k M n a env) :=
 bPa (P:=P) (aCv c fun v S' b=>by rw[aFh];exact b) h
inductive wG (p:Pn) (ρ:Nat->Nat):List Nat->(Nat->Int)->(Nat->Int)->Prop
 |nil (o:Nat->Int):wG p ρ [] o o
 |cons {r:Nat} {l:List Nat} {o o1 o':Nat->Int} (h:qR {p with out:=o} (bH p ρ r 32) o1) (g:wG p ρ l o1 o'):wG p ρ (r::l) o o'
def rfA:aL:=.region [⟨.mov (.loc 16),(some 6),none⟩]
def rfC:aL:=.block 5 (.draw [0,1,2] [(3,[0],[]),(4,[],[])] [⟨.load1 (.loc 3),none,none⟩,⟨.load1 (.loc 3),none,none⟩,⟨.mov (.loc 6),none,none⟩,⟨.call false false 68 [(.reg 1),(.reg 2)],none,none⟩,⟨.call false false 71 [(.reg 0),(.reg 3)],none,none⟩])
def e9(jp:Nat)(x0 x1 x2 x4 x5 x6 x7 x8 x9 x10 x11 x12 x13 x14 x15 x16:TV):List TV:=[x0,x1,x2,.ptr jp 102 0,x4,x5,x6,x7,x8,x9,x10,x11,x12,x13,x14,x15,x16]
theorem PT.busy{S:aA}{a:Ad}{p:Pn}(h:PT S a p){i:Nat}{st:LoopState}{q:Option aW}{e:Env}{ps:Tc_}{c b:aL}(d:S[i]?=some (.lp st q e ps c b))(f:aG):PT (S.set i f) a p :=
 h.setO d (by simp only[Ad.own,J_,D5,I4,H2];exact⟨bN d h.blk B_,bN d h.near B_,bN d h.own B_,bN d h.to B_,bN d h.out B_⟩) B_
theorem sS{p:Pn}{ρ:Th_}{r i m:Nat}:m∈bH p ρ r i↔i<=m/\m<p.n/\ρ m=r:=by
 unfold bH;rw[D1,U9];simp only[F8,P1,q_];constructor;.rintro⟨⟨q,b,rfl⟩,h⟩;exact⟨by omega,by omega,h⟩
 .rintro⟨a,c,h3⟩;exact⟨⟨m-i,by omega,by omega⟩,h3⟩
theorem aU8(p:Pn)(ρ:Th_)(r i:Nat):(bH p ρ r i).length<=p.n:=by unfold bH;have a:=D8 (fun m=>decide (ρ m=r)) ((List.range p.n).drop i);simp at a;omega
theorem bUd{S:aA}{a:Ad}{p:Pn}{ρ d:Th_}{o:Tg_}(Y:PT S a {p with out:=o})(U:Uf p ρ d)(h0:p.n<=500000)(J:32<=p.n){s jp jb:Nat}{B:aG}(x0 x2 x4 x5 x6 x7 x8 x9 x10 x11 x12 x13 x14 x15 x16:TV) (w:S[s]?=some (.lp .ready none (e9 jp x0 .hole x2 x4 x5 x6 x7 x8 x9 x10 x11 x12 x13 x14 x15 x16) [15,16] rfA rfC)) (W:S[jp]?=some (.cells 102 false [.ptr a.ip 106 0])) (H:jp∉a.own) (Z:S[jb]?=some B) (G:jb∉a.own) (I:∀es c,B≠.mp es c) (x:jb≠s) (i r:Nat): ((lim K).yld s [j_ i,j_ r] S).All fun q=>q.1=e_/\∃o',PT q.2 a {p with out:=o'}/\qR {p with out:=o} (bH p ρ r 32) o' /\q.2[s]?=some (.lp .ready none (e9 jp x0 .hole x2 x4 x5 x6 x7 x8 x9 x10 x11 x12 x13 x14 x15 x16) [15,16] rfA rfC)/\q.2[jp]?=some (.cells 102 false [.ptr a.ip 106 0])/\q.2[jb]?=some B:=by
 have k:=Y.busy w (.lp .busy none (e9 jp x0 .hole x2 x4 x5 x6 x7 x8 x9 x10 x11 x12 x13 x14 x15 x16) [15,16] rfA rfC);have A:s≠jp:=bN w W B_;have u:(S.set s (.lp .busy none (e9 jp x0 .hole x2 x4 x5 x6 x7 x8 x9 x10 x11 x12 x13 x14 x15 x16) [15,16] rfA rfC))[jp]?=some (.cells 102 false [.ptr a.ip 106 0]):=by rw[aB A];exact W
 have P:(S.set s (.lp .busy none (e9 jp x0 .hole x2 x4 x5 x6 x7 x8 x9 x10 x11 x12 x13 x14 x15 x16) [15,16] rfA rfC))[jb]?=some B:=by rw[aB (B0 x)];exact Z
 have y:(S.set s (.lp .busy none (e9 jp x0 .hole x2 x4 x5 x6 x7 x8 x9 x10 x11 x12 x13 x14 x15 x16) [15,16] rfA rfC))[s]?=some (.lp .busy none (e9 jp x0 .hole x2 x4 x5 x6 x7 x8 x9 x10 x11 x12 x13 x14 x15 x16) [15,16] rfA rfC):=aM (aN w) _;refine bLl (R:=fun S'=>∃o',PT S' a {p with out:=o'}/\qR {p with out:=o} (bH p ρ r 32) o'/\S'[s]?=some (.lp .ready none (e9 jp x0 .hole x2 x4 x5 x6 x7 x8 x9 x10 x11 x12 x13 x14 x15 x16) [15,16] rfA rfC)/\S'[jp]?=some (.cells 102 false [.ptr a.ip 106 0])/\S'[jb]?=some B) (st:=.ready) (p:=none) (args:=[j_ (i:Int),j_ (r:Int)]) (env:=e9 jp x0 .hole x2 x4 x5 x6 x7 x8 x9 x10 x11 x12 x13 x14 x15 x16) (env2:=e9 jp x0 .hole x2 x4 x5 (j_ r) x7 x8 x9 x10 x11 x12 x13 x14 (j_ i) (j_ r)) w (env1:=e9 jp x0 .hole x2 x4 x5 x6 x7 x8 x9 x10 x11 x12 x13 x14 (j_ i) (j_ r)) rfl ?_ w ?_;.unfold e9 rfA;simp(disch:=omega)only[go_sem]
 .generalize S.set s (.lp .busy none (e9 jp x0 .hole x2 x4 x5 x6 x7 x8 x9 x10 x11 x12 x13 x14 x15 x16) [15,16] rfA rfC)=S1 at *
  have L:Uf {p with out:=o} ρ d:=⟨U.up,U.fix⟩
  obtain⟨j,S2,E,t⟩:=bDo k L (by show p.n<=_;omega) J r;have N:=bRg (k.keep t) (vJ.acc j (bH {p with out:=o} ρ r 32)) (by have:=aU8 p ρ r 32;show(bH p ρ r 32).length<=_;omega) (fun m hm=>(sS.1 hm).2.1);have C:=t.get _ _ B_ u;have D:∀q,mX q (acc j (cR (bH {p with out:=o} ρ r 32)))=acc j (cR (bH {p with out:=o} ρ r 32)):=fun q=>qH _ _ _;have F:cA (acc j (cR (bH {p with out:=o} ρ r 32)))=false:=by unfold acc;split<;>rfl
  have key:∀r_1:aW×Env×aA,(∃o',PT r_1.2.2 a {p with out:=o'}/\KpG a S2 r_1.2.2/\qR {p with out:=o} (bH p ρ r 32) o')->r_1.1=.normal->r_1.1=aW.normal/\∃st3 p3 e3 ps3 a3 b3,r_1.2.2[s]?=some (.lp st3 p3 e3 ps3 a3 b3)/\∃o',PT (r_1.2.2.set s (.lp .ready none e3 ps3 a3 b3)) a {p with out:=o'}/\qR {p with out:=o} (bH p ρ r 32) o' /\
   (r_1.2.2.set s (.lp .ready none e3 ps3 a3 b3))[s]?=some (.lp .ready none (e9 jp x0 .hole x2 x4 x5 x6 x7 x8 x9 x10 x11 x12 x13 x14 x15 x16) [15,16] rfA rfC)/\(r_1.2.2.set s (.lp .ready none e3 ps3 a3 b3))[jp]?=some (.cells 102 false [.ptr a.ip 106 0])/\(r_1.2.2.set s (.lp .ready none e3 ps3 a3 b3))[jb]?=some B:=by
   rintro⟨j',e',S3⟩ ⟨o',z,g,h3⟩ V
   dsimp only at z g V |-
   have l:=g.get _ _ (t.get _ _ B_ y) (by have f:=t.get _ _ B_ y;have b:=k.keep t;simp only[Ad.own,J_,D5,I4,H2];exact⟨bN f b.blk B_,bN f b.near B_,bN f b.own B_,bN f b.to B_,bN f b.out B_⟩) B_
   refine⟨V,_,_,_,_,_,_,l,o',z.busy l _,h3,aM (aN l) _,?_,?_⟩
   .rw[aB A];exact g.get _ _ C H B_
   .rw[aB (B0 x)];exact g.get _ _ (t.get _ _ B_ P) G I
  refine Out.all_mono (Q:=fun q:aW×Env×aA=>(∃o',PT q.2.2 a {p with out:=o'}/\KpG a S2 q.2.2/\qR {p with out:=o} (bH p ρ r 32) o')/\q.1=.normal) (fun q h=>key q h.1 h.2) ?_;unfold e9 rfC;simp(disch:=omega)only[go_sem,u,E,C,D,F];refine aMm N ?_;rintro v S3 ⟨o',T,z,g,h3⟩;dsimp only at T z g;subst T;simp(disch:=omega)only[go_sem];exact bE ⟨⟨o',z,g,h3⟩,rfl⟩
theorem bDw{a:Ad}{p:Pn}{ρ d:Th_}(D:Uf p ρ d)(t:p.n<=500000)(l:32<=p.n){s jp jb jo:Nat}{out:Tc_}(u:out.length<=1000000)(i:jp∉a.own)(h:jb∉a.own)(g:jb≠s)(x0 x2 x4 x5 x6 x7 x8 x9 x10 x11 x12 x13 x14 x15 x16:TV): ∀(k:Nat) (o:Tg_) (S:aA) (f b:TV),k<=out.length->PT S a {p with out:=o}->S[s]?=some (.lp .ready none (e9 jp x0 .hole x2 x4 x5 x6 x7 x8 x9 x10 x11 x12 x13 x14 x15 x16) [15,16] rfA rfC)->S[jp]?=some (.cells 102 false [.ptr a.ip 106 0])->S[jb]?=some (.cells 27 false [acc jo (cR out)]) ->(lp' (lim K) t92L0 [.yld s,.ptr jb 27 0,j_ ((k:Int)-1),f,b] S).All fun q=>∃w z x o',q.1=.exit 0/\q.2.1=[.yld s,.ptr jb 27 0,w,z,x]/\PT q.2.2 a {p with out:=o'}/\wG p ρ (out.take k).reverse o o' /\q.2.2[s]?=some (.lp .ready none (e9 jp x0 .hole x2 x4 x5 x6 x7 x8 x9 x10 x11 x12 x13 x14 x15 x16) [15,16] rfA rfC)/\q.2.2[jp]?=some (.cells 102 false [.ptr a.ip 106 0])
 |0,o,S,f,b,hk,hP,hs,hp,hb=>by refine fE t92L0.eq_1 ?_;rw[show((0:Nat):Int)-1 = -1 from rfl];simp(disch:=omega)only[go_sem,P3];exact bE ⟨_,_,_,o,rfl,rfl,hP,.nil o,hs,hp⟩
 |k+1,o,S,f,b,hk,hP,hs,hp,hb=>by
  have c:k<out.length:=A_;have y:cR out≠[]:=by rw[Ne,bDn];intro e;rw[e]at c;simp at c
  have m:=hb;rw[lO _ y]at m;have I:=xL (j:=jo) c;have T:out.take (k+1)=out.take k++[out.getD k default]:=by rw[H0];simp[List.getD,D_ c]
  generalize out.getD k default=r at *
  have U:=bUd (x0:=x0) (x2:=x2) (x4:=x4) (x5:=x5) (x6:=x6) (x7:=x7) (x8:=x8) (x9:=x9) (x10:=x10) (x11:=x11) (x12:=x12) (x13:=x13) (x14:=x14) (x15:=x15) (x16:=x16) hP D t l hs hp i hb h B_ g k r;have V:=fun o' S' f b=>bDw (jo:=jo) D t l u i h g x0 x2 x4 x5 x6 x7 x8 x9 x10 x11 x12 x13 x14 x15 x16 k o' S' f b A_;have N:((k+1:Nat):Int)-1=(k:Int):=A_;rw[N];refine fE t92L0.eq_1 ?_;simp(disch:=omega)only[go_sem,P3,m,I];refine oX (cQ U) ?_;rintro v S1 ⟨C,Q,E,H,h3,F,A⟩;dsimp only at C E h3 F A;subst C;simp(disch:=omega)only[go_sem,aC];refine cQ (Out.all_mono ?_ (V Q S1 _ _ E h3 F A));rintro q ⟨w,z,x,o',R,e2,P,J,L,G⟩;refine⟨w,z,x,o',R,e2,P,?_,L,G⟩;rw[T,List.reverse_append,List.reverse_singleton,List.singleton_append];exact .cons H J
structure PI (p:Pn) (ρ:Nat->Nat) (D:List Nat) (o:Nat->Int):Prop where
 mach:∀m,m<32->o m=m
 low:∀m,32<=m->m<p.n->ρ m<32->o m=(ρ m:Nat)
 don:∀m,32<=m->m<p.n->32<=ρ m->ρ m∈D->o m = -1\/1<=o m/\o m<=24
 un:∀m,32<=m->m<p.n->32<=ρ m->ρ m∉D->o m=0
 edge:∀x y,x<p.n->y<p.n->p.own x y=true->o x=o y->o x<=0
 spill:∀m,32<=m->m<p.n->o m = -1->∀d:Nat,1<=d->d<=24->∃t,t<p.n/\p.own m t=true/\o t=d
structure Own (p:Pn):Prop where
 sym:∀r s,p.own r s=true->p.own s r=true
 irr:∀r,p.own r r=false
 vt:∀r s,p.own r s=true->vtx p.n r
theorem PI.one{p:Pn}{ρ:Th_}(E:Own p){o:Tg_}{m:Nat}(N:m<p.n)(I:o m=0){v:Int}(u:aDr {p with out:=o} [m] v) (k:∀x y,x<p.n->y<p.n->p.own x y=true->o x=o y->o x<=0) (g:∀m,32<=m->m<p.n->o m = -1->∀d:Nat,1<=d->d<=24->∃t,t<p.n/\p.own m t=true/\o t=d): (∀x y,x<p.n->y<p.n->p.own x y=true->upd o m v x=upd o m v y->upd o m v x<=0)/\(∀w,32<=w->w<p.n->upd o m v w = -1->∀d:Nat,1<=d->d<=24->∃t,t<p.n/\p.own w t=true/\upd o m v t=d)/\(v = -1\/1<=v/\v<=24):=by
 have h:∀(t:Nat) (d:Nat),1<=d->o t=d->upd o m v t=d:=fun t d J i=>by rw[dB _ _ (fun e=>by rw[e,I]at i;omega)];exact i
 rcases u with⟨rfl,u⟩|⟨d,rfl,H,G,u⟩
 .refine⟨fun x y A z a f=>?_,fun w D l c d b j=>?_,.inl rfl⟩
  .by_cases e:x=m;.rw[e,bU];decide
   .rw[dB _ _ e]at f |-;by_cases e2:y=m;.rw[e2,bU]at f;omega
    .rw[dB _ _ e2]at f;exact k x y A z a f
  .by_cases e:w=m;.subst e;obtain⟨L,r,t,i,h3,q,_⟩:=u d b j;simp at r;subst r;exact⟨t,i,h3,h t d b q⟩
   .rw[dB _ _ e]at c;obtain⟨t,i,h3,q⟩:=g w D l c d b j;exact⟨t,i,h3,h t d b q⟩
 .have s:∀t,t<p.n->p.own m t=true->o t≠d:=fun t i h3 q=>u m B_ ⟨t,i,h3,q,H,G⟩;refine⟨fun x y A z a f=>?_,fun w D l c F b j=>?_,.inr ⟨by omega,by omega⟩⟩
  .by_cases e:x=m
   .have C:y≠m:=fun e2=>by rw[e,e2,E.irr]at a;cases a
    rw[e,bU,dB _ _ C]at f;rw[e]at a;exact absurd f.symm (s y z a)
   .rw[dB _ _ e]at f |-;by_cases e2:y=m;.rw[e2,bU]at f;rw[e2]at a;exact absurd f (s x A (E.sym _ _ a))
    .rw[dB _ _ e2]at f;exact k x y A z a f
  .have e:w≠m:=fun e=>by rw[e,bU]at c;omega
   rw[dB _ _ e]at c;obtain⟨t,i,h3,q⟩:=g w D l c F b j;exact⟨t,i,h3,h t F b q⟩
theorem PI.seq{p:Pn}(r:Own p):∀ {l:Tc_} {o o':Tg_},zI p l o o'->l.Nodup->(∀m∈l,m<p.n/\o m=0) ->(∀x y,x<p.n->y<p.n->p.own x y=true->o x=o y->o x<=0)->(∀m,32<=m->m<p.n->o m = -1->∀d:Nat,1<=d->d<=24->∃t,t<p.n/\p.own m t=true/\o t=d) ->(∀x y,x<p.n->y<p.n->p.own x y=true->o' x=o' y->o' x<=0)/\(∀m,32<=m->m<p.n->o' m = -1->∀d:Nat,1<=d->d<=24->∃t,t<p.n/\p.own m t=true/\o' t=d)/\(∀m∈l,o' m = -1\/1<=o' m/\o' m<=24)/\∀m,m∉l->o' m=o m:=by
 intro l o o' h;induction h with
 |nil o=>exact fun _ _ i f=>⟨i,f,by simp,fun _ _=>rfl⟩
 |@cons m l o o' v hv g ih =>
  intro a j i f;rw[C8]at a;obtain⟨s,u⟩:=j m B_;obtain⟨z,e2,e3⟩:=PI.one (ρ:=fun x=>x) r s u hv i f;obtain⟨C,A,q,k⟩:=ih a.2 (fun w b=>⟨(j w (by simp[b])).1,by rw[dB _ _ (fun e=>a.1 (by rw[<-e];exact b))];exact(j w (by simp[b])).2⟩) z e2;refine⟨C,A,fun w b=>?_,fun w b=>?_⟩
  .rcases J_.1 b with rfl|c;.rw[k w a.1,bU];exact e3
   .exact q w c
  .simp only[J_,H2]at b;rw[k w b.2,dB _ _ b.1]
theorem aXl(p:Pn)(ρ:Th_)(r i:Nat):(bH p ρ r i).Nodup:=(Q5.sublist (V3 _ _)).filter _
theorem PI.step{p:Pn}{ρ d:Th_}(hI:Inv p ρ d)(hO:Own p){l:Tc_}(hl:bLk p l){T D:Tc_}{r:Nat}(E:l=T.reverse++r::D){o P:Tg_}(h:PI p ρ D o)(hs:qR {p with out:=o} (bH p ρ r 32) P):PI p ρ (r::D) P:=by
 have F:=hl.nd;rw[E,H9,C8]at F;obtain⟨_,⟨W,_⟩,h8⟩:=F;obtain⟨I,Y,V⟩:=(hl.all r).1 (by rw[E];simp);have h7:=hI.uf.fix r Y V;have s:∀m,m∈bH p ρ r 32↔32<=m/\m<p.n/\ρ m=r:=fun m=>sS;have h0:∀m,m∈bH p ρ r 32->o m=0:=fun m f=>by obtain⟨i,j,h3⟩:=(s m).1 f;exact h.un m i j (by rw[h3];exact I) (by rw[h3];exact W)
 rcases hs with⟨c,Q,N,G,C⟩|⟨h6,L⟩
 .have v:∀m,m∈bH p ρ r 32->P m=c:=fun m f=>by rw[C m,K_ f]
  have g:∀m,m∉bH p ρ r 32->P m=o m:=fun m f=>by rw[C m,I_ f]
  have q:∀m,m<32->m∉bH p ρ r 32:=fun m f i=>by have:=((s m).1 i).1;omega
  have J:∀t (k:Nat),1<=k->o t=k->P t=k:=fun t k hk U=>by rw[g t (fun f=>by rw[h0 t f]at U;omega)];exact U
  refine⟨fun m f=>?_,fun m i j h3=>?_,fun m i j h3 u=>?_,fun m i j h3 u=>?_,fun x y hx hy w A=>?_,fun m i j h3 k H Z=>?_⟩;.rw[g m (q m f)];exact h.mach m f
  .rw[g m (fun f=>by have:=((s m).1 f).2.2;omega)];exact h.low m i j h3
  .by_cases e:ρ m=r;.rw[v m ((s m).2 ⟨i,j,e⟩)];right;omega
   .rw[g m (fun f=>e ((s m).1 f).2.2)];exact h.don m i j h3 (by rcases J_.1 u with z|z;exact absurd z e;exact z)
  .simp only[J_,H2]at u;rw[g m (fun f=>u.1 ((s m).1 f).2.2)];exact h.un m i j h3 u.2
  .by_cases e1:x∈bH p ρ r 32
   .by_cases e2:y∈bH p ρ r 32;.have:=hI.img x y hx hy w;rw[((s x).1 e1).2.2,((s y).1 e2).2.2,hI.irr r]at this;cases this
    .rw[v x e1,g y e2]at A;exact absurd ⟨y,hy,w,A.symm,Q,N⟩ (G x e1)
   .by_cases e2:y∈bH p ρ r 32;.rw[g x e1,v y e2]at A;exact absurd ⟨x,hx,hO.sym _ _ w,A,Q,N⟩ (G y e2)
    .rw[g x e1]at A |-;rw[g y e2]at A;exact h.edge x y hx hy w A
  .have f:m∉bH p ρ r 32:=fun f=>by rw[v m f]at h3;omega
   rw[g m f]at h3;obtain⟨t,U,g1,g2⟩:=h.spill m i j h3 k H Z;exact⟨t,U,g1,J t k H g2⟩
 .obtain⟨f1,f2,f3,R⟩:=PI.seq hO (p:=p) (by have key:∀ {l:Tc_} {a b:Tg_},zI {p with out:=o} l a b->zI p l a b:=fun h=>h.re;exact key L) (aXl p ρ r 32) (fun m f=>⟨((s m).1 f).2.1,h0 m f⟩) h.edge h.spill;have q:∀m,m<32->m∉bH p ρ r 32:=fun m f i=>by have:=((s m).1 i).1;omega
  refine⟨fun m f=>?_,fun m i j h3=>?_,fun m i j h3 u=>?_,fun m i j h3 u=>?_,f1,f2⟩;.rw[R m (q m f)];exact h.mach m f
  .rw[R m (fun f=>by have:=((s m).1 f).2.2;omega)];exact h.low m i j h3
  .by_cases e:ρ m=r;.exact f3 m ((s m).2 ⟨i,j,e⟩)
   .rw[R m (fun f=>e ((s m).1 f).2.2)];exact h.don m i j h3 (by rcases J_.1 u with z|z;exact absurd z e;exact z)
  .simp only[J_,H2]at u;rw[R m (fun f=>u.1 ((s m).1 f).2.2)];exact h.un m i j h3 u.2
theorem PI.all{p:Pn}{ρ d:Th_}(f:Inv p ρ d)(i:Own p){l:Tc_}(c:bLk p l):∀ {T:Tc_} {o o':Tg_},wG p ρ T o o'->∀D,l=T.reverse++D->PI p ρ D o->PI p ρ l o':=by
 intro T o o' h;induction h with
 |nil o=>intro D a b;rw[a];exact b
 |@cons r T o o1 o' hs g ih =>
  intro D a b;have e:l=T.reverse++r::D:=by rw[a];simp
  exact ih (r::D) e (b.step f i c e hs)
def vK(r:Int)(p:Int×Int):Bool:=decide (p.1<1)||(decide (p.2<1)||(decide (r<=p.1)||(decide (r<=p.2)||(p.1==p.2))))
theorem aG9(env:Env)(S:aA)(p:Int×Int):bP env S (.iv (.cp (iM p))) 2=some [j_ p.1,j_ p.2]:=rfl
set_option maxHeartbeats 4000000 in
theorem bDx(r:Int)(t1:Tag)(E:Tb_)(t2:Tag)(M:Tb_)(p:Int×Int):(lim K).call 85 [.iv (.agg [.int .i64 p.1,.int .i64 p.2]),.ptr 0 69 0] [.cells 69 false (qQ r t1 E t2 M)]=.ret (.iv (.bool (vK r p)),[.cells 69 false (qQ r t1 E t2 M)]):=by
 refine aI K _ (fn:=t85) rfl rfl ?_;simp(disch:=omega)only[t85,go_sem,qQ];repeat' (first|(first|refine aLc (fun h=>?_) (fun h=>?_)|refine aLd (fun h=>?_) (fun h=>?_)|refine aLe (fun h=>?_) (fun h=>?_)|refine aSq (fun h=>?_) (fun h=>?_))|simp(disch:=omega)only[go_sem])
 all_goals (congr 4;simp[vK, *])
theorem aU9(t:Tag)(l:Tb_)(A:l.length<=1000000)(f:Nat)(cap:Tn_)(q:Int×Int->Bool)(S:aA)(b:([TV.iv (.agg [.int .i64 0,.int .i64 0])]++cap).all kM=false)(c:cap.any cA=false) (z:∀p:Int×Int,p∈l->(lim K).call f ([]++[.iv (.agg [.int .i64 p.1,.int .i64 p.2])]++cap) S=.ret (.iv (.bool (q p)),S)) (s:TV):∀(k i:Nat) (r x6 x7:TV),i+k=l.length ->∃y n o g j,0<=y/\lp' (lim K) t118L0 [.iv (.sl t (l.map iM)),.fn f [] cap,s,r,j_ l.length,j_ i,x6,x7] S=.ret (if(l.drop i).any q then(.ret,[.iv (.sl t (l.map iM)),.fn f [] cap,j_ y,n,j_ l.length,o,g,j],S)else(.exit 0,[.iv (.sl t (l.map iM)),.fn f [] cap,s,n,j_ l.length,o,g,j],S))
 |0,i,r,x6,x7,h=>by obtain rfl:i=l.length:=A_;have e:(l.drop l.length).any q=false:=B_;refine⟨0,?_,?_,?_,?_,by omega,aE K _ _ t118L0.eq_1 ?_⟩;rotate_left 4;.simp(disch:=omega)only[go_sem,e];rfl
 |k+1,i,r,x6,x7,h=>by
  have x:l.drop i=l.getD i default::l.drop (i+1):=by rw[A6 A_];simp[List.getD,D_ (show i<l.length by omega)]
  have u:=gC (w:=2) (f:=iM) (fun _=>rfl) (t:=t) (l:=l) (i:=(i:Int)) A_;rw[Int.toNat_natCast]at u;have v:=aU9 t l A f cap q S b c z s k (i+1);have a:=z (l.getD i default) (by simp only[List.getD,D_ (show i<l.length by omega),Option.getD_some];exact B8 _);have m:([]++[TV.iv (.agg [.int .i64 (l.getD i default).1,.int .i64 (l.getD i default).2])]++cap).all kM=false:=by simpa[kM] using b
  have d:([]++[TV.iv (.agg [.int .i64 (l.getD i default).1,.int .i64 (l.getD i default).2])]++cap).any cA=false:=by simpa[cA] using c
  generalize l.getD i default=p at *
  cases hp:q p
  .obtain⟨y,n,o,g,j,C,v⟩:=v (j_ i) e_ z_ A_;refine⟨y,n,o,g,j,C,aE K _ _ t118L0.eq_1 ?_⟩;rw[hp]at a;have e:(l.drop i).any q=(l.drop (i+1)).any q:=by rw[x,List.any_cons,hp,G7]
   rw[e];simp only[List.nil_append,List.cons_append]at m d a;simp(disch:=omega)only[go_sem,u,aG9,aC,m,d,a];exact X_ er v
  .refine⟨i,?_,?_,?_,?_,by omega,aE K _ _ t118L0.eq_1 ?_⟩;rotate_left 4
   .rw[hp]at a;have e:(l.drop i).any q=true:=by rw[x,List.any_cons,hp,G2]
    rw[e];simp only[List.nil_append,List.cons_append]at m d a;simp(disch:=omega)only[go_sem,u,aG9,aC,m,d,a];rfl
theorem bLm(t:Tag)(l:Tb_)(g:l.length<=1000000)(f:Nat)(cap:Tn_)(q:Int×Int->Bool)(S:aA)(a:([TV.iv (.agg [.int .i64 0,.int .i64 0])]++cap).all kM=false)(b:cap.any cA=false) (d:∀p:Int×Int,p∈l->(lim K).call f ([]++[.iv (.agg [.int .i64 p.1,.int .i64 p.2])]++cap) S=.ret (.iv (.bool (q p)),S)): ∃y:Int,(0<=y↔l.any q=true)/\(lim K).call 118 [.iv (.sl t (l.map iM)),.fn f [] cap] S=.ret (j_ y,S):=by
 obtain⟨y,h,k,j,i,c,e⟩:=aU9 t l g f cap q S a b d (j_ 0) l.length 0 u_ u_ u_ A_;rw[n0_,C4]at e;cases ha:l.any q
 .refine⟨-1,by simp,aI K _ (fn:=t118) rfl rfl ?_⟩;rw[ha]at e;simp only[b_,↓reduceIte]at e;simp(disch:=omega)only[t118,go_sem,L_,e]
 .refine⟨y,by simp[c],aI K _ (fn:=t118) rfl rfl ?_⟩;rw[ha]at e;simp only[↓reduceIte]at e;simp(disch:=omega)only[t118,go_sem,L_,e]
theorem bDy(t:Tag)(l:Tb_)(d:l.length<=1000000)(f:Nat)(cap:Tn_)(q:Int×Int->Bool)(S:aA)(a:([TV.iv (.agg [.int .i64 0,.int .i64 0])]++cap).all kM=false)(c:cap.any cA=false) (g:∀p:Int×Int,p∈l->(lim K).call f ([]++[.iv (.agg [.int .i64 p.1,.int .i64 p.2])]++cap) S=.ret (.iv (.bool (q p)),S)): (lim K).call 86 [.iv (.sl t (l.map iM)),.fn f [] cap] S=.ret (.iv (.bool (l.any q)),S):=by
 obtain⟨y,b,e⟩:=bLm t l d f cap q S a c g;refine aI K _ (fn:=t86) rfl rfl ?_;simp(disch:=omega)only[t86,go_sem,e];congr 4;cases ha:l.any q
 .rw[ha]at b;simp at b |-;omega
 .rw[ha]at b;simp at b |-;omega
def may(r:Int)(E M:List (Int×Int)):Bool:=decide (32<=r)&&(!(E.any (vK r))&&!(M.any (vK r)))
theorem bRp(r:Int)(t1:Tag)(E:Tb_)(t2:Tag)(M:Tb_)(d:E.length<=1000000)(c:M.length<=1000000):Pure K 65 [.iv (gv r t1 E t2 M)] (.iv (.bool (may r E M))):=by
 have a:=bDy t1 E d 85 [.ptr 0 69 0] (vK r) [.cells 69 false (qQ r t1 E t2 M)] rfl rfl (fun p _=>bDx r t1 E t2 M p);have b:=bDy t2 M c 85 [.ptr 0 69 0] (vK r) [.cells 69 false (qQ r t1 E t2 M)] rfl rfl (fun p _=>bDx r t1 E t2 M p);refine aT t65 rfl rfl ?_;simp only[qQ]at a b;simp(disch:=omega)only[t65,go_sem,gv,a,b];repeat' (first|(first|refine aLc (fun h=>?_) (fun h=>?_)|refine aLd (fun h=>?_) (fun h=>?_)|refine aLe (fun h=>?_) (fun h=>?_)|refine aSq (fun h=>?_) (fun h=>?_))|simp(disch:=omega)only[go_sem,a,b])
 all_goals (simp[may, *])
theorem aVa{a:Ad}{lv:TV}{l:Tc_}(d:vJ lv l)(A:l.length<=1000000)(jp:Nat)(g:jp∉a.own)(r:Nat)(x0 u x2 x6 x7 x8 x9 x14 x15 x16:TV): ∀(k i:Nat) (p:Pn) (S:aA) (x5 x13:TV),i+k=l.length->(∀m∈l,m<p.n)->PT S a p->S[jp]?=some (.cells 102 false [.ptr a.ip 106 0]) ->∃z f S' b,lp' (lim K) t36L0 (e9 jp x0 u x2 (j_ r) x5 x6 x7 x8 x9 lv (j_ l.length) (j_ i) x13 x14 x15 x16) S = .ret (.exit 2,e9 jp x0 u x2 (j_ r) z x6 x7 x8 x9 lv (j_ l.length) (j_ l.length) f x14 x15 x16,S')/\PT S' a {p with out:=b}/\S'[jp]?=some (.cells 102 false [.ptr a.ip 106 0])/\∀m,b m=if m∈l.drop i then(r:Int)else p.out m
 |0,i,p,S,x5,x13,h,hln,hP,hp=>by
  obtain rfl:i=l.length:=A_;refine⟨x5,z_,S,p.out,?_,hP,hp,fun m=>by rw[E0];simp⟩;unfold e9;refine aE K _ _ t36L0.eq_1 ?_;rcases d with⟨t,rfl⟩|⟨j,rfl⟩;.simp(disch:=omega)only[go_sem]
  .simp(disch:=omega)only[go_sem]
 |k+1,i,p,S,x5,x13,h,hln,hP,hp=>by
  have c:i<l.length:=A_;have D:l.drop i=l.getD i default::l.drop (i+1):=by rw[A6 c];simp[List.getD,D_ c]
  have s:=fun t=>uQ (t:=t) c;have E:=fun j=>xL (j:=j) c;have G:l.getD i default<p.n:=hln _ (pV c);generalize l.getD i default=w at *
  have y:=hP.setOut w r;have x:=hP.blk;have b2:=hP.out;have F:=fS (j:=a.ju) (v:=0) G;have C:=lC (fun r=>vI (p.out r)) (vI r) G;simp only[dQ]at x;have q:(S.set a.ju (.cells 0 false (cF p.n (upd (fun r=>vI (p.out r)) w (vI r)))))[jp]?=some (.cells 102 false [.ptr a.ip 106 0]):=by rw[aB (fun e=>g (by rw[<-e];simp[Ad.own]))];exact hp
  obtain⟨z,f,S',b,o,I,H,h3⟩:=aVa d A jp g r x0 u x2 x6 x7 x8 x9 x14 x15 x16 k (i+1) {p with out:=upd p.out w r} _ (j_ w) e_ A_ hln y q;rw[show((i+1:Nat):Int)=(i:Int)+1 by omega]at o;simp only[vI]at b2 C o;refine⟨z,f,S',b,?_,I,H,fun m=>?_⟩
  .unfold e9 at o |-;refine aE K _ _ t36L0.eq_1 ?_;rcases d with⟨t,rfl⟩|⟨j,rfl⟩;.simp(disch:=omega)only[go_sem,hp,s,x,b2,F,C,aC];exact X_ er o
   .simp(disch:=omega)only[go_sem,hp,E,x,b2,F,C,aC];exact X_ er o
  .rw[h3 m,D];simp only[J_];by_cases e:m∈l.drop (i+1);.rw[K_ e,K_ (.inr e)]
   .rw[I_ e];by_cases e2:m=w;.subst e2;rw[bU,K_ (.inl rfl)]
    .rw[dB _ _ e2,I_ (by simp[e,e2])]
def O0(p:Pn)(ρ:Nat->Nat)(i:Nat)(o:Nat->Int):Prop:=∀m,o m=if m<32 then(if m<i then(m:Int)else 0)else if m<p.n/\ρ m<i then((ρ m:Nat):Int)else 0
theorem bDz{a:Ad}{p:Pn}{ρ d:Th_}(L:Inv p ρ d)(R:p.n<=500000)(z:32<=p.n)(jp:Nat)(l:jp∉a.own)(x0 D x2 x6 x7 x14 x15 x16:TV): ∀(k i:Nat) (o:Tg_) (S:aA) (x4 x5 x9 x10 x11 x12 x13:TV),i+k=32->PT S a {p with out:=o}->S[jp]?=some (.cells 102 false [.ptr a.ip 106 0])->O0 p ρ i o ->∃Q P T w f t u S' o',lp' (lim K) t36L1 (e9 jp x0 D x2 x4 x5 x6 x7 (j_ i) x9 x10 x11 x12 x13 x14 x15 x16) S = .ret (.exit 0,e9 jp x0 D x2 Q P x6 x7 (j_ 32) T w f t u x14 x15 x16,S')/\PT S' a {p with out:=o'}/\S'[jp]?=some (.cells 102 false [.ptr a.ip 106 0])/\O0 p ρ 32 o'
 |0,i,o,S,x4,x5,x9,x10,x11,x12,x13,h,hP,hp,ho=>by obtain rfl:i=32:=A_;refine⟨x4,x5,z_,x10,x11,x12,x13,S,o,?_,hP,hp,ho⟩;unfold e9;refine aE K _ _ t36L1.eq_1 ?_;rw[show((32:Nat):Int)=32 from rfl];simp(disch:=omega)only[go_sem]
 |k+1,i,o,S,x4,x5,x9,x10,x11,x12,x13,h,hP,hp,ho=>by
  have A:i<p.n:=A_;have C:=hP.setOut i i;have b1:=hP.blk;have b2:=hP.out;have i1:=fS (j:=a.ju) (v:=0) A;have s1:=lC (fun r=>vI (o r)) (vI i) A;simp only[dQ]at b1;have c:(S.set a.ju (.cells 0 false (cF p.n (upd (fun r=>vI (o r)) i (vI i)))))[jp]?=some (.cells 102 false [.ptr a.ip 106 0]):=by rw[aB (fun e=>l (by rw[<-e];simp[Ad.own]))];exact hp
  have N:Uf {p with out:=upd o i i} ρ d:=⟨L.uf.up,L.uf.fix⟩
  obtain⟨j,S2,F,Z⟩:=bDo C N (by show p.n<=_;omega) z i;have Y:=Z.get _ _ B_ c;have h0:=aU8 p ρ i 32;obtain⟨P,u,S3,o3,U,h1,h2,h3⟩:=aVa (vJ.acc j (bH p ρ i 32)) A_ jp l i x0 D x2 x6 x7 (j_ i) e_ x14 x15 x16 (bH p ρ i 32).length 0 {p with out:=upd o i i} S2 x5 x13 A_ (fun m hm=>(sS.1 hm).2.1) (C.keep Z) Y;rw[n0_]at U;rw[C4]at h3;have V:O0 p ρ (i+1) o3:=by
   intro m;rw[h3 m];by_cases e:m∈bH p ρ i 32;.obtain⟨s,y,G⟩:=sS.1 e;rw[K_ e,I_ A_,K_ ⟨y,by omega⟩,G]
   .rw[I_ e];show upd o i (i:Int) m=_;by_cases e2:m=i;.subst e2;rw[bU,K_ A_,K_ A_]
    .rw[dB _ _ e2,ho m];by_cases e3:m<32
     .rw[K_ e3,K_ e3];by_cases e4:m<i;.rw[K_ e4,K_ A_]
      .rw[I_ e4,I_ A_]
     .rw[I_ e3,I_ e3];have e5:(m<p.n/\ρ m<i)↔(m<p.n/\ρ m<i+1):=by
       constructor;.rintro⟨s,y⟩;exact⟨s,by omega⟩
       .rintro⟨s,y⟩;refine⟨s,?_⟩;have:ρ m≠i:=fun x=>e (sS.2 ⟨by omega,s,x⟩);omega
      by_cases x:m<p.n/\ρ m<i;.rw[K_ x,K_ (e5.1 x)]
      .rw[I_ x,I_ (fun g=>x (e5.2 g))]
  obtain⟨Q,z5,T,w,f,t,J,S',o',W,s,y,G⟩:=bDz L R z jp l x0 D x2 x6 x7 x14 x15 x16 k (i+1) o3 S3 (j_ i) P e_ (acc j (cR (bH p ρ i 32))) (.iv (.int .i64 (bH p ρ i 32).length)) (.iv (.int .i64 (bH p ρ i 32).length)) u A_ h1 h2 V;rw[show((i+1:Nat):Int)=(i:Int)+1 by omega]at W;refine⟨Q,z5,T,w,f,t,J,S',o',?_,s,y,G⟩;have E:∀q,mX q (acc j (cR (bH p ρ i 32)))=acc j (cR (bH p ρ i 32)):=fun q=>qH _ _ _;have H:cA (acc j (cR (bH p ρ i 32)))=false:=by unfold acc;split<;>rfl
  have I:∀S,rZ .sl S (acc j (cR (bH p ρ i 32)))=some (.iv (.int .i64 (bH p ρ i 32).length)):=fun S=>by rw[aFm,iT]
  have b:(lim K).call 68 [.ptr a.ip 106 0,j_ i] (S.set a.ju (.cells 0 false (cF p.n (upd (fun r=>vI (o r)) i (vI i)))))=.ret (acc j (cR (bH p ρ i 32)),S2):=F;simp only[vI]at b2 s1 c b;unfold e9 at U W |-;refine aE K _ _ t36L1.eq_1 ?_;simp(disch:=omega)only[go_sem,hp,b1,b2,i1,s1,c,b,E,H,I,aC];rw[U];simp(disch:=omega)only[go_sem,aC];exact X_ er W
structure bUe (n:Nat) (tE:Tag) (E:List (Int×Int)) (tM:Tag) (M:List (Int×Int)) (o:Nat->Int):Prop where
 mach:∀m,m<32->o m=m
 virt:∀m,32<=m->m<n->o m = -1\/1<=o m/\o m<=24
 edge:∀x y,x<n->y<n->wF E x y=true->o x=o y->o x = -1
 spill:∀m,32<=m->m<n->o m = -1->∀d:Nat,1<=d->d<=24->∃t,t<n/\wF E m t=true/\o t=d
theorem sT{K:bD}{O:Orc}{n:Nat}{env:Env}{b:List Fr}{rs:List mU}{P R:TV×aA->Prop}{X:Out (TV×aA)}(d:X.All P)(h:∀v S,P (v,S)->(jT rs (rfR K O n env b (.ret (v,S)))).All R):(jT rs (rfR K O n env b X)).All R:=by
 have e:∀Y:Out (TV×aA),Y.All P->(fin rs ((er Y).bind fun r=>rfB K O n env b r.2 (r.2[n]?))).All R:=by
  intro Y;induction Y with
  |ret r=>intro a;have:=h r.1 r.2 a;unfold jT rfR at this;exact this
  |fail s=>intro a;exact a.elim
  |pick m q ih=>intro a j c;exact ih j (a j c)
 unfold jT rfR;exact e X d
theorem bD0{S:aA}{j v n:Nat}{o:Tg_}(h:S[j]?=some (.cells v false (cF n fun r=>vI (o r)))):cH S (.msl j v 0 n n 1)=some (TM.one (.int .i64) ((List.range n).map o)):=by
 have c:sub (cF n fun r=>vI (o r)) 0 (n*1)=some (cF n fun r=>vI (o r)):=mC (by simp[aC5]);have e2:toIVs (cF n fun r=>vI (o r))=some ((List.range n).map fun r=>IV.int .i64 (o r)):=by
  have:(cF n fun r=>vI (o r))=((List.range n).map fun r=>IV.int .i64 (o r)).map .iv:=by rw[M3];rfl
  rw[this,fM]
 have e3:∀l:List Nat,cP 1 l.length (l.map fun r=>IV.int .i64 (o r))=TM.one (.int .i64) (l.map o):=by
  intro l;induction l with
  |nil=>rfl
  |cons a r ih=>simp only[Q_,List.length_cons,cP,List.take_succ_cons,List.take_zero,J5,C4,ih];rfl
 have b:=e3 (List.range n);rw[F8]at b;simp only[cH,h,ne_eq,C9,↓reduceIte,c,e2,Option.map_some,b]
theorem bD1{r:Int}{E M:Tb_}(h:may r E M=true):∃n:Nat,r=n/\32<=n/\aXi n E/\OkM n M:=by
 unfold may at h;simp only[P_,q_,D7]at h;obtain⟨d,c,h3⟩:=h;refine⟨r.toNat,by omega,by omega,fun e a=>?_,fun m b=>?_⟩;.have:=t_.1 c e a;simp[vK]at this;exact⟨e.1.toNat,e.2.toNat,by omega,by omega,by omega,by omega,by omega⟩
 .have:=t_.1 h3 m b;simp[vK]at this;exact⟨m.1.toNat,m.2.toNat,by omega,by omega,⟨by omega,by omega⟩,⟨by omega,by omega⟩⟩
theorem bRq{a:Ad}{p:Pn}{ρ d:Th_}(y:Uf p ρ d)(f:p.n<=500000)(l:32<=p.n){s jp jb jo:Nat}{out:Tc_}(c:out.length<=1000000)(k:jp∉a.own)(i:jb∉a.own)(h:jb≠s)(x0 x2 x4 x5 x6 x7 x8 x9 x10 x11 x12 x13 x14 x15 x16:TV)(o:Tg_)(S:aA)(x:PT S a {p with out:=o})(z:S[s]?=some (.lp .ready none (e9 jp x0 .hole x2 x4 x5 x6 x7 x8 x9 x10 x11 x12 x13 x14 x15 x16) [15,16] rfA rfC))(A:S[jp]?=some (.cells 102 false [.ptr a.ip 106 0]))(r:S[jb]?=some (.cells 27 false [acc jo (cR out)])): ((lim K).call 92 [.yld s,.ptr jb 27 0] S).All fun q=>q.1=u_/\∃o',PT q.2 a {p with out:=o'}/\wG p ρ out.reverse o o' /\q.2[s]?=some (.lp .ready none (e9 jp x0 .hole x2 x4 x5 x6 x7 x8 x9 x10 x11 x12 x13 x14 x15 x16) [15,16] rfA rfC)/\q.2[jp]?=some (.cells 102 false [.ptr a.ip 106 0]):=by
 have C:=bDw (jo:=jo) y f l c k i h x0 x2 x4 x5 x6 x7 x8 x9 x10 x11 x12 x13 x14 x15 x16 out.length o S u_ u_ (O_ _) x z A r;have g:∀S,rZ .sl S (acc jo (cR out))=some (j_ out.length):=fun S=>by rw[aFm,iT]
 have b:∀q,mX q (acc jo (cR out))=acc jo (cR out):=fun q=>qH _ _ _;refine dJ K _ (fn:=t92) rfl rfl ?_;simp(disch:=omega)only[t92,go_sem,r,g,b,aC];refine dN C ?_;rintro j e S1 ⟨E,F,D,o',w,e2,v,t,u,m⟩;dsimp only at w e2 v u m;subst w e2;rw[B9]at t;simp(disch:=omega)only[go_sem];exact bE ⟨rfl,o',v,t,u,m⟩
def bV3(r:Int)(tE:Tag)(E:List (Int×Int))(tM:Tag)(M:List (Int×Int))(v:TV):Prop :=
 (may r E M=false/\v=.iv (.sl .nil []))\/(may r E M=true/\∃(n:Nat) (o:Nat->Int),r=n/\32<=n/\v=.iv (.sl .no (TM.one (.int .i64) ((List.range n).map o)))/\bUe n tE E tM M o)
theorem bLn{n:Nat}{tE:Tag}{E:Tb_}{tM:Tag}{M:Tb_}(k:aXi n E){to:Th_}{near:Ti_}{ρ d:Th_}(j:Inv {pn0 n tE E tM M with to:=to,near:=near} ρ d) {l:Tc_} (H:bLk {pn0 n tE E tM M with to:=to,near:=near} l) {p o':Tg_} (R:O0 {pn0 n tE E tM M with to:=to,near:=near} ρ 32 p) (L:wG {pn0 n tE E tM M with to:=to,near:=near} ρ l.reverse p o'):bUe n tE E tM M o':=by
 have Q:Own {pn0 n tE E tM M with to:=to,near:=near}:=⟨fun r s h=>by rw[<-h];exact aMj E s r,fun r=>by
  cases h:({pn0 n tE E tM M with to:=to,near:=near}:Pn).own r r with
  |false=>rfl
  |true=>exact absurd rfl (uP k h).1,fun r s h=>(uP k h).2.1⟩
 have P:∀m,m<n->m<32->ρ m=m:=fun m u F=>j.uf.fix m u (j.mach m u F);have t:∀m,p m=if m<32 then(m:Int)else if m<n/\ρ m<32 then((ρ m:Nat):Int)else 0:=fun m=>by
  rw[R m];by_cases e:m<32;.rw[K_ e,K_ e,K_ e]
  .rw[I_ e,I_ e];rfl
 have A:PI {pn0 n tE E tM M with to:=to,near:=near} ρ [] p:=by
  refine⟨fun m u=>by rw[t,K_ u],fun m b a h3=>by rw[t,I_ A_,K_ ⟨a,h3⟩],fun m b a h3 G=>(by cases G),fun m b a h3 G=>by rw[t,I_ A_,I_ A_],fun x y g v f I=>?_,fun m b a h3=>?_⟩
  .have J:=j.img x y g v f;have D:x<n:=g;have C:y<n:=v;have key:∀z,z<n->0<p z->p z=(ρ z:Nat):=fun z N h=>by
    rw[t]at h |-;by_cases e:z<32;.rw[K_ e,P z N e]
    .rw[I_ e]at h |-;by_cases e2:z<n/\ρ z<32;.rw[K_ e2]
     .rw[I_ e2]at h;omega
   apply J7;intro q;have b:=key x D A_;have a:=key y C A_;have:ρ x=ρ y:=A_;rw[this,j.irr]at J;cases J
  .rw[t,I_ A_]at h3;split at h3<;>omega
 have i:=PI.all j Q H L [] B_ A;have c:∀m,32<=m->m<n->32<=ρ m->ρ m∈l:=fun m b a h3=>by have:=j.rt (r:=m) a;exact(H.all _).2 ⟨h3,this.1,this.2⟩
 refine⟨i.mach,fun m b a=>?_,fun x y g v f I=>?_,i.spill⟩
 .by_cases e:ρ m<32;.right;rw[i.low m b a e];have:=(j.low m a ⟨a,.inr b⟩).2;omega
  .exact i.don m b a A_ (c m b a A_)
 .have q:=i.edge x y g v f I;obtain⟨_,w,_,_⟩:=uP k f;rcases w.2 with h|h;.rw[i.mach x A_]at q;omega
  .by_cases e:ρ x<32;.have:=i.low x h g e;have:=(j.low x g ⟨g,.inr h⟩).2;omega
   .rcases i.don x h g A_ (c x h g A_)with b|b;.exact b
    .omega
theorem PT.lt{S:aA}{a:Ad}{p:Pn}(h:PT S a p):∀i∈a.own,i<S.length:=by
 intro i b;simp only[Ad.own,J_,D5,I4]at b;rcases b with rfl|rfl|rfl|rfl|rfl;.exact aN h.blk
 .exact aN h.near
 .exact aN h.own
 .exact aN h.to
 .exact aN h.out
theorem bD2(S:aA)(b a:aG):(S++[b]).set S.length a=S++[a]:=B_
theorem bRr(r:Int)(tE:Tag)(E:Tb_)(tM:Tag)(M:Tb_)(hr:r<=100000)(hE:E.length<=1000000)(hM:M.length<=1000000):fP K 36 [.iv (gv r tE E tM M)] (bV3 r tE E tM M):=by
 have c:=bRp r tE E tM M hE hM;unfold fP;refine dJ K _ (fn:=t36) rfl rfl ?_;cases hm:may r E M with
 |false =>rw[hm]at c;unfold gv at c |-;simp(disch:=omega)only[t36,go_sem,aD c];exact bE ⟨_,rfl,.inl ⟨hm,rfl⟩⟩
 |true =>
  rw[hm]at c;obtain⟨n,rfl,f,t,G⟩:=bD1 hm;have hn:n<=100000:=A_;obtain⟨S1,a,w,J⟩:=bRf (tE:=tE) (tM:=tM) (M:=M) (n:=n) A_ f hE t;have Z:=J.lt;have k:S1.length∉a.own:=fun h=>by have:=Z _ h;omega
  have h4:=J.keep (bL.app [] S1 [aG.cells 102 false [.ptr a.ip 106 0]]);have N:=cN S1 (aG.cells 102 false [.ptr a.ip 106 0]);have h5:=cN S1 (aG.cells 102 false [.iv .nilp]);have h1:=bD2 S1 (aG.cells 102 false [.iv .nilp]) (aG.cells 102 false [.ptr a.ip 106 0]);have h8:=bRc h4 (inv0 (tE:=tE) (tM:=tM) (M:=M) t) (by show n<=_;omega) hM G;generalize hS2:S1++[aG.cells 102 false [.ptr a.ip 106 0]]=S2 at *
  have hf:S1.length<S2.length:=by rw[<-hS2];simp
  unfold gv at c w |-;simp(disch:=omega)only[t36,go_sem,aD c,w,h5,h1,hS2,N];refine fI h8 ?_;rintro v S3 ⟨i,nm,to,near,ρ,d,k3,H,e,_,_⟩;dsimp only at i k3 H;subst i;have hb:=k3.get _ _ N k B_;obtain⟨y4,y5,y9,hc,R,h6,h7,S4,o1,T,L,C,W⟩:=bDz (a:={a with nm:=nm}) (p:={pn0 n tE E tM M with to:=to,near:=near}) e (by show n<=_;omega) f S1.length k (.iv (.agg [.int .i64 n,.sl tE (E.map iM),.sl tM (M.map iM)])) (.lb [j_ n,.iv (.sl tE (E.map iM)),.iv (.sl tM (M.map iM))]) k_ u_ z_ u_ u_ u_ 32 0 (fun _=>0) S3 u_ u_ u_ u_ u_ u_ u_ A_ H hb (fun m=>B_);rw[n0_]at T;unfold e9 at T;have U:=bRo L ⟨⟨e.uf.up,e.uf.fix⟩,e.sym,e.irr,e.root,e.img,e.mach,e.low⟩ (by show n<=_;omega) f;simp(disch:=omega)only[go_sem];rw[T];simp(disch:=omega)only[go_sem,C];refine fI U ?_;rintro v S5 ⟨l,jo,i,k5,P⟩;dsimp only at i k5;subst i;have u:∀q,mX q (acc jo (cR l))=acc jo (cR l):=fun q=>qH _ _ _;have z:cA (acc jo (cR l))=false:=by unfold acc;split<;>rfl
  have V:(lim K).call 69 [acc jo (cR l)] S5=.ret (.fn 92 [] [.ptr S5.length 27 0],S5++[.cells 27 false [acc jo (cR l)]]):=by refine aI K _ (fn:=t69) rfl rfl ?_;simp(disch:=omega)only[t69,go_sem,u,z]
  simp(disch:=omega)only[go_sem,u,z,V];have F:=L.keep k5;have I:=F.lt;have k6:=(bL.app [] S5 [aG.cells 27 false [acc jo (cR l)]])
  have hd:=cN S5 (aG.cells 27 false [acc jo (cR l)]);generalize hS6:S5++[aG.cells 27 false [acc jo (cR l)]]=S6 at *
  have he:S6.length=S5.length+1:=by rw[<-hS6];simp
  have k7:=bL.app [] S6 [aG.lp LoopState.ready none (e9 S1.length (.iv (.agg [.int .i64 n,.sl tE (E.map iM),.sl tM (M.map iM)])) .hole k_ (noLb y4) (noLb y5) u_ z_ (j_ 32) (noLb y9) (noLb hc) (noLb R) (noLb h6) (noLb h7) (.fn 92 [] [.ptr S5.length 27 0]) u_ u_) [15,16] rfA rfC];have ha:l.length<=1000000:=by have h2:=aG7 P.nd (Q5.filter fun x=>decide (x∈l)) (fun x=>by rw[D1,C5];simp only[q_];exact⟨fun h=>⟨((P.all x).1 h).2.1,h⟩,fun h=>h.2⟩) (m:=(List.range n).filter fun x=>decide (x∈l));have h3:=D8 (fun x=>decide (x∈l)) (List.range n);simp only[F8]at h3;omega
  have A:=bRq (a:={a with nm:=nm}) (p:={pn0 n tE E tM M with to:=to,near:=near}) (jo:=jo) e.uf (by show n<=_;omega) f (s:=S6.length) (jp:=S1.length) (jb:=S5.length) ha k (fun h=>by have:=I _ h;omega) A_ _ _ _ _ _ _ _ _ _ _ _ _ _ _ _ o1 _ ((F.keep k6).keep k7) (cN _ _) (k7.get _ _ B_ (k6.get _ _ B_ (k5.get _ _ B_ C))) (k7.get _ _ B_ hd);unfold e9 rfA rfC at A;refine sT A ?_;rintro v S8 ⟨i,o',D,Q,g,j⟩;dsimp only at i D g j;subst i;have h9:S6.length≠S1.length:=bN g j B_;have y:=fun b=>D.busy g b;have b1:=fun b=>(y b).blk;have Y:=fun b:aG=>(aB h9 b).trans j;have h0:=fun b=>bD0 (y b).out;simp only[dQ]at b1;simp(disch:=omega)only[go_sem,g,Y,b1];refine bE ⟨_,?_,.inr ⟨hm,n,o',rfl,f,rfl,bLn t e ⟨P.nd,P.all⟩ W Q⟩⟩;show TM.resolve _ (.msl a.ju 0 0 n n 1)=_;rw[aBp,show cH _ (.msl a.ju 0 0 n n 1)=_ from h0 _];rfl
theorem aJz{rg:Int}{ins:List VI}(d:ins.any (qM rg ins)=false){i:Nat}(e:i<ins.length){r:Int}(b:r∈bS (ins.getD i default)):0<=r/\r<rg:=by
 have a:=t_.1 d (ins.getD i default) (by simp only[List.getD,D_ e,Option.getD_some];exact B8 _);generalize ins.getD i default=x at *
 unfold qM at a;have c:(bS x).any (nE rg)=false:=by
  cases h:(bS x).any (nE rg)with
  |false=>rfl
  |true=>rw[h]at a;simp at a
 have h3:=t_.1 c r b;unfold nE at h3;simp only[q_]at h3;omega
theorem bV4{rg:Int}{ins:List VI}(b:ins.any (qM rg ins)=false){i:Nat}(c:i<ins.length):0<=(ins.getD i default).a/\(ins.getD i default).a<rg:=aJz b c (by unfold bS;simp)
theorem bUf{rg:Int}{ins:List VI}(a:ins.any (qM rg ins)=false){i:Nat}(b:i<ins.length)(h:(ins.getD i default).op≠67\/0<=(ins.getD i default).d):0<=(ins.getD i default).d/\(ins.getD i default).d<rg:=aJz a b (by unfold bS;rw[K_ h];simp)
theorem bLo{rg:Int}(e:32<=rg){ins:List VI}(g:ins.any (qM rg ins)=false){i:Nat}(j:i<ins.length):∀d∈aY (ins.getD i default),1<=d/\d<rg:=by
 intro d b;have c:=bUf g j;generalize ins.getD i default=x at *
 unfold aY at b;split at b;.rename_i h;obtain⟨a,f⟩:=((jM _).mem d).1 b;rw[U_]at a;subst a;have:=c (.inl A_);omega
 .split at b
  .obtain⟨a,f⟩:=((jM _).mem d).1 b;rw[a_]at a;rcases a with a|a;.unfold dP at a;obtain⟨n,k,rfl⟩:=A0.1 a;rw[C5]at k;omega
   .simp only[J_,D5,I4]at a;rcases a with rfl|rfl;.omega
    .have:=c (.inr A_);omega
  .cases b
structure aDs (Q:List VI) (n:Nat) (o:Nat->Int):Prop where
 mach:∀m,m<32->o m=m
 virt:∀m,32<=m->m<n->o m = -1\/1<=o m/\o m<=24
 edge:∀x y:Nat,x<n->y<n->aFz Q x y->o x=o y->o x = -1
 spill:∀m,32<=m->m<n->o m = -1->∀d:Nat,1<=d->d<=24->∃t:Nat,aFz Q m t/\o t=d
theorem aXm{Q:List VI}{O:Te_}{rg:Int}(h:∀i,i<Q.length->∀x,x∈wlI 0 (O i)↔1<=x/\x<rg/\zB Q x i){x y:Int}:oZ Q (fun i=>wlI 0 (O i)) (prP x y)->aFz Q x y:=by
 rintro⟨i,e,d,f,r,a,c,b,g⟩;refine⟨i,e,d,r,f,?_,c,b,g⟩;rcases a_.1 a with a|a;.exact .inr ((h i e r).1 a).2.2
 .exact .inl a
theorem aXn{Q:List VI}{O:Te_}{rg:Int}(m:∀i,i<Q.length->∀x,x∈wlI 0 (O i)↔1<=x/\x<rg/\zB Q x i){x y:Int}(g:1<=x/\x<rg)(f:1<=y/\y<rg)(h:aFz Q x y):oZ Q (fun i=>wlI 0 (O i)) (prP x y):=by
 obtain⟨i,k,d,r,l,a,c,b,j⟩:=h;refine⟨i,k,d,l,r,?_,c,b,j⟩;rcases a with a|a;.exact G0 _ a
 .refine G4 _ ((m i k r).2 ?_);rcases aDi.1 j with⟨_,e⟩|⟨e,_⟩;.rw[<-e];exact⟨f.1,f.2,by rw[e];exact a⟩
  .rw[<-e];exact⟨g.1,g.2,by rw[e];exact a⟩
theorem aMn{r:Int}{L:Tb_}(h:∀p∈L,InP r p):L.any (vK r)=false:=by rw[t_];intro p a;have:=h p a;unfold InP at this;unfold vK;simp;omega
theorem bV5{Q:List VI}{n:Nat}(h8:32<=n)(hn:n<=1000){O:Te_}(R:∀i,i<Q.length->∀x,x∈wlI 0 (O i)↔1<=x/\x<n/\zB Q x i){E M:Tb_}(C:nF (oZ Q fun i=>wlI 0 (O i)) E)(H:nF (sL Q) M)(l:∀p,oZ Q (fun i=>wlI 0 (O i)) p->InP n p)(s:∀p,sL Q p->InP n p)(tE tM:Tag): fP K 36 [.iv (.agg [.int .i64 n,.sl tE (aAr E),.sl tM (aAr M)])] fun v=>∃o:Nat->Int,v=.iv (.sl .no (TM.one (.int .i64) ((List.range n).map o)))/\aDs Q n o:=by
 have c:=bRr n tE E tM M A_ (xJ (rg:=n) A_ C.inc fun p g=>l p ((C.mem p).1 g)) (xJ (rg:=n) A_ H.inc fun p g=>s p ((H.mem p).1 g));refine fP.mono c ?_;have j:may n E M=true:=by unfold may;rw[V_ A_,aMn fun p g=>l p ((C.mem p).1 g),aMn fun p g=>s p ((H.mem p).1 g)];rfl
 obtain⟨_,_,_,J,_⟩:=bD1 j;rintro v (⟨h,_⟩|⟨_,F,o,h6,_,rfl,f⟩);.rw[j]at h;cases h
 obtain rfl:F=n:=A_;refine⟨o,rfl,f.mach,f.virt,fun x y N L P q=>?_,fun m k G h3 d V U=>?_⟩
 .have h7:(x:Int)≠y:=by obtain⟨i,_,d,w,_,_,h0,_,g⟩:=P;rcases aDi.1 g with⟨A,e2⟩|⟨A,e2⟩<;>omega
  have r:∀z:Nat,z<F->¬(1<=z/\z<=24\/32<=z)->z<32/\o z=z/\(z=0\/25<=z):=fun z W h=>⟨by omega,f.mach z A_,by omega⟩
  by_cases hcx:1<=x/\x<=24\/32<=x
  .by_cases hcy:1<=y/\y<=24\/32<=y
   .refine f.edge x y N L ?_ q;have I:=aXn (rg:=F) R (x:=x) (y:=y) A_ A_ P;have u:=(C.mem _).2 I;refine E8.2 ⟨_,u,?_⟩;unfold aJs prP;have D:∀z:Nat,(1<=z/\z<=24\/32<=z)->isV z=true:=fun z W=>by
     have k:(1<=(z:Int)/\(z:Int)<=24)\/32<=(z:Int):=A_;unfold isV kG;rcases k with⟨k,G⟩|k;.rw[V_ k,V_ G];rfl
     .rw[V_ k,L9]
    split;.rw[D x hcx,D y hcy];simp
    .rw[D x hcx,D y hcy];simp
   .obtain⟨a,b,c⟩:=r y L hcy;rw[b]at q;by_cases h:x<32;.rw[f.mach x h]at q;omega
    .have:=f.virt x A_ N;omega
  .obtain⟨a,b,c⟩:=r x N hcx;rw[b]at q;by_cases h:y<32;.rw[f.mach y h]at q;omega
   .have:=f.virt y A_ L;omega
 .obtain⟨t,_,ha,Z⟩:=f.spill m k G h3 d V U;refine⟨t,aXm (rg:=F) R ?_,Z⟩;obtain⟨_,_,_,e,q,hh⟩:=uP J ha;have T:=(C.mem e).1 q;have Y:=l e T;unfold InP at Y;have:e=prP m t:=by
   unfold prP;rcases hh with⟨A,e2⟩|⟨A,e2⟩;.rw[K_ A_,<-A,<-e2]
   .rw[I_ A_,<-A,<-e2]
  rw[<-this];exact T
end Go.Proofs.YtehlgnfhkidgoaaGreatDoor
