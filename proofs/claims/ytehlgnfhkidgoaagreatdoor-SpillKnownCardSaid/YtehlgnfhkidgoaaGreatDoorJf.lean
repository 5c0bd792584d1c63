/- Some texts of the proof, joined. Condition: none. -/
import Derived.Test.YtehlgnfhkidgoaaGreatDoorJe
set_option linter.unusedSectionVars false
set_option maxRecDepth 100000
set_option maxHeartbeats 64000000
set_option linter.unusedSimpArgs false
set_option linter.unusedVariables false
namespace Go.Proofs.YtehlgnfhkidgoaaGreatDoor
open Go Go.TM
theorem mF.del{S:aA}{i n:Nat}{f:Tj_}{l:Td_}{c:Nat}(e:S[i]?=some (.mp (mpR vI l) c))(d:gB l c)(g:∀t:Int,cB l t=true↔∃s:Nat,t=s/\s<n/\f s=true)(k:Nat): mF (S.set i (.mp (mpR vI (xE l k)) c)) i n (fun s=>decide (s≠k)&&f s):=by
 refine⟨_,_,aM (aN e) _,d.del k,fun t=>?_⟩;rw[aPl d.keys,O_,g t];constructor
 .rintro⟨h,s,rfl,b,a⟩;refine⟨s,rfl,b,?_⟩;have:s≠k:=by have:=I6 h;omega
  simp[this,a]
 .rintro⟨s,rfl,b,a⟩;simp only[O_,p_]at a;exact⟨by have:=a.1;simp;omega,s,rfl,b,a.2⟩
theorem bDi{a:Ad}{p:Pn}(T:p.n<=1000000000){x y:Nat}(P:x<p.n)(hy:y<p.n)(u:x≠y)(G:p.near y x=false)(W:p.near y y=false){bi c:Nat}{l:Td_}(Z:gB l c)(hf:∀t:Int,cB l t=true↔∃s:Nat,t=s/\s<p.n/\p.near y s=true): ∀(k:Nat) (b:Tc_) (D:Tj_) (S:aA) (x3 x5:TV),left l b<k->(∀z∈l,z.1∈b->D z.2.1.toNat=true)->(∀s,D s=true->p.near y s=true)->PT S a {p with near:=sW p.near x y D}->S[bi]?=some (.mit (some (a.nm y)) c b c)->S[a.nm y]?=some (.mp (mpR vI l) c) ->(lp' (lim K) t91L0 [.ptr a.ip 106 0,j_ x,j_ y,x3,.it bi,x5] S).All fun r=>∃y3 y5,KpX [bi] S r.2.2 /\r.2.1=[.ptr a.ip 106 0,j_ x,j_ y,y3,.it bi,y5]/\r.1=.exit 0/\PT r.2.2 a {p with near:=sW p.near x y (p.near y)}
 |0,b,D,S,x3,x5,hk,hD1,hD2,hP,hb,hm=>A_
 |k+1,b,D,S,x3,x5,hk,hD1,hD2,hP,hb,hm=>by
  refine fC t91L0.eq_1 ?_;simp(disch:=omega)only[go_sem];refine jJ hb hm Z.born (L_ _) (fun V=>?_) (fun z C A=>?_)
  .simp(disch:=omega)only[go_sem];refine bG ⟨_,_,.refl _ _,rfl,rfl,hP.congr fun r s hr A=>?_⟩;have L:∀t,t<p.n->D t=p.near y t:=by
    intro t J;cases hn:p.near y t with
    |true =>obtain⟨z,C,hg⟩:=r_.1 (oP.1 ((aDq hf J).trans hn));have:=hD1 z C (V z C);rwa [hg,Int.toNat_natCast]at this
    |false =>
     cases hd:D t with
     |false=>rfl
     |true=>rw[hD2 t hd]at hn;cases hn
   show sW p.near x y D r s=sW p.near x y (p.near y) r s;unfold sW;rw[L r hr,L s A]
  .have hv:=vJ C A;have h8:bi≠a.nm y:=bO hb hm B_;have g:=hP.setIt hb (.mit (some (a.nm y)) c (b++[z.1]) c);have o:(S.set bi (.mit (some (a.nm y)) c (b++[z.1]) c))[bi]?=_:=aM (aN hb) _;have Q:(S.set bi (.mit (some (a.nm y)) c (b++[z.1]) c))[a.nm y]?=some (.mp (mpR vI l) c):=by rw[aB h8];exact hm
   have he:=aAq o Q C Z.once;have h4:KpX [bi] S (S.set bi (.mit (some (a.nm y)) c (b++[z.1]) c)):=KpX.keep (bL.set (I:=[bi]) _ B_ _) B_;generalize S.set bi (.mit (some (a.nm y)) c (b++[z.1]) c)=S1 at *
   obtain⟨t,J,d,f⟩:=wK hf C;have Y:t≠x:=fun e=>by rw[e,G]at f;cases f
   have U:t≠y:=fun e=>by rw[e,W]at f;cases f
   obtain⟨lt,ct,m,h9,hp⟩:=g.nmap t d;have h7:=mF.del m h9 hp y;have E:=g.setN d h7;have N:a.nm t≠a.nm y:=fun e=>U (hP.ninj _ _ d hy e);have F:bi≠a.nm t:=bO o m B_;have hj:bL [a.nm t] S1 (S1.set (a.nm t) (.mp (mpR vI (xE lt y)) ct)):=bL.set _ B_ _;have hq:=fun env=>bTv m env (y:Int);obtain⟨S3,ha,h3,q⟩:=bDf E T (x:=x) (y:=t) P d (B0 Y);have h5:=aXf p.near D u Y U f (fun s=>decide (s≠y)&&sW p.near x y D t s) (fun _=>rfl);have hh:PT S3 a {p with near:=sW p.near x y (upd D t true)}:=by have:=h3;simp only[h5]at this;exact this
   have hl:a.nm x≠a.nm y:=fun e=>u (hP.ninj _ _ P hy e);have hc:S3[bi]?=some (.mit (some (a.nm y)) c (b++[z.1]) c):=q.get _ _ (by obtain⟨lx,cx,h,_⟩:=g.nmap x P;simp only[J_,D1,H2,G6];exact⟨bO o h B_,F⟩) (by rw[aB (B0 F)];exact o);have h6:S3[a.nm y]?=some (.mp (mpR vI l) c):=q.get _ _ (by simp[B0 hl,B0 N]) (by rw[aB N];exact Q);have h0:KpX [bi] S1 S3:=(KpX.keep hj (fun i H=>by simp only[J_,D1,H2]at H;subst H;exact .inr ⟨_,_,m⟩)).trans (KpX.keep q (fun i H=>by
    simp only[J_,D1,H2]at H;right;rcases H with rfl|rfl;.obtain⟨lx,cx,h,_⟩:=E.nmap x P;exact⟨_,_,h⟩
    .obtain⟨lx,cx,h,_⟩:=E.nmap t d;exact⟨_,_,h⟩))
   have ih:=bDi T P hy u G W Z hf k (b++[z.1]) (upd D t true) S3 (j_ t) e_ A_ (fun w hw hu=>by
    unfold upd;split;.rfl
    .rename_i e;rcases U_.1 hu with R|R;.exact hD1 w hw R
     .have:w=z:=aMg Z.once hw C (by simpa using R);rw[this,J,Int.toNat_natCast]at e;exact absurd rfl e) (fun s A=>by
    unfold upd at A;split at A;.rename_i e;rw[e];exact f
    .exact hD2 s A) hh hc h6
   have b1:=g.blk;have b2:=g.near;have i1:=fR (j:=a.jn) (v:=a.vn) d;have s1:=dO (fun r=>TV.map (a.nm r)) d;simp only[dL]at b1;rw[J]at he;rw[J];simp(disch:=omega)only[go_sem,he,b1,b2,i1,s1,hq,ha];refine cP (Out.all_mono ?_ ih);rintro r ⟨y3,y5,k1,e1,R,h2⟩;exact⟨y3,y5,h4.trans (h0.trans k1),e1,R,h2⟩
def aAx(f:Nat->Nat->Bool)(x y:Nat):Nat->Nat->Bool:=upd (sW f x y (f y)) y fun _=>false
def oC(p:Pn)(x y:Nat):Pn:={p with to:=upd p.to y x,near:=aAx p.near x y}
theorem bRm{S:aA}{a:Ad}{p:Pn}(h:PT S a p)(t:p.n<=1000000000){x y:Nat}(U:x<p.n)(f:y<p.n)(u:x≠y)(s:p.near y x=false)(w:p.near y y=false): ((lim K).call 91 [.ptr a.ip 106 0,j_ x,j_ y] S).All fun r=>∃nm,r.1=u_/\KpG a S r.2/\PT r.2 {a with nm:=nm} (oC p x y):=by
 have d:=h.setTo y x;have F:=h.blk;have b2:=h.to;have W:=fR (j:=a.jt) (v:=a.vt) f;have N:=lF (fun r=>nI (p.to r)) (nI x) f;have k:KpX a.own S (S.set a.jt (.cells a.vt true (cF p.n (upd (fun r=>nI (p.to r)) y (nI x))))):=KpX.keep (bL.set (I:=[a.jt]) _ B_ _) (by simp[Ad.own]);obtain⟨l,c,i,A,m⟩:=d.nmap y f;have b3:=d.blk;have b4:=d.near;have L:=fR (j:=a.jn) (v:=a.vn) f;have Z:=dO (fun r=>TV.map (a.nm r)) f;have G:=kG i;refine dG K _ (fn:=t91) rfl rfl ?_;simp only[dL]at F b3;simp only[nI]at N b2 d i b3 b4 G k;generalize hS1:S.set a.jt (.cells a.vt true (cF p.n (upd (fun r=>TV.iv (.int .i64 (p.to r))) y (j_ x))))=S1 at *
 have E:=bL.app [] S1 [aG.mit (some (a.nm y)) c [] c];have o:=d.keep E;have V:=bDi (p:={p with to:=upd p.to y x}) t U f u s w A m (left l []+1) [] (fun _=>false) (S1++[.mit (some (a.nm y)) c [] c]) u_ u_ A_ B_ B_ (by rw[aXe];exact o) (cM _ _) (E.get _ _ B_ i);simp(disch:=omega)only[t91,go_sem,F,b2,W,N,hS1,b3,b4,L,Z,G];refine dJ V ?_;rintro j e S2 ⟨y3,y5,P,C,H,b⟩;dsimp only at C H P b;subst C H;have z:=b.newN y f;have g:=b.keep (bL.app [] S2 [aG.mp [] 0]);have D:=g.blk;have R:=g.near;have Q:=b.blk;have T:=b.near;have Y:=lF (fun r=>TV.map (a.nm r)) (.map S2.length) f;simp only[dL]at D Q;simp(disch:=omega)only[go_sem,D,R,Q,T,L,Y];refine bG ⟨_,rfl,?_,z⟩;have q:KpX a.own S1 S2:=(KpX.mono (J:=S1.length::a.own) P B_).new;exact((k.trans q).trans ((KpX.keep (bL.app [] S2 [aG.mp [] 0]) B_).trans (KpX.keep (bL.set (I:=[a.jn]) _ B_ _) (by simp[Ad.own])))).toG
def vtx(n r:Nat):Prop:=r<n/\(1<=r/\r<=24\/32<=r)
structure Inv (p:Pn) (ρ d:Nat->Nat):Prop where
 uf:Uf p ρ d
 sym:∀r s,r<p.n->s<p.n->p.near r s=true->p.near s r=true
 irr:∀r,p.near r r=false
 root:∀r s,r<p.n->s<p.n->p.near r s=true->p.to r=r/\vtx p.n r
 img:∀r s,r<p.n->s<p.n->p.own r s=true->p.near (ρ r) (ρ s)=true
 mach:∀r,r<p.n->r<32->p.to r=r
 low:∀r,r<p.n->vtx p.n r->vtx p.n (ρ r)
theorem aJp(f:Ti_)(x y s:Nat):aAx f x y y s=false:=by simp[aAx,upd]
theorem oD(f:Ti_){x y:Nat}{r:Nat}(s:Nat)(b:r≠y)(a:s≠y):aAx f x y r s=(f r s||(decide (r=x)&&f y s)||(decide (s=x)&&f y r)):=by simp[aAx,upd,b,sW,a]
theorem bDj{f:Ti_}{x y:Nat}{r:Nat}(b:r≠y)(a:f r y=true->f y r=true):aAx f x y r y=false:=by
 simp only[aAx,upd,b,I5,sW,N6];cases h:f r y with
 |false=>rfl
 |true=>simp[a h]
theorem Inv.rt{p:Pn}{ρ d:Th_}(h:Inv p ρ d){r:Nat}(a:r<p.n):ρ r<p.n/\p.to (ρ r)=ρ r:=h.uf.root (d r+1) r A_ a
theorem Inv.nsym{p:Pn}{ρ d:Th_}(h:Inv p ρ d){r s:Nat}(c:r<p.n)(b:s<p.n)(a:p.near r s=false):p.near s r=false:=by
 cases e:p.near s r with
 |false=>rfl
 |true=>rw[h.sym s r b c e]at a;cases a
theorem bDk{p:Pn}{ρ d:Th_}(h:Inv p ρ d){x y:Nat}(w:x<p.n)(k:y<p.n)(g:x≠y)(E:32<=y)(H:p.near x y=false)(q:p.to x=x)(v:p.to y=y)(o:vtx p.n x): Inv (oC p x y) (fun r=>if ρ r=y then x else ρ r) (fun r=>if ρ r=y then d r+d x+1 else d r):=by
 have z:=h.nsym w k H;have t:=h.uf.fix x w q;have C:=h.uf.fix y k v;have m:∀r,r<p.n->r≠y->aAx p.near x y r y=false:=fun r b D=>bDj D (h.sym r y b k);refine⟨⟨fun r b j=>?_,fun r b l=>?_⟩,fun r s b f a=>?_,fun r=>?_,fun r s b f a=>?_,fun r s b f a=>?_,fun r b u=>?_,fun r b F=>?_⟩
 .simp only[oC]at j b |-;by_cases e:r=y;.subst e;simp only[bU,t,C,g,I5,N6];exact⟨w,trivial,by omega⟩
  .simp only[cZ _ _ e]at j |-;obtain⟨c,i,I⟩:=h.uf.up r b j;rw[i];refine⟨c,rfl,?_⟩;split<;>omega
 .simp only[oC]at l b |-;have e:r≠y:=fun e=>by rw[e,bU]at l;exact g l
  rw[cZ _ _ e]at l;rw[h.uf.fix r b l,I_ e]
 .simp only[oC]at a b f |-;by_cases e:r=y;.rw[e,aJp]at a;cases a
  by_cases e2:s=y;.rw[e2,m r b e]at a;cases a
  rw[oD _ _ e e2]at a;rw[oD _ _ e2 e];simp only[D3,O_,p_]at a |-;rcases a with(c|⟨c,i⟩)|⟨c,i⟩;.exact .inl (.inl (h.sym r s b f c))
  .exact .inr ⟨c,i⟩
  .exact .inl (.inr ⟨c,i⟩)
 .simp only[oC];by_cases e:r=y;.rw[e,aJp]
  .rw[oD _ _ e e,h.irr r];by_cases e2:r=x;.simp[e2,z]
   .simp[e2]
 .simp only[oC]at a b f |-;by_cases e:r=y;.rw[e,aJp]at a;cases a
  rw[cZ _ _ e];by_cases e2:s=y;.rw[e2,m r b e]at a;cases a
  rw[oD _ _ e e2]at a;simp only[D3,O_,p_]at a;rcases a with(c|⟨c,i⟩)|⟨c,i⟩;.exact h.root r s b f c
  .rw[c];exact⟨q,o⟩
  .exact h.root r y b k (h.sym y r k b i)
 .simp only[oC]at a b f |-;have c:=h.img r s b f a;have A:=(h.rt b).1;have G:=(h.rt f).1;by_cases e:ρ r=y
  .rw[K_ e];by_cases e2:ρ s=y;.rw[e,e2,h.irr y]at c;cases c
   .rw[I_ e2,oD _ _ g e2];rw[e]at c;simp[c]
  .rw[I_ e];by_cases e2:ρ s=y;.rw[K_ e2,oD _ _ e g];rw[e2]at c;have:=h.sym _ _ A k c;simp[this]
   .rw[I_ e2,oD _ _ e e2];simp[c]
 .simp only[oC]at b |-;rw[cZ _ _ A_];exact h.mach r b u
 .simp only[oC]at b F |-;split;.exact o
  .exact h.low r b F
def qC(p:Pn):Nat:=deg p.n fun r=>decide (p.to r=r)
def Jd(a:Ad)(p:Pn)(S S':aA)(strict:Bool):Prop:=∃nm to near ρ d,KpG a S S'/\PT S' {a with nm:=nm} {p with to:=to,near:=near}/\Inv {p with to:=to,near:=near} ρ d/\qC {p with to:=to,near:=near}<=qC p/\(strict=true->qC {p with to:=to,near:=near}<qC p)
theorem Jd.refl{a:Ad}{p:Pn}{S S':aA}{ρ d:Th_}(h:PT S' a p)(b:Inv p ρ d)(k:bL [] S S'):Jd a p S S' false :=
 ⟨a.nm,p.to,p.near,ρ,d,KpG.of k,h,b,L_ _,fun h=>by cases h⟩
theorem aQf{p:Pn}{x y:Nat}(c:y<p.n)(a:x≠y)(b:p.to y=y):qC (oC p x y)<qC p:=by
 unfold qC deg oC;refine aCx (x:=y) (fun r h=>?_) (C2.2 c) (by simpa using b) (by simp[bU,a]);simp only[p_]at h |-;unfold upd at h;split at h;.rename_i e;rw[e]at h;exact absurd h a
 .exact h
theorem Jd.pre{a:Ad}{p:Pn}{S S1 S':aA}{b:Bool}(h:Jd a p S1 S' b)(k:bL [] S S1):Jd a p S S' b:=by obtain⟨nm,to,near,ρ,d,c,e⟩:=h;exact⟨nm,to,near,ρ,d,(KpG.of k).trans c rfl,e⟩
theorem Jd.step{a:Ad}{p:Pn}{x y:Nat}{nm:Th_}{S S1 S':aA}{b:Bool}(k:KpG a S S1)(c:qC (oC p x y)<qC p)(h:Jd {a with nm:=nm} (oC p x y) S1 S' b)(g:Bool):Jd a p S S' g:=by obtain⟨e,to,near,ρ,d,i,j,l,f,_⟩:=h;exact⟨e,to,near,ρ,d,k.trans i rfl,j,l,C0 f (Nat.le_of_lt c),fun _=>Nat.lt_of_le_of_lt f c⟩
def e18(a:Ad)(more x2 x3 x4 x5 x6:TV)(t:Tag)(M:List (Int×Int))(i:Nat)(x10 x11 x12:TV):List TV:=[.ptr a.ip 106 0,more,x2,x3,x4,x5,x6,.iv (.sl t (M.map iQ)),.iv (.int .i64 M.length),.iv (.int .i64 i),x10,x11,x12]
def OkM(n:Nat)(M:List (Int×Int)):Prop:=∀m∈M,∃u v:Nat,m.1=u/\m.2=v/\vR n u/\vR n v
where vR (n u:Nat):Prop:=1<=u/\u<n
theorem aUt{x6:TV}(t:Tag)(M:Tb_)(hM:M.length<=1000000):∀(k i:Nat) (a:Ad) (p:Pn) (ρ d:Th_) (S:aA) (more:Bool) (x2 x3 x4 x5 x10 x11 x12:TV),i+k=M.length->p.n<=1000000->OkM p.n M->PT S a p->Inv p ρ d ->(lp' (lim K) t67L0 (e18 a (.iv (.bool more)) x2 x3 x4 x5 x6 t M i x10 x11 x12) S).All fun r=>∃o Z y3 y4 y5 E H G,r.1=.exit 2/\r.2.1=e18 a (.iv (.bool o)) Z y3 y4 y5 x6 t M M.length E H G/\(more=true->o=true)/\Jd a p S r.2.2 (!more&&o)
 |0,i,a,p,ρ,d,S,more,x2,x3,x4,x5,x10,x11,x12,h,hpn,hok,hP,hI=>by obtain rfl:i=M.length:=A_;unfold e18;refine fC t67L0.eq_1 ?_;simp(disch:=omega)only[go_sem];refine bG ⟨more,_,_,_,_,_,_,_,rfl,rfl,id,?_⟩;rw[Bool.not_and_self];exact .refl hP hI (.refl _ _)
 |k+1,i,a,p,ρ,d,S,more,x2,x3,x4,x5,x10,x11,x12,h,hpn,hok,hP,hI=>by
  have hj:i<M.length:=A_;have b:=jF (w:=2) (f:=iQ) (fun _=>rfl) (t:=t) (l:=M) (i:=(i:Int)) A_;rw[Int.toNat_natCast]at b;have hg:M.getD i default∈M:=by simp only[List.getD,D_ hj,Option.getD_some];exact B8 _
  generalize M.getD i default=m at *
  obtain⟨u0,v0,hm,hp,⟨_,h7⟩,⟨_,h6⟩⟩:=hok m hg;have cu:=aQe hP hI.uf u0 h7;have T:=aQe hP hI.uf v0 h6;obtain⟨ha,hi⟩:=hI.rt h7;obtain⟨hb,hc⟩:=hI.rt h6;rw[iQ,hm,hp]at b;generalize ρ u0=u at *
  generalize ρ v0=v at *
  have P:=hP.blk;have b2:=hP.near;simp only[dL]at P;obtain⟨x,y,hq,I,N,hn,h9,F⟩:∃x y,x<=y/\x<p.n/\y<p.n/\p.to x=x/\p.to y=y/\(x=u/\y=v/\u<=v\/x=v/\y=u/\v<u):=by
   by_cases F:v<u;.exact⟨v,u,by omega,hb,ha,hc,hi,.inr ⟨rfl,rfl,F⟩⟩
   .exact⟨u,v,by omega,ha,hb,hi,hc,.inl ⟨rfl,rfl,by omega⟩⟩
  obtain⟨l,c,z,hr,hl⟩:=hP.nmap x I;have L:=aDq hl N;have Q:=fR (j:=a.jn) (v:=a.vn) I;have R:=dO (fun r=>TV.map (a.nm r)) I;have s:=aJm (x:Int);have g:=fun(a':Ad) (p':Pn) (ρ' d':Th_) (S':aA) o x2 x3 x4 x5 x10 x11 x12=>aUt (x6:=x6) t M hM k (i+1) a' p' ρ' d' S' o x2 x3 x4 x5 x10 x11 x12 A_;by_cases hxy:x=y
  .subst hxy;have g:=g a p ρ d S more (.lb [j_ u0,j_ v0]) (j_ x) (j_ x) (.iv (.bool (p.near x x))) e_ z_ e_ hpn hok hP hI;unfold e18 at g |-;rw[show((i+1:Nat):Int)=(i:Int)+1 by omega]at g;refine fC t67L0.eq_1 ?_;rcases F with⟨C,D,J⟩|⟨C,D,J⟩;.subst C;subst D;simp(disch:=omega)only[go_sem,b,cu,T,P,b2,Q,R,z,L,aC];exact cP g
   .omega
  by_cases hy32:y<32
  .have g:=g a p ρ d S more (.lb [j_ u0,j_ v0]) (j_ x) (j_ y) (.iv (.bool (p.near x y))) e_;unfold e18 at g |-;rw[show((i+1:Nat):Int)=(i:Int)+1 by omega]at g;refine fC t67L0.eq_1 ?_;have A:¬(x:Int)=(y:Int):=A_;rcases F with⟨C,D,J⟩|⟨C,D,J⟩<;>(subst C;subst D)
   .simp(disch:=omega)only[go_sem,b,cu,T,P,b2,Q,R,z,L,aC,A];exact cP (g _ _ hpn hok hP hI)
   .simp(disch:=omega)only[go_sem,b,cu,T,P,b2,Q,R,z,L,aC,A];exact cP (g _ _ hpn hok hP hI)
  have A:¬(x:Int)=(y:Int):=A_;by_cases hx32:x<32/\kH x=false
  .rw[hx32.2]at s;have Y:=hx32.1;have g:=g a p ρ d S more (.lb [j_ u0,j_ v0]) (j_ x) (j_ y) (.iv (.bool (p.near x y))) e_;unfold e18 at g |-;rw[show((i+1:Nat):Int)=(i:Int)+1 by omega]at g;refine fC t67L0.eq_1 ?_;rcases F with⟨C,D,J⟩|⟨C,D,J⟩<;>(subst C;subst D)
   .simp(disch:=omega)only[go_sem,b,cu,T,P,b2,Q,R,z,L,aC,A,aD s];exact cP (g _ _ hpn hok hP hI)
   .simp(disch:=omega)only[go_sem,b,cu,T,P,b2,Q,R,z,L,aC,A,aD s];exact cP (g _ _ hpn hok hP hI)
  have hk:vtx p.n x:=by
   refine⟨I,?_⟩;by_cases J:x<32
   .left;have:kH x=true:=by
     cases e:kH (x:Int)with
     |true=>rfl
     |false=>exact absurd ⟨J,e⟩ hx32
    unfold kH at this;simp at this;omega
   .right;omega
  have h5:x<32->kH x=true:=fun J=>by
   cases e:kH (x:Int)with
   |true=>rfl
   |false=>exact absurd ⟨J,e⟩ hx32
  cases hnr:p.near x y with
  |true =>
   rw[hnr]at L;have g:=g a p ρ d S more (.lb [j_ u0,j_ v0]) (j_ x) (j_ y) e_ e_;unfold e18 at g |-;rw[show((i+1:Nat):Int)=(i:Int)+1 by omega]at g;refine fC t67L0.eq_1 ?_;by_cases Y:x<32
   .rw[h5 Y]at s;rcases F with⟨C,D,J⟩|⟨C,D,J⟩<;>(subst C;subst D)
    .simp(disch:=omega)only[go_sem,b,cu,T,P,b2,Q,R,z,L,aC,A,aD s];exact cP (g _ _ hpn hok hP hI)
    .simp(disch:=omega)only[go_sem,b,cu,T,P,b2,Q,R,z,L,aC,A,aD s];exact cP (g _ _ hpn hok hP hI)
   .rcases F with⟨C,D,J⟩|⟨C,D,J⟩<;>(subst C;subst D)
    .simp(disch:=omega)only[go_sem,b,cu,T,P,b2,Q,R,z,L,aC,A,aD s];exact cP (g _ _ hpn hok hP hI)
    .simp(disch:=omega)only[go_sem,b,cu,T,P,b2,Q,R,z,L,aC,A,aD s];exact cP (g _ _ hpn hok hP hI)
  |false =>
   rw[hnr]at L;have hd:=bRl hP hpn I N;have ho:=hI.nsym I N hnr;have h8:=aQf N hxy h9;have he:=bDk hI I N hxy A_ hnr hn h9 hk;have hf:=fun(S1:aA) (k1:bL [] S S1)=>bRm (hP.keep k1) A_ I N hxy ho (hI.irr y);have h0:=fun S1=>g a p ρ d S1 more (.lb [j_ u0,j_ v0]) (j_ x) (j_ y) z_ e_;have h4:=fun nm S1=>g {a with nm:=nm} (oC p x y) (fun r=>if ρ r=y then x else ρ r) (fun r=>if ρ r=y then d r+d x+1 else d r) S1 true (.lb [j_ u0,j_ v0]) (j_ x) (j_ y) z_ e_;unfold e18 at h0 h4 |-;rw[show((i+1:Nat):Int)=(i:Int)+1 by omega]at h0 h4;refine fC t67L0.eq_1 ?_;by_cases Y:x<32
   .rw[h5 Y]at s;rcases F with⟨C,D,J⟩|⟨C,D,J⟩<;>(subst C;subst D)
    all_goals
     simp(disch:=omega)only[go_sem,b,cu,T,P,b2,Q,R,z,L,aC,A,aD s]
     refine kK hd ?_
     rintro v S1 ⟨⟨bs,W⟩,q⟩
     dsimp only at W q
     subst W
     cases bs with
     |false =>simp(disch:=omega)only[go_sem,aC];refine cP (Out.all_mono ?_ (h0 S1 _ _ hpn hok (hP.keep q) hI));rintro r ⟨m',Z,y3,y4,y5,E,H,G,e1,e2,e3,e4⟩;exact⟨m',Z,y3,y4,y5,E,H,G,e1,e2,e3,e4.pre q⟩
     |true =>simp(disch:=omega)only[go_sem,aC];refine kK (hf S1 q) ?_;rintro v S2 ⟨nm,W,U,V⟩;dsimp only at W U V;subst W;simp(disch:=omega)only[go_sem,aC];refine cP (Out.all_mono ?_ (h4 nm S2 _ _ hpn hok V he));rintro r ⟨m',Z,y3,y4,y5,E,H,G,e1,e2,e3,e4⟩;exact⟨m',Z,y3,y4,y5,E,H,G,e1,e2,fun _=>e3 rfl,e4.step ((KpG.of q).trans U rfl) h8 _⟩
   .rcases F with⟨C,D,J⟩|⟨C,D,J⟩<;>(subst C;subst D)
    all_goals
     simp(disch:=omega)only[go_sem,b,cu,T,P,b2,Q,R,z,L,aC,A,aD s]
     refine kK hd ?_
     rintro v S1 ⟨⟨bs,W⟩,q⟩
     dsimp only at W q
     subst W
     cases bs with
     |false =>simp(disch:=omega)only[go_sem,aC];refine cP (Out.all_mono ?_ (h0 S1 _ _ hpn hok (hP.keep q) hI));rintro r ⟨m',Z,y3,y4,y5,E,H,G,e1,e2,e3,e4⟩;exact⟨m',Z,y3,y4,y5,E,H,G,e1,e2,e3,e4.pre q⟩
     |true =>simp(disch:=omega)only[go_sem,aC];refine kK (hf S1 q) ?_;rintro v S2 ⟨nm,W,U,V⟩;dsimp only at W U V;subst W;simp(disch:=omega)only[go_sem,aC];refine cP (Out.all_mono ?_ (h4 nm S2 _ _ hpn hok V he));rintro r ⟨m',Z,y3,y4,y5,E,H,G,e1,e2,e3,e4⟩;exact⟨m',Z,y3,y4,y5,E,H,G,e1,e2,fun _=>e3 rfl,e4.step ((KpG.of q).trans U rfl) h8 _⟩
theorem Jd.trans{a:Ad}{p:Pn}{S S1 S':aA}{nm:Th_}{to:Th_}{near:Ti_}(k:KpG a S S1)(g:qC {p with to:=to,near:=near}<=qC p){b:Bool}(h:Jd {a with nm:=nm} {p with to:=to,near:=near} S1 S' b):Jd a p S S' false:=by obtain⟨e,f,c,ρ,d,i,l,m,j,_⟩:=h;exact⟨e,f,c,ρ,d,k.trans i rfl,l,m,C0 j g,fun h=>by cases h⟩
theorem bDl:∀(k:Nat) (a:Ad) (p:Pn) (ρ d:Th_) (S:aA) (x2 g x4 x5 x6 x7 x8 x9 x10 x11 x12:TV),qC p<k->p.n<=1000000->p.M.length<=1000000->OkM p.n p.M->PT S a p->Inv p ρ d ->(lp' (lim K) t67L1 [.ptr a.ip 106 0,e_,x2,g,x4,x5,x6,x7,x8,x9,x10,x11,x12] S).All fun r=>∃t o l u y6 G Y T b c f,r.1=.exit 0/\r.2.1=[.ptr a.ip 106 0,z_,t,o,l,u,y6,G,Y,T,b,c,f]/\Jd a p S r.2.2 false
 |0,a,p,ρ,d,S,x2,g,x4,x5,x6,x7,x8,x9,x10,x11,x12,hk,hpn,hM,hok,hP,hI=>A_
 |k+1,a,p,ρ,d,S,x2,g,x4,x5,x6,x7,x8,x9,x10,x11,x12,hk,hpn,hM,hok,hP,hI=>by
  have q:=aUt (x6:=e_) p.tM p.M hM p.M.length 0 a p ρ d S false x2 g x4 x5 x10 x11 x12 A_ hpn hok hP hI;have C:=hP.blk;simp only[dL]at C;unfold e18 at q;rw[n0_]at q;refine fC t67L1.eq_1 ?_;simp(disch:=omega)only[go_sem,C,P_];refine mS q ?_;rintro j e S1 ⟨I,t,o,l,u,b,c,f,E,e2,e3,A⟩;dsimp only at E e2 A;subst E e2;obtain⟨nm,to,near,D,x,y,v,F,z,L⟩:=A;cases I with
  |false =>
   have hj:Jd a p S S1 false:=⟨nm,to,near,D,x,y,v,F,z,fun h=>by cases h⟩
   have b2:=v.blk;simp(disch:=omega)only[go_sem];refine cP (fC t67L1.eq_1 ?_);simp(disch:=omega)only[go_sem];exact(bG ⟨_,_,_,_,_,_,_,_,_,_,_,rfl,rfl,hj⟩)
  |true =>have N:=L rfl;have ih:=bDl k {a with nm:=nm} {p with to:=to,near:=near} D x S1 t o l u e_ (.iv (.sl p.tM (p.M.map iQ))) (j_ p.M.length) (j_ p.M.length) b c f A_ hpn hM hok v F;simp(disch:=omega)only[go_sem];refine cP (Out.all_mono ?_ ih);rintro r ⟨z2,V,J,H,Z,P,z8,W,w,s,i,R,Q,U⟩;exact⟨z2,V,J,H,Z,P,z8,W,w,s,i,R,Q,U.trans y z⟩
theorem bRn{S:aA}{a:Ad}{p:Pn}{ρ d:Th_}(q:PT S a p)(k:Inv p ρ d)(c:p.n<=1000000)(o:p.M.length<=1000000)(b:OkM p.n p.M): ((lim K).call 67 [.ptr a.ip 106 0] S).All fun r=>r.1=u_/\Jd a p S r.2 false:=by have m:=bDl (qC p+1) a p ρ d S u_ u_ u_ u_ u_ u_ u_ u_ u_ u_ u_ A_ c o b q k;refine dG K _ (fn:=t67) rfl rfl ?_;simp(disch:=omega)only[t67,go_sem];refine dJ m ?_;rintro j e S1 ⟨x,z,u,t,v,w,y,A,s,l,i,g,f,h⟩;dsimp only at g f h;subst g f;simp(disch:=omega)only[go_sem];exact bG ⟨rfl,h⟩
def gSc(w el:Nat)(l:List (List IV))(i:Nat)(S:aA):aA:=if l=[]then S++[.tok 1 w el]else S.set i (.tok (l.length+1) w el)
def aB2(l:List (List IV))(i:Nat):List Nat:=if l=[]then []else [i]
theorem At.nil{w el i:Nat}{S:aA}:At w el [] i S:=fun h=>absurd rfl h
theorem aUu(w el:Nat)(l:M_)(i:Nat)(S:aA):bL (aB2 l i) S (gSc w el l i S):=by
 unfold aB2 gSc;by_cases h:l=[]
 .rw[K_ h,K_ h];exact bL.app _ _ _
 .rw[I_ h,I_ h];exact bL.set _ B_ _
theorem bPz{w el:Nat}{l:M_}{i:Nat}{S:aA}(h:At w el l i S)(c:Tq_):At w el (l++[c]) (gI l i S) (gSc w el l i S):=by
 intro _;unfold gI gSc;by_cases h0:l=[]
 .rw[K_ h0,K_ h0,h0];simp
 .rw[I_ h0,I_ h0,aM (aN (h h0))];simp
theorem bP0{w el b:Nat}{l:M_}{i:Nat}{S:aA}{t:Tag}{c:Tq_}(h:At w el l i S)(j:c.length=w/\c.all nB=true)(g:jL w l)(e:dY (l.length+1) b=true): bA false w b el S (acc i l) (.iv (.sl t [c]))=some (acc (gI l i S) (l++[c]),gSc w el l i S):=by
 have f:qQ S (.iv (.sl t [c])) [c]:=qQ.sl ..;have d:jL w [c]:=by intro y a;simp at a;subst a;exact j
 by_cases h0:l=[]
 .subst h0;rw[mD,aLg C_ f d g B_ e,List.nil_append,aO8];simp[gI,gSc]
 .rw[jQ _ h0,aFn f d g (h h0) e,jQ _ B_];simp[gI,gSc,h0]
theorem aMh{I J:Tc_}{S S' S'':aA}(h:bL I S S')(g:bL J S' S'')(e:∀j∈J,j∈I\/S.length<=j):bL I S S'' :=
 ⟨C0 h.len g.len,fun i b d a=>g.get i b (fun f=>by
  rcases e i f with c|c;.exact d c
  .have:=aN a;omega) (h.get i b d a)⟩
theorem aUv{S:aA}{w el:Nat}{l:M_}{i:Nat}(h:At w el l i S):∀j∈aB2 l i,∃n w e,S[j]?=some (.tok n w e):=by
 intro j a;unfold aB2 at a;split at a;.cases a
 .rename_i h0;simp at a;subst a;exact⟨_,_,_,h h0⟩
theorem bLm{S:aA}{l:M_}{i:Nat}{c:Tq_}:∀j∈aB2 (l++[c]) (gI l i S),j∈aB2 l i\/S.length<=j:=by
 intro j a;unfold aB2 at a;rw[I_ B_]at a;simp at a;subst a;unfold gI;split;.exact .inr (L_ _)
 .rename_i h0;left;unfold aB2;rw[I_ h0];simp
theorem PT.keepT{S S':aA}{a:Ad}{p:Pn}{I:Tc_}(h:PT S a p)(k:bL I S S')(s:∀i∈I,∃n w e,S[i]?=some (.tok n w e)):PT S' a p:=by
 have d:∀i b,S[i]?=some b->(∀n w e,b≠aG.tok n w e)->S'[i]?=some b:=fun i b q j=>k.get i b (fun t=>by obtain⟨n,w,e,f⟩:=s i t;rw[q]at f;exact j n w e (D9 f)) q;exact⟨d _ _ h.blk B_,d _ _ h.near B_,d _ _ h.own B_,d _ _ h.to B_,d _ _ h.out B_,
  fun r g=>by obtain⟨l,c,f,o,m⟩:=h.nmap r g;exact⟨l,c,d _ _ f B_,o,m⟩,
  fun r g=>by obtain⟨l,c,f,o,m⟩:=h.omap r g;exact⟨l,c,d _ _ f B_,o,m⟩,h.ninj,h.oinj,h.dis,h.nd⟩
def cQ(l:List Nat):List (List IV):=l.map fun m:Nat=>[.int .i64 (m:Int)]
theorem iW(l:Tc_):(cQ l).length=l.length:=by simp[cQ]
theorem aDr(l:Tc_)(m:Nat):cQ l++[[.int .i64 (m:Int)]]=cQ (l++[m]):=by simp[cQ]
theorem bDm{l:Tc_}:cQ l=[]↔l=[]:=by simp[cQ]
theorem aUw(l:Tc_):jL 1 (cQ l):=by intro y a;obtain⟨m,_,rfl⟩:=r_.1 a;exact⟨rfl,rfl⟩
def bJ(p:Pn)(ρ:Nat->Nat)(r i:Nat):List Nat:=((List.range p.n).drop i).filter fun m=>decide (ρ m=r)
theorem aDs{n i:Nat}(h:i<n):(List.range n).drop i=i::(List.range n).drop (i+1):=by rw[A7 (by simpa using h)];simp
theorem aQg{a:Ad}{p:Pn}{ρ d:Th_}(y:Uf p ρ d)(s:p.n<=1000000)(r:Nat)(x2:TV):∀(k i:Nat) (l:Tc_) (j:Nat) (S:aA) (x5 x6:TV),i+k=p.n->PT S a p->At 1 3 (cQ l) j S->l.length<=i ->∃m v x S',lp' (lim K) t68L0 [.ptr a.ip 106 0,j_ r,x2,acc j (cQ l),j_ i,x5,x6] S = .ret (.exit 0,[.ptr a.ip 106 0,j_ r,x2,acc m (cQ (l++bJ p ρ r i)),j_ p.n,v,x],S')/\bL (aB2 (cQ l) j) S S'
 |0,i,l,j,S,x5,x6,h,hP,hj,hl=>by
  obtain rfl:i=p.n:=A_;have g:=hP.blk;simp only[dL]at g;have e:bJ p ρ r p.n=[]:=by unfold bJ;rw[F8 B_];rfl
  refine⟨j,z_,x6,S,aE K _ _ t68L0.eq_1 ?_,.refl _ _⟩;rw[e,A0];simp(disch:=omega)only[go_sem,g]
 |k+1,i,l,j,S,x5,x6,h,hP,hj,hl=>by
  have o:i<p.n:=A_;have g:=hP.blk;simp only[dL]at g;have f:=aQe hP y i o;have w:=aDs o;by_cases e:ρ i=r
  .have D:=bP0 (b:=8) (c:=[.int .i64 (i:Int)]) (t:=.full) hj ⟨rfl,rfl⟩ (aUw l) (bR (by rw[iW];omega));have E:=aUu 1 3 (cQ l) j S;have C:=bPz hj [.int .i64 (i:Int)];have F:∀q∈aB2 (cQ (l++[i])) (gI (cQ l) j S),q∈aB2 (cQ l) j\/S.length<=q:=by rw[<-aDr];exact bLm
   rw[aDr]at D C;obtain⟨m,v,x,S',u,A⟩:=aQg y s r x2 k (i+1) (l++[i]) _ _ e_ e_ A_ (hP.keepT E (aUv hj)) C (by simp;omega);rw[show((i+1:Nat):Int)=(i:Int)+1 by omega,A8,List.singleton_append]at u;refine⟨m,v,x,S',aE K _ _ t68L0.eq_1 ?_,aMh E A F⟩;have z:bJ p ρ r i=i::bJ p ρ r (i+1):=by unfold bJ;rw[w,E6,K_ (by simpa using e)]
   rw[z];rw[e]at f;simp(disch:=omega)only[go_sem,g,f,D,aC];exact X_ er u
  .obtain⟨m,v,x,S',u,A⟩:=aQg y s r x2 k (i+1) l j S e_ z_ A_ hP hj A_;rw[show((i+1:Nat):Int)=(i:Int)+1 by omega]at u;refine⟨m,v,x,S',aE K _ _ t68L0.eq_1 ?_,A⟩;have z:bJ p ρ r i=bJ p ρ r (i+1):=by unfold bJ;rw[w,E6,I_ (by simpa using e)]
   rw[z];have e':¬((ρ i:Int)=(r:Int)):=A_;simp(disch:=omega)only[go_sem,g,f,e',aC];exact X_ er u
theorem bDn{S:aA}{a:Ad}{p:Pn}{ρ d:Th_}(i:PT S a p)(e:Uf p ρ d)(b:p.n<=1000000)(f:32<=p.n)(r:Nat): ∃j S',(lim K).call 68 [.ptr a.ip 106 0,j_ r] S=.ret (acc j (cQ (bJ p ρ r 32)),S')/\bL [] S S':=by obtain⟨h,k,l,S',c,g⟩:=aQg e b r k_ (p.n-32) 32 [] 0 S u_ u_ A_ i At.nil B_;rw[show((32:Nat):Int)=32 from rfl,List.nil_append,show acc 0 (cQ [])=k_ from rfl]at c;refine⟨h,S',aI K _ (fn:=t68) rfl rfl ?_,g⟩;simp(disch:=omega)only[t68,go_sem];rw[c];simp(disch:=omega)only[go_sem]
def gv(r:Int)(t1:Tag)(E:List (Int×Int))(t2:Tag)(M:List (Int×Int)):IV:=.agg [.int .i64 r,.sl t1 (E.map iQ),.sl t2 (M.map iQ)]
def qX(r:Int)(t1:Tag)(E:List (Int×Int))(t2:Tag)(M:List (Int×Int)):List TV:=[.iv (.int .i64 r),.iv (.sl t1 (E.map iQ)),.iv (.sl t2 (M.map iQ))]
theorem bUg{α:Type}(l m:List (List α)):bE (l++m)=bE l++bE m:=by
 induction l with
 |nil=>rfl
 |cons a r ih=>simp only[List.cons_append,TM.bE,ih,A8]
theorem bLn(x:TV)(n:Nat):bE (List.replicate n [x])=cF n fun _=>x:=by
 unfold cF;induction n with
 |zero=>rfl
 |succ n ih=>rw[List.replicate_succ',N4,D0,<-ih,bUg];simp[TM.bE]
structure Bd (S:aA) (n:Nat) (t1:Tag) (E:List (Int×Int)) (t2:Tag) (M:List (Int×Int)) (r:Nat) (nm om:Nat->Nat):Prop where
 blk:S[1]?=some (.cells 106 false [.iv (.int .i64 n),.iv (.sl t1 (E.map iQ)),.iv (.sl t2 (M.map iQ)),.msl 6 (r-1) 0 r r 1,.msl 7 (r-1) 0 r r 1,.msl 8 (r-1) 0 r r 1,.msl 0 0 0 n n 1])
 out:S[0]?=some (.cells 0 false (cF n fun _=>vI 0))
 near:S[6]?=some (.cells (r-1) true (cF r fun k=>.map (nm k)))
 own:S[7]?=some (.cells (r-1) true (cF r fun k=>.map (om k)))
 to:S[8]?=some (.cells (r-1) true (cF r fun k=>nI k))
 nms:∀k,k<r->S[nm k]?=some (.mp [] 0)
 oms:∀k,k<r->S[om k]?=some (.mp [] 0)
 ninj:∀r' s,r'<r->s<r->nm r'=nm s->r'=s
 oinj:∀r' s,r'<r->s<r->om r'=om s->r'=s
 dis:∀r' s,r'<r->s<r->nm r'≠om s
theorem Bd.pt{S:aA}{n:Nat}{t1:Tag}{E:Tb_}{t2:Tag}{M:Tb_}{nm b:Th_}(h:Bd S n t1 E t2 M n nm b):PT S ⟨1,6,n-1,7,n-1,8,n-1,0,nm,b⟩ ⟨n,t1,E,t2,M,fun _ _=>false,fun _ _=>false,fun r=>r,fun _=>0⟩ :=
 ⟨h.blk,h.near,h.own,h.to,h.out,fun r a=>⟨[],0,h.nms r a,gB.nil 0,fun t=>by simp[cB,dI]⟩,fun r a=>⟨[],0,h.oms r a,gB.nil 0,fun t=>by simp[cB,dI]⟩,h.ninj,h.oinj,h.dis,by simp⟩
theorem aDt{mu:Bool}{b bytes el:Nat}{S:aA}{v n:Nat}{f:Nat->TV}{x:TV}(g:S[b]?=some (.cells v true (cF n f)))(d:dS S x=some [f n])(e:lenOf S x=some 1)(h:bH (f n)=false)(a:dY (n+1) bytes=true): bA mu 1 bytes el S (.msl b v 0 n n 1) x=some (.msl b (v+1) 0 (n+1) (n+1) 1,S.set b (.cells (v+1) true (cF (n+1) f))):=by have c:sub (cF n f) 0 n=some (cF n f):=mE (by simp[aC4]);simp[bA,d,e,g,h,a,c,bRk,show ¬n+1<=n by omega]
theorem uQ{mu:Bool}{bytes el:Nat}{S:aA}{f:Nat->TV}{x:TV}(b:dS S x=some [f 0])(c:lenOf S x=some 1)(g:bH (f 0)=false)(a:dY 1 bytes=true)(d:mu=true\/toIVs [f 0]=none): bA mu 1 bytes el S k_ x=some (.msl S.length 0 0 1 1 1,S++[.cells 0 true (cF 1 f)]):=by
 have e:cF 1 f=[f 0]:=rfl;rcases d with rfl|d;.simp[bA,b,c,g,a,e,TM.oR,TM.bE]
 .cases mu with
  |true=>simp[bA,b,c,g,a,e,TM.oR,TM.bE]
  |false=>simp[bA,b,c,g,a,e,d,TM.oR,TM.bE]
def jM(S:aA):aA:=S++[aG.mp [] 0]++[aG.cells 0 false (bE [[TV.map S.length]])]
theorem qD(S:aA):(jM S).length=S.length+2:=by simp[jM]
theorem kI(S:aA):bL [] S (jM S):=(bL.app [] S [aG.mp [] 0]).trans (bL.app [] _ [aG.cells 0 false (bE [[TV.map S.length]])])
theorem aCi(S:aA):(jM S)[S.length]?=some (.mp [] 0):=by simp[jM]
theorem xQ(S:aA):(jM S)[S.length+1]?=some (.cells 0 false (bE [[TV.map S.length]])):=by simp[jM]
theorem uR{S:aA}{j:Nat}{y:TV}(h:S[j]?=some (.cells 0 false (bE [[y]]))):dS S (.msl j 0 0 1 1 1)=some [y]:=by simp[dS,h,sub,TM.bE]
theorem jH{S S':aA}{i j:Nat}{X b:aG}(h:S.set i X=S')(a:i≠j)(c:S[j]?=some b):S'[j]?=some b:=by rw[<-h,aB a];exact c
theorem bDo{n:Nat}{t1:Tag}{E:Tb_}{t2:Tag}{M:Tb_}(hn:n<=1000000)(x0 s x2 x5 x9 x10 x11 x12 x13:TV):∀(k r:Nat) (S:aA) (nm f:Th_) (x4 x8:TV),r+k=n->1<=r->Bd S n t1 E t2 M r nm f ->∃F w S' l g,lp' (lim K) t66L1 [x0,s,x2,.ptr 1 106 0,x4,x5,j_ n,j_ r,x8,x9,x10,x11,x12,x13] S = .ret (.exit 0,[x0,s,x2,.ptr 1 106 0,F,x5,j_ n,j_ n,w,x9,x10,x11,x12,x13],S')/\Bd S' n t1 E t2 M n l g
 |0,r,S,nm,f,x4,x8,h,H,hB=>by obtain rfl:r=n:=A_;refine⟨x4,z_,S,nm,f,aE K _ _ t66L1.eq_1 ?_,hB⟩;simp(disch:=omega)only[go_sem]
 |k+1,r,S,nm,f,x4,x8,h,H,hB=>by
  have Y:=aN hB.to;have Q:=kI S;have m:=Q.trans (kI (jM S));have v:=hB.blk;have b2:=Q.get _ _ B_ v;have b4:=m.get _ _ B_ v;have h0:=qD S;have m1:=(kI (jM S)).get _ _ B_ (aCi S);have m2:=aCi (jM S);have l1:=(kI (jM S)).get _ _ B_ (xQ S);have l2:=xQ (jM S);have G:∀k,k<r->nm k<S.length:=fun k o=>aN (hB.nms k o);have z:∀k,k<r->f k<S.length:=fun k o=>aN (hB.oms k o);have Z:cF r (fun k=>.map (nm k))=cF r (fun k=>.map (upd nm r S.length k)):=aMe fun i p=>by rw[cZ _ _ A_]
  have V:cF r (fun k=>.map (f k))=cF r (fun k=>.map (upd f r (jM S).length k)):=aMe fun i p=>by rw[cZ _ _ A_]
  have P:=m.get _ _ B_ hB.near;have T:=m.get _ _ B_ hB.own;have n8:=m.get _ _ B_ hB.to;rw[Z]at P;rw[V]at T;generalize hS4:jM (jM S)=S4 at *
  have q:=aDt (mu:=false) (bytes:=8) (el:=81) (x:=.msl (S++[aG.mp [] 0]).length 0 0 1 1 1) P (by rw[bU];exact uR (by rw[<-l1];simp)) rfl rfl (bR A_);generalize hS5:S4.set 6 (.cells (r-1+1) true (cF (r+1) fun k=>.map (upd nm r S.length k)))=S5 at *
  have N:=jH hS5 C_ b4;have I:=jH hS5 C_ T;have u:=jH hS5 A_ l2;have e2:=aDt (mu:=false) (bytes:=8) (el:=81) (x:=.msl (jM S++[aG.mp [] 0]).length 0 0 1 1 1) I (by rw[bU];exact uR (by rw[<-u];simp)) rfl rfl (bR A_);generalize hS6:S5.set 7 (.cells (r-1+1) true (cF (r+1) fun k=>.map (upd f r (jM S).length k)))=S6 at *
  have L:=jH hS6 C_ N;have D:=jH hS6 C_ (jH hS5 C_ n8);have e3:=aDt (mu:=true) (bytes:=8) (el:=3) (x:=.iv (.sl .full [[.int .i64 (r:Int)]])) D rfl rfl rfl (bR A_);generalize hS7:S6.set 8 (.cells (r-1+1) true (cF (r+1) fun k=>nI k))=S7 at *
  have C:=jH hS7 C_ L;have R:∀b,(S7.set 1 b)[1]?=some b:=fun b=>aM (aN C) b;have g2:∀b c,((S7.set 1 b).set 1 c)[1]?=some c:=fun b c=>aM (by simpa using aN C) c;have g3:∀b c,(S7.set 1 b).set 1 c=S7.set 1 c:=fun b c=>B_;have A:r-1+1=r:=A_;rw[A]at q e2 e3 hS5 hS6 hS7;have y:Bd (S7.set 1 (.cells 106 false [j_ n,.iv (.sl t1 (E.map iQ)),.iv (.sl t2 (M.map iQ)),.msl 6 r 0 (r+1) (r+1) 1,.msl 7 r 0 (r+1) (r+1) 1,.msl 8 r 0 (r+1) (r+1) 1,.msl 0 0 0 n n 1])) n t1 E t2 M (r+1) (upd nm r S.length) (upd f r (jM S).length):=by
   have h3:S4.length=S.length+4:=by rw[<-hS4,qD,qD]
   have a:∀i b,S4[i]?=some b->i≠6->i≠7->i≠8->i≠1->∀c,(S7.set 1 c)[i]?=some b:=fun i b W h6 h7 h8 H c=>by rw[aB (B0 H),<-hS7,aB (B0 h8),<-hS6,aB (B0 h7),<-hS5,aB (B0 h6)];exact W
   refine⟨R _,?_,?_,?_,?_,fun k o=>?_,fun k o=>?_,fun i j p U e=>?_,fun i j p U e=>?_,fun i j p U e=>?_⟩;.exact a _ _ (m.get _ _ B_ hB.out) C_ C_ C_ C_ _
   .rw[aB C_,<-hS7,aB C_,<-hS6,aB C_,<-hS5,aM A_];rfl
   .rw[aB C_,<-hS7,aB C_,<-hS6,aM (by rw[<-hS5];simp;omega)];rfl
   .rw[aB C_,<-hS7,aM (by rw[<-hS6,<-hS5];simp;omega)];rfl
   .by_cases e:k=r;.subst e;rw[bU];exact a _ _ m1 A_ A_ A_ A_ _
    .have d:=hB.nms k A_;rw[cZ _ _ e];exact a _ _ (m.get _ _ B_ d) (bO d hB.near B_) (bO d hB.own B_) (bO d hB.to B_) (bO d hB.blk B_) _
   .by_cases e:k=r;.subst e;rw[bU];exact a _ _ m2 A_ A_ A_ A_ _
    .have d:=hB.oms k A_;rw[cZ _ _ e];exact a _ _ (m.get _ _ B_ d) (bO d hB.near B_) (bO d hB.own B_) (bO d hB.to B_) (bO d hB.blk B_) _
   .unfold upd at e;split at e<;>split at e;.omega
    .have:=G j A_;omega
    .have:=G i A_;omega
    .exact hB.ninj i j A_ A_ e
   .unfold upd at e;split at e<;>split at e;.omega
    .have:=z j A_;omega
    .have:=z i A_;omega
    .exact hB.oinj i j A_ A_ e
   .unfold upd at e;split at e<;>split at e;.omega
    .have:=z j A_;omega
    .have:=G i A_;omega
    .exact hB.dis i j A_ A_ e
  obtain⟨F,w,S',l,g,J,t⟩:=bDo hn x0 s x2 x5 x9 x10 x11 x12 x13 k (r+1) _ _ _ (j_ r) e_ A_ A_ y;rw[show((r+1:Nat):Int)=(r:Int)+1 by omega]at J;refine⟨F,w,S',l,g,aE K _ _ t66L1.eq_1 ?_,t⟩;subst hS4;unfold jM at b2 b4 q e2;simp only[bB7]at b2 b4 q e2;simp(disch:=omega)only[go_sem,v,b2,b4,q,N,e2,L,e3,C,R,g2,g3,aC];exact X_ er J
theorem lW{S S':aA}{X:aG}{j:Nat}{b:aG}(h:S++[X]=S')(a:S[j]?=some b):S'[j]?=some b:=by rw[<-h,W_ (aN a)];exact a
theorem aJq{S S':aA}{X:aG}(h:S++[X]=S'):S'[S.length]?=some X:=by rw[<-h];simp
theorem bRo{n:Nat}{t1:Tag}{E:Tb_}{t2:Tag}{M:Tb_}(Z:n<=1000000)(D:1<=n)(x0 p x2 x5 x9 x10 x11 x12 x13 x4 x8:TV)(S:aA)(hl:S.length=2) (R:S[0]?=some (.cells 0 false (cF n fun _=>vI 0))) (t:S[1]?=some (.cells 106 false [j_ n,.iv (.sl t1 (E.map iQ)),.iv (.sl t2 (M.map iQ)),k_,k_,k_,.msl 0 0 0 n n 1])): ∃r u S' a h,lp' (lim K) t66L1 [x0,p,x2,.ptr 1 106 0,x4,x5,j_ n,j_ 0,x8,x9,x10,x11,x12,x13] S = .ret (.exit 0,[x0,p,x2,.ptr 1 106 0,r,x5,j_ n,j_ n,u,x9,x10,x11,x12,x13],S')/\Bd S' n t1 E t2 M n a h:=by
 have F:=kI S;have G:=F.trans (kI (jM S));have b2:=F.get _ _ B_ t;have b4:=G.get _ _ B_ t;have V:=qD S;have g:(jM (jM S)).length=6:=by rw[qD,qD,hl]
 have m1:=(kI (jM S)).get _ _ B_ (aCi S);have W:=aCi (jM S);have Q:=(kI (jM S)).get _ _ B_ (xQ S);have l2:=xQ (jM S);have Y:=G.get _ _ B_ R;generalize hS4:jM (jM S)=S4 at *
 have o:=uQ (mu:=false) (bytes:=8) (el:=81) (S:=S4) (f:=fun _=>.map S.length) (x:=.msl (S++[aG.mp [] 0]).length 0 0 1 1 1) (uR (by rw[<-Q];simp)) rfl rfl (bR A_) (.inr rfl);generalize hS5:S4++[.cells 0 true (cF 1 fun _=>.map S.length)]=S5 at *
 have l:S5.length=7:=by rw[<-hS5];simp[g]
 have A:=lW hS5 b4;have s:=lW hS5 l2;have e2:=uQ (mu:=false) (bytes:=8) (el:=81) (S:=S5) (f:=fun _=>.map (jM S).length) (x:=.msl (jM S++[aG.mp [] 0]).length 0 0 1 1 1) (uR (by rw[<-s];simp)) rfl rfl (bR A_) (.inr rfl);generalize hS6:S5++[.cells 0 true (cF 1 fun _=>.map (jM S).length)]=S6 at *
 have m:S6.length=8:=by rw[<-hS6];simp[l]
 have y:=lW hS6 A;have e3:=uQ (mu:=true) (bytes:=8) (el:=3) (S:=S6) (f:=fun k=>nI k) (x:=.iv (.sl .full [[.int .i64 (0:Int)]])) rfl rfl rfl (bR A_) (.inl rfl);generalize hS7:S6++[.cells 0 true (cF 1 fun k=>nI k)]=S7 at *
 have w:=lW hS7 y;rw[g]at o;rw[l]at e2;rw[m]at e3;have H:∀b,(S7.set 1 b)[1]?=some b:=fun b=>aM (aN w) b;have T:∀b c,((S7.set 1 b).set 1 c)[1]?=some c:=fun b c=>aM (by simpa using aN w) c;have U:∀b c,(S7.set 1 b).set 1 c=S7.set 1 c:=fun b c=>B_;have v:Bd (S7.set 1 (.cells 106 false [j_ n,.iv (.sl t1 (E.map iQ)),.iv (.sl t2 (M.map iQ)),.msl 6 0 0 1 1 1,.msl 7 0 0 1 1 1,.msl 8 0 0 1 1 1,.msl 0 0 0 n n 1])) n t1 E t2 M 1 (fun _=>S.length) (fun _=>(jM S).length):=by
  have d:∀i b,S4[i]?=some b->i≠1->∀c,(S7.set 1 c)[i]?=some b:=fun i b P D c=>by rw[aB (B0 D)];exact lW hS7 (lW hS6 (lW hS5 P))
  have z:=aJq hS5;have N:=aJq hS6;have C:=aJq hS7;rw[g]at z;rw[l]at N;rw[m]at C;refine⟨H _,?_,?_,?_,?_,fun k hk=>?_,fun k hk=>?_,fun i j I J e=>A_,fun i j I J e=>A_,fun i j I J e=>A_⟩;.exact d _ _ Y C_ _
  .rw[aB C_];exact lW hS7 (lW hS6 z)
  .rw[aB C_];exact lW hS7 N
  .rw[aB C_];exact C
  .exact d _ _ m1 A_ _
  .exact d _ _ W A_ _
 obtain⟨r,u,S',a,h,L,q⟩:=bDo Z x0 p x2 x5 x9 x10 x11 x12 x13 (n-1) 1 _ _ _ (j_ 0) e_ A_ A_ v;rw[show((1:Nat):Int)=1 from rfl]at L;refine⟨r,u,S',a,h,aE K _ _ t66L1.eq_1 ?_,q⟩;subst hS4;unfold jM at b2 b4 o e2;simp only[bB7]at b2 b4 o e2;simp(disch:=omega)only[go_sem,t,b2,b4,o,A,e2,y,e3,w,H,T,U,aC];exact X_ er L
theorem PT.setM{S:aA}{a:Ad}{p:Pn}(h:PT S a p){r:Nat}(i:r<p.n){b:aG}{f:Tj_}(t:mF (S.set (a.om r) b) (a.om r) p.n f):PT (S.set (a.om r) b) a {p with own:=upd p.own r f}:=by
 have o:=h.nmo (h.omap r i);simp only[Ad.own,J_,D1,H2,G6]at o;obtain⟨w,u,q,v,x⟩:=o;refine⟨?_,?_,?_,?_,?_,fun s d=>?_,fun s d=>?_,h.ninj,h.oinj,h.dis,h.nd⟩;.rw[aB w];exact h.blk
 .rw[aB u];exact h.near
 .rw[aB q];exact h.own
 .rw[aB v];exact h.to
 .rw[aB x];exact h.out
 .obtain⟨l,c,j,k,m⟩:=h.nmap s d;exact⟨l,c,by rw[aB (B0 (h.dis s r d i))];exact j,k,m⟩
 .by_cases e:s=r;.subst e;simpa[bU] using t
  .have g:a.om r≠a.om s:=fun e2=>e (h.oinj _ _ i d e2).symm;obtain⟨l,c,j,k,m⟩:=h.omap s d;simp only[cZ _ _ e];exact⟨l,c,by rw[aB g];exact j,k,m⟩
def isV(e:Int):Bool:=kH e||decide (32<=e)
def aJr(e:Int×Int)(r s:Nat):Bool:=isV e.1&&isV e.2&&(decide (e.1=r)&&decide (e.2=s)||decide (e.1=s)&&decide (e.2=r))
def wL(E:List (Int×Int))(r s:Nat):Bool:=E.any fun e=>aJr e r s
theorem aXg(E:Tb_)(e:Int×Int):wL (E++[e])=fun r s=>wL E r s||aJr e r s:=by funext r s;simp[wL]
theorem bDp(f:Ti_){x y:Nat}(h:x≠y){e:Int×Int}(i:e.1=x)(j:e.2=y)(g:isV e.1=true/\isV e.2=true):aXd f x y=fun r s=>f r s||aJr e r s:=by funext r s;rw[aUr f h,aJr,g.1,g.2,i,j];simp only[Bool.and_self,Q9];congr 1;by_cases a:r=x<;>by_cases b:s=y<;>by_cases c:r=y<;>by_cases d:s=x<;>simp[a,b,c,d]<;>omega
theorem bRp(f:Ti_){e:Int×Int}(a:(isV e.1&&isV e.2)=false):(fun r s=>f r s||aJr e r s)=f:=by funext r s;rw[aJr,a];simp
def aXh(n:Nat)(E:List (Int×Int)):Prop:=∀e∈E,∃x y:Nat,e.1=x/\e.2=y/\x<n/\y<n/\x≠y
theorem aUx{n:Nat}{tE:Tag}{E:Tb_}{tM:Tag}{M:Tb_}(W:n<=1000000)(hE:E.length<=1000000)(J:aXh n E)(x0 x1 x2 x4 x6 x7 x8:TV):∀(k i:Nat) (a:Ad) (f:Ti_) (S:aA) (x5 x12 x13:TV),i+k=E.length->PT S a ⟨n,tE,E,tM,M,f,f,fun r=>r,fun _=>0⟩->f=wL (E.take i) ->∃P s z S',lp' (lim K) t66L0 [x0,x1,x2,.ptr a.ip 106 0,x4,x5,x6,x7,x8,.iv (.sl tE (E.map iQ)),j_ E.length,j_ i,x12,x13] S = .ret (.exit 2,[x0,x1,x2,.ptr a.ip 106 0,x4,P,x6,x7,x8,.iv (.sl tE (E.map iQ)),j_ E.length,j_ E.length,s,z],S')/\PT S' a ⟨n,tE,E,tM,M,wL E,wL E,fun r=>r,fun _=>0⟩
 |0,i,a,f,S,x5,x12,x13,h,hP,hf=>by obtain rfl:i=E.length:=A_;rw[C5]at hf;subst hf;refine⟨x5,z_,x13,S,aE K _ _ t66L0.eq_1 ?_,hP⟩;simp(disch:=omega)only[go_sem]
 |k+1,i,a,f,S,x5,x12,x13,h,hP,hf=>by
  have H:i<E.length:=A_;have d:=jF (w:=2) (f:=iQ) (fun _=>rfl) (t:=tE) (l:=E) (i:=(i:Int)) A_;rw[Int.toNat_natCast]at d;have T:E.getD i default∈E:=by simp only[List.getD,D_ H,Option.getD_some];exact B8 _
  have h4:E.take (i+1)=E.take i++[E.getD i default]:=by rw[G4];simp[List.getD,D_ H]
  generalize E.getD i default=e at *
  obtain⟨x,y,hx,Z,o,m,F⟩:=J e T;have Q:=aXg (E.take i) e;rw[<-h4,<-hf]at Q;have u:=aJm (x:Int);have p:=aJm (y:Int);rw[iQ,hx,Z]at d;have g:=fun f' S' x5 x12 x13=>aUx (tE:=tE) (tM:=tM) (M:=M) W hE J x0 x1 x2 x4 x6 x7 x8 k (i+1) a f' S' x5 x12 x13 A_;rw[show((i+1:Nat):Int)=(i:Int)+1 by omega]at g;cases hv:(isV e.1&&isV e.2)with
  |false =>
   rw[bRp f hv]at Q;have g:=fun b=>g f S (.lb [j_ x,j_ y]) e_ (.iv (.bool b)) hP Q.symm;rw[hx,Z]at hv;unfold isV at hv;obtain⟨P,s,z,S',g,G⟩:=g false;refine⟨P,s,z,S',aE K _ _ t66L0.eq_1 ?_,G⟩;cases h1:kH (x:Int)with
   |true =>
    rw[h1]at u hv;cases h2:kH (y:Int)with
    |true=>rw[h2]at hv;simp at hv
    |false =>
     rw[h2]at p hv;have q:¬(32:Int)<=y:=by simpa using hv
     simp(disch:=omega)only[go_sem,d,aD u,aD p,aC,P1];exact X_ er g
   |false =>
    rw[h1]at u hv;by_cases I:(32:Int)<=x
    .cases h2:kH (y:Int)with
     |true=>rw[h2]at hv;simp at hv;omega
     |false =>
      rw[h2]at p hv;have q:¬(32:Int)<=y:=by intro h3;simp at hv;omega
      simp(disch:=omega)only[go_sem,d,aD u,aD p,aC,P1];exact X_ er g
    .simp(disch:=omega)only[go_sem,d,aD u,aD p,aC,P1];exact X_ er g
  |true =>
   rw[O_]at hv;have hl:=bDp f F hx Z hv;rw[<-hl]at Q;obtain⟨S1,A,D,h6⟩:=bDf hP (C0 W C_) o m F;obtain⟨l,c,R,o2,o3⟩:=D.omap x o;have hm:=mF.put R o2 o3 y m (C0 W C_) (IntKind.i64.wrap (lT l y+1));have C:=D.setM o hm;obtain⟨l',c',N,q2,q3⟩:=C.omap y m;simp only[cZ _ _ (B0 F)]at q3;have h0:=mF.put N q2 q3 x o (C0 W C_) (IntKind.i64.wrap (lT l' x+1));have h5:=C.setM m h0;have L:=D.blk;have b2:=D.own;have b3:=C.blk;have b4:=C.own;have U:=fR (j:=a.jo) (v:=a.vo) o;have i2:=fR (j:=a.jo) (v:=a.vo) m;have V:=dO (fun r=>TV.map (a.om r)) o;have Y:=dO (fun r=>TV.map (a.om r)) m;simp only[dL]at L b3;obtain⟨P,s,z,S',g,G⟩:=g (aXd f x y) _ (.lb [j_ x,j_ y]) e_ e_ h5 Q.symm;refine⟨P,s,z,S',aE K _ _ t66L0.eq_1 ?_,G⟩;rw[hx,Z]at hv;unfold isV at hv;cases h1:kH (x:Int)with
   |true =>
    rw[h1]at u hv;cases h2:kH (y:Int)with
    |true =>rw[h2]at p;simp(disch:=omega)only[go_sem,d,aD u,aD p,aC,P1,A,L,b2,U,i2,V,Y,R,b3,b4,N];exact X_ er g
    |false =>
     rw[h2]at p hv;have q:(32:Int)<=y:=by simpa using hv.2
     simp(disch:=omega)only[go_sem,d,aD u,aD p,aC,P1,A,L,b2,U,i2,V,Y,R,b3,b4,N];exact X_ er g
   |false =>
    rw[h1]at u hv;have I:(32:Int)<=x:=by simpa using hv.1
    cases h2:kH (y:Int)with
    |true =>rw[h2]at p;simp(disch:=omega)only[go_sem,d,aD u,aD p,aC,P1,A,L,b2,U,i2,V,Y,R,b3,b4,N];exact X_ er g
    |false =>
     rw[h2]at p hv;have q:(32:Int)<=y:=by simpa using hv.2
     simp(disch:=omega)only[go_sem,d,aD u,aD p,aC,P1,A,L,b2,U,i2,V,Y,R,b3,b4,N];exact X_ er g
def pn0(n:Nat)(tE:Tag)(E:List (Int×Int))(tM:Tag)(M:List (Int×Int)):Pn:=⟨n,tE,E,tM,M,wL E,wL E,fun r=>r,fun _=>0⟩
theorem bDq{z:IV}{bytes m n:Nat}(b:dY n bytes=true):mkV [z] bytes m (j_ n) (j_ n)=some (.msl m 0 0 n n 1,.cells 0 false (cF n fun _=>.iv z)):=by have a:=bLn (.iv z) n;simp[mkV,TM.eX,b,a]
theorem bRq{n:Nat}{tE:Tag}{E:Tb_}{tM:Tag}{M:Tb_}(f:n<=1000000)(t:32<=n)(i:E.length<=1000000)(d:aXh n E): ∃S' a,(lim K).call 66 [.iv (gv n tE E tM M)] []=.ret (.ptr a.ip 106 0,S')/\PT S' a (pn0 n tE E tM M):=by obtain⟨l,j,S1,nm,e,c,g⟩:=bRo (t1:=tE) (E:=E) (t2:=tM) (M:=M) f A_ (.iv (gv n tE E tM M)) (.lb (qX n tE E tM M)) (.iv .nilp) u_ u_ u_ u_ u_ u_ u_ u_ [.cells 0 false (cF n fun _=>vI 0),.cells 106 false [j_ n,.iv (.sl tE (E.map iQ)),.iv (.sl tM (M.map iQ)),k_,k_,k_,.msl 0 0 0 n n 1]] rfl rfl rfl;obtain⟨q,k,o,S2,l2,p⟩:=aUx (tE:=tE) (tM:=tM) (M:=M) f i d (.iv (gv n tE E tM M)) (.lb (qX n tE E tM M)) (.iv .nilp) l (j_ n) (j_ n) j E.length 0 ⟨1,6,n-1,7,n-1,8,n-1,0,nm,e⟩ (fun _ _=>false) S1 u_ u_ u_ A_ g.pt (by funext r s;simp[wL]);rw[n0_]at l2;refine⟨S2,⟨1,6,n-1,7,n-1,8,n-1,0,nm,e⟩,aI K _ (fn:=t66) rfl rfl ?_,p⟩;have h:=fun m=>bDq (z:=.int .i64 0) (m:=m) (bR (n:=n) (b:=8) A_);unfold vI at c;unfold qX gv at c l2;unfold gv;simp(disch:=omega)only[t66,go_sem,h];rw[c];simp(disch:=omega)only[go_sem,P_];rw[l2];simp(disch:=omega)only[go_sem]
theorem aUy{n:Nat}{x:Nat}(a:x<n)(h:isV (x:Int)=true):vtx n x:=by unfold isV kH at h;refine⟨a,?_⟩;simp at h;omega
theorem aMi(E:Tb_)(r s:Nat):wL E r s=wL E s r:=by unfold wL;congr 1;funext e;unfold aJr;congr 1;rw[Bool.or_comm]
theorem uS{n:Nat}{E:Tb_}(i:aXh n E){r s:Nat}(h:wL E r s=true):r≠s/\vtx n r/\vtx n s/\∃e∈E,e.1=r/\e.2=s\/e.1=s/\e.2=r:=by
 obtain⟨e,c,b⟩:=E5.1 h;obtain⟨x,y,g,f,k,d,a⟩:=i e c;unfold aJr at b;rw[g,f]at b;simp only[O_,D3,p_]at b;obtain⟨⟨o,q⟩,j⟩:=b;have l:=aUy k o;have m:=aUy d q;rcases j with⟨j,p⟩|⟨j,p⟩;.obtain rfl:x=r:=A_;obtain rfl:y=s:=A_;exact⟨a,l,m,e,c,.inl ⟨g,f⟩⟩
 .obtain rfl:x=s:=A_;obtain rfl:y=r:=A_;exact⟨B0 a,m,l,e,c,.inr ⟨g,f⟩⟩
theorem inv0{n:Nat}{tE:Tag}{E:Tb_}{tM:Tag}{M:Tb_}(a:aXh n E):Inv (pn0 n tE E tM M) (fun r=>r) (fun _=>0) :=
 ⟨⟨fun r _ h=>absurd rfl h,fun r _ _=>rfl⟩,fun r s _ _ h=>by rw[<-h];exact aMi E s r,fun r=>by
  cases h:(pn0 n tE E tM M).near r r with
  |false=>rfl
  |true=>exact absurd rfl (uS a h).1,fun r s _ _ h=>⟨rfl,(uS a h).2.1⟩,fun r s _ _ h=>h,fun _ _ _=>rfl,fun _ _ h=>h⟩
def vO(lv:TV)(l:List Nat):Prop:=(∃t,lv=.iv (.sl t (cQ l)))\/∃j,lv=.tsl j (cQ l)
theorem vO.acc(j:Nat)(l:Tc_):vO (acc j (cQ l)) l:=by
 by_cases h:cQ l=[]
 .rw[h,mD];exact .inl ⟨.nil,by rw[h]⟩
 .rw[jQ _ h];exact .inr ⟨j,rfl⟩
theorem uT{t:Tag}{l:Tc_}{i:Nat}(h:i<l.length):indexAddrS 1 (.iv (.sl t (cQ l))) (i:Int)=some (.iv (.cp [.int .i64 (l.getD i default:Nat)])):=by have:=jF (w:=1) (f:=fun m:Nat=>[IV.int .i64 (m:Int)]) (fun _=>rfl) (t:=t) (l:=l) (i:=(i:Int)) A_;rwa [Int.toNat_natCast]at this
theorem xR{j:Nat}{l:Tc_}{i:Nat}(h:i<l.length):indexAddrS 1 (.tsl j (cQ l)) (i:Int)=some (.iv (.cp [.int .i64 (l.getD i default:Nat)])):=uT (t:=.no) h
def bI(b:Bool):TV:=.iv (.bool b)
def aJs(p:Pn)(m:Nat)(c:Nat):Prop:=∃t,t<p.n/\p.own m t=true/\p.out t=c/\1<=c/\c<=24
def e40(a:Ad)(lv x2:TV)(T:Nat->Bool)(x4 x5 x6 x7 x8 x9 x10 x11 x12 x13 x14 x15:TV):List TV:=[.ptr a.ip 106 0,lv,x2,.lb (cF 25 fun c=>bI (T c)),x4,x5,x6,x7,x8,x9,x10,x11,x12,x13,x14,x15]
theorem aJt{a:Ad}{p:Pn}{lv:TV}{r:Nat}(hr:r<p.n){bi c:Nat}{l:Td_}(J:gB l c)(hf:∀t:Int,cB l t=true↔∃s:Nat,t=s/\s<p.n/\p.own r s=true)(x2 x4 x6 x7 x8 x9 x10 x14 x15:TV): ∀(k:Nat) (b:Tc_) (T:Tj_) (S:aA) (x5 x12 x13:TV),left l b<k->PT S a p->S[bi]?=some (.mit (some (a.om r)) c b c)->S[a.om r]?=some (.mp (mpR vI l) c) ->(lp' (lim K) t98L1 (e40 a lv x2 T x4 x5 x6 x7 x8 x9 x10 (.it bi) x12 x13 x14 x15) S).All fun q=>∃T' I d i,bL [bi] S q.2.2/\q.1=.exit 2 /\q.2.1=e40 a lv x2 T' x4 I x6 x7 x8 x9 x10 (.it bi) d i x14 x15/\∀c:Nat,T' c=true↔T c=true\/∃z∈l,z.1∉b/\p.out z.2.1.toNat=c/\1<=c/\c<=24
 |0,b,T,S,x5,x12,x13,hk,hP,hb,hm=>A_
 |k+1,b,T,S,x5,x12,x13,hk,hP,hb,hm=>by
  unfold e40;refine fC t98L1.eq_1 ?_;simp(disch:=omega)only[go_sem];refine jJ hb hm J.born (L_ _) (fun N=>?_) (fun z y U=>?_);.simp(disch:=omega)only[go_sem];exact bG ⟨T,_,_,_,.refl _ _,rfl,rfl,fun c=>⟨.inl,fun h=>h.elim id fun⟨z,y,U,_⟩=>absurd (N z y) U⟩⟩
  .have h0:=vJ y U;have Z:bi≠a.om r:=bO hb hm B_;have m:=hP.setIt hb (.mit (some (a.om r)) c (b++[z.1]) c);have u:(S.set bi (.mit (some (a.om r)) c (b++[z.1]) c))[bi]?=_:=aM (aN hb) _;have C:(S.set bi (.mit (some (a.om r)) c (b++[z.1]) c))[a.om r]?=some (.mp (mpR vI l) c):=by rw[aB Z];exact hm
   have V:=aAq u C y J.once;have F:bL [bi] S (S.set bi (.mit (some (a.om r)) c (b++[z.1]) c)):=bL.set _ B_ _;generalize S.set bi (.mit (some (a.om r)) c (b++[z.1]) c)=S1 at *
   obtain⟨t,P,G,h3⟩:=wK hf y;have Y:=m.blk;have b2:=m.out;have i1:=fR (j:=a.ju) (v:=0) G;have R:=dO (fun r=>vI (p.out r)) G;have f:=aJm (p.out t);simp only[dL]at Y;simp only[vI]at b2 R;rw[P]at V;have g:∀(T1 T':Tj_),(∀c:Nat,T1 c=true↔T c=true\/p.out t=c/\1<=c/\c<=24)->(∀c:Nat,T' c=true↔T1 c=true\/∃w∈l,w.1∉b++[z.1]/\p.out w.2.1.toNat=c/\1<=c/\c<=24)->∀c:Nat,T' c=true↔T c=true\/∃z∈l,z.1∉b/\p.out z.2.1.toNat=c/\1<=c/\c<=24:=by
    intro T1 T' L h2 c;rw[h2 c,L c];constructor
    .rintro((h|h)|⟨w,Q,D,h⟩);.exact .inl h
     .exact .inr ⟨z,y,U,by rw[P,Int.toNat_natCast];exact h⟩
     .exact .inr ⟨w,Q,fun e=>D (by simp[e]),h⟩
    .rintro(h|⟨w,Q,D,h⟩);.exact .inl (.inl h)
     .by_cases e:w.1=z.1;.have:=aMg J.once Q y e;subst this;rw[P,Int.toNat_natCast]at h;exact .inl (.inr h)
      .exact .inr ⟨w,Q,by simp[D,e],h⟩
   rw[P];cases hc:kH (p.out t)with
   |false =>rw[hc]at f;have H:=aJt (lv:=lv) hr J hf x2 x4 x6 x7 x8 x9 x10 x14 x15 k (b++[z.1]) T S1 (j_ t) e_ z_ A_ m u C;unfold e40 at H;simp(disch:=omega)only[go_sem,V,Y,b2,i1,R,aD f];refine cP (Out.all_mono ?_ H);rintro q ⟨T',I,d,i,k1,e1,e2,L⟩;refine⟨T',I,d,i,F.trans k1,e1,e2,g T T' (fun c=>⟨.inl,fun h=>h.elim id fun h=>?_⟩) L⟩;unfold kH at hc;simp at hc;omega
   |true =>
    rw[hc]at f;have W:1<=p.out t/\p.out t<=24:=by unfold kH at hc;simpa using hc
    obtain⟨o,A⟩:∃o:Nat,p.out t=o:=⟨(p.out t).toNat,by omega⟩
    rw[A]at f R W;have E:o<25:=A_;have x:=lF (fun c=>bI (T c)) (bI true) E;rw[oB bI]at x;have H:=aJt (lv:=lv) hr J hf x2 x4 x6 x7 x8 x9 x10 x14 x15 k (b++[z.1]) (upd T o true) S1 (j_ t) e_ e_ A_ m u C;unfold e40 at H;rw[show bI true=e_ from rfl]at x;simp(disch:=omega)only[go_sem,V,Y,b2,i1,R,aD f,x,Int.toNat_natCast,H9,A9];refine cP (Out.all_mono ?_ H);rintro q ⟨T',I,d,i,k1,e1,e2,L⟩;refine⟨T',I,d,i,F.trans k1,e1,e2,g _ T' (fun c=>?_) L⟩;unfold upd;split;.rename_i e;subst e;simp[A];omega
    .rename_i e;rw[A];constructor;.exact .inl
     .rintro(h|⟨h,_⟩);.exact h
      .omega
theorem aUz{a:Ad}{p:Pn}{lv:TV}{l:Tc_}(d:vO lv l)(N:l.length<=1000000)(D:∀m∈l,m<p.n)(x2 x6 x14 x15:TV): ∀(k i:Nat) (T:Tj_) (S:aA) (x4 x5 x10 x11 x12 x13:TV),i+k=l.length->PT S a p ->(lp' (lim K) t98L2 (e40 a lv x2 T x4 x5 x6 lv (j_ l.length) (j_ i) x10 x11 x12 x13 x14 x15) S).All fun q=>∃T' y4 R J Y s A,bL [] S q.2.2/\q.1=.exit 0 /\q.2.1=e40 a lv x2 T' y4 R x6 lv (j_ l.length) (j_ l.length) J Y s A x14 x15/\∀c:Nat,T' c=true↔T c=true\/∃m∈l.drop i,aJs p m c
 |0,i,T,S,x4,x5,x10,x11,x12,x13,h,hP=>by
  obtain rfl:i=l.length:=A_;unfold e40;refine fC t98L2.eq_1 ?_;rcases d with⟨t,rfl⟩|⟨j,rfl⟩;.simp(disch:=omega)only[go_sem];exact bG ⟨T,_,_,_,_,_,_,.refl _ _,rfl,rfl,fun c=>by rw[D7];simp⟩
  .simp(disch:=omega)only[go_sem];exact bG ⟨T,_,_,_,_,_,_,.refl _ _,rfl,rfl,fun c=>by rw[D7];simp⟩
 |k+1,i,T,S,x4,x5,x10,x11,x12,x13,h,hP=>by
  have b:i<l.length:=A_;have h0:l.drop i=l.getD i default::l.drop (i+1):=by rw[A7 b];simp[List.getD,D_ b]
  have h6:=fun t=>uT (t:=t) b;have h5:=fun j=>xR (j:=j) b;have G:l.getD i default<p.n:=D _ (by simp only[List.getD,D_ b,Option.getD_some];exact B8 _);generalize l.getD i default=r at *
  obtain⟨Q,c,o1,o2,I⟩:=hP.omap r G;have P:=hP.blk;have b2:=hP.own;have i1:=fR (j:=a.jo) (v:=a.vo) G;have s1:=dO (fun r=>TV.map (a.om r)) G;simp only[dL]at P;have rg:=kG o1;have k1:=bL.app [] S [aG.mit (some (a.om r)) c [] c];have l1:=aJt (lv:=lv) G o2 I x2 (j_ r) x6 lv (j_ l.length) (j_ i) e_ x14 x15 (left Q []+1) [] T (S++[.mit (some (a.om r)) c [] c]) x5 x12 x13 A_ (hP.keep k1) (cM _ _) (k1.get _ _ B_ o1);have F:=fun T' S' x4 x5 x10 x11 x12 x13=>aUz (a:=a) d N D x2 x6 x14 x15 k (i+1) T' S' x4 x5 x10 x11 x12 x13 A_;rw[show((i+1:Nat):Int)=(i:Int)+1 by omega]at F;unfold e40 at F l1 |-;refine fC t98L2.eq_1 ?_;have fin:∀(T1 T':Tj_),(∀c:Nat,T1 c=true↔T c=true\/∃z∈Q,z.1∉([]:Tc_)/\p.out z.2.1.toNat=c/\1<=c/\c<=24)->(∀c:Nat,T' c=true↔T1 c=true\/∃m∈l.drop (i+1),aJs p m c)->∀c:Nat,T' c=true↔T c=true\/∃m∈l.drop i,aJs p m c:=by
   intro T1 T' E h2 c;rw[h2 c,E c,h0];have e:(∃z∈Q,z.1∉([]:Tc_)/\p.out z.2.1.toNat=c/\1<=c/\c<=24)↔aJs p r c:=by
    constructor;.rintro⟨z,Z,_,H,V⟩;obtain⟨t,ht,g,f⟩:=wK I Z;rw[ht,Int.toNat_natCast]at H;exact⟨t,g,f,H,V⟩
    .rintro⟨t,g,f,H,V⟩;obtain⟨z,Z,W⟩:=r_.1 (oP.1 ((aDq I g).trans f));exact⟨z,Z,by simp,by rw[W,Int.toNat_natCast];exact H,V⟩
   rw[e];simp only[J_,exists_eq_or_imp,AB]
  rcases d with⟨t,rfl⟩|⟨j,rfl⟩;.simp(disch:=omega)only[go_sem,h6,P,b2,i1,s1,rg];refine mS l1 ?_;rintro j e S1 ⟨T1,R,s,A,u,C,e2,E⟩;dsimp only at C e2 u;subst C e2;simp(disch:=omega)only[go_sem,aC];refine cP (Out.all_mono ?_ (F T1 S1 _ _ _ _ _ _ (hP.keep (mG u))));rintro q ⟨T',z4,L,w,o,x,y,U,f1,f2,f3⟩;exact⟨T',z4,L,w,o,x,y,(mG u).trans U,f1,f2,fin T1 T' E f3⟩
  .simp(disch:=omega)only[go_sem,h5,P,b2,i1,s1,rg];refine mS l1 ?_;rintro j e S1 ⟨T1,R,s,A,u,C,e2,E⟩;dsimp only at C e2 u;subst C e2;simp(disch:=omega)only[go_sem,aC];refine cP (Out.all_mono ?_ (F T1 S1 _ _ _ _ _ _ (hP.keep (mG u))));rintro q ⟨T',z4,L,w,o,x,y,U,f1,f2,f3⟩;exact⟨T',z4,L,w,o,x,y,(mG u).trans U,f1,f2,fin T1 T' E f3⟩
theorem aJu{a:Ad}{lv:TV}(T:Tj_)(S:aA)(x4 x5 x7 x8 x9 x10 x11 x12 x13:TV):∀(k c:Nat) (x14 x15:TV),c+k=25 ->∃j v m f b,lp' (lim K) t98L0 (e40 a lv (j_ 0) T x4 x5 (j_ c) x7 x8 x9 x10 x11 x12 x13 x14 x15) S = .ret (j,e40 a lv (j_ v) T x4 x5 m x7 x8 x9 x10 x11 x12 x13 f b,S)/\(j=.exit 4/\(∀d,c<=d->d<=24->T d=true)\/j=.ret/\∃d:Nat,v=d/\c<=d/\d<=24/\T d=false)
 |0,c,x14,x15,h=>by obtain rfl:c=25:=A_;refine⟨.exit 4,0,j_ 25,z_,x15,?_,.inl ⟨rfl,fun d i o=>A_⟩⟩;unfold e40;refine aE K _ _ t98L0.eq_1 ?_;simp(disch:=omega)only[go_sem];rfl
 |k+1,c,x14,x15,h=>by
  have g:=dO (fun c=>bI (T c)) (show c<25 by omega);simp only[bI]at g;cases hT:T c with
  |false =>rw[hT]at g;refine⟨.ret,c,j_ c,e_,e_,?_,.inr ⟨rfl,c,rfl,L_ _,by omega,hT⟩⟩;unfold e40;simp only[bI];refine aE K _ _ t98L0.eq_1 ?_;simp(disch:=omega)only[go_sem,g,Int.toNat_natCast,H9,A9]
  |true =>
   rw[hT]at g;obtain⟨j,v,m,f,b,l,p⟩:=aJu T S x4 x5 x7 x8 x9 x10 x11 x12 x13 k (c+1) e_ z_ A_;rw[show((c+1:Nat):Int)=(c:Int)+1 by omega]at l;refine⟨j,v,m,f,b,?_,?_⟩;.unfold e40 at l |-;simp only[bI]at l |-;refine aE K _ _ t98L0.eq_1 ?_;simp(disch:=omega)only[go_sem,g,Int.toNat_natCast,H9,A9,aC];exact X_ er l
   .rcases p with⟨rfl,i⟩|⟨rfl,d,i,o,n,q⟩
    .refine .inl ⟨rfl,fun d o n=>?_⟩;by_cases e:d=c;.rw[e];exact hT
     .exact i d A_ n
    .exact .inr ⟨rfl,d,i,by omega,n,q⟩
def aDu(p:Pn)(l:List Nat)(v:Int):Prop:=v = -1/\(∀d:Nat,1<=d->d<=24->∃m∈l,aJs p m d)\/∃d:Nat,v=d/\1<=d/\d<=24/\∀m∈l,¬aJs p m d
theorem bDr{S:aA}{a:Ad}{p:Pn}(N:PT S a p){lv:TV}{l:Tc_}(k:vO lv l)(A:l.length<=1000000)(I:∀m∈l,m<p.n): ((lim K).call 98 [.ptr a.ip 106 0,lv] S).All fun r=>∃v,r.1=j_ v/\bL [] S r.2/\aDu p l v:=by
 have x:=aUz k A I (j_ 0) u_ u_ u_ l.length 0 (fun _=>false) S u_ u_ u_ u_ u_ u_ A_ N;rw[n0_,C4]at x;unfold e40 at x;rw[show cF 25 (fun c=>bI ((fun _=>false) c))=[z_,z_,z_,z_,z_,z_,z_,z_,z_,z_,z_,z_,z_,z_,z_,z_,z_,z_,z_,z_,z_,z_,z_,z_,z_] from rfl]at x;refine dG K _ (fn:=t98) rfl rfl ?_;have f:∀(T:Tj_),(∀c:Nat,T c=true↔false=true\/∃m∈l,aJs p m c)->∀(j:aV) (v:Int),(j=.exit 4/\(∀d,1<=d->d<=24->T d=true)->aDu p l (-1))/\((j=.ret/\∃d:Nat,v=d/\1<=d/\d<=24/\T d=false)->aDu p l v):=by intro T L j v;refine⟨fun⟨_,h⟩=>.inl ⟨rfl,fun d D J=>by simpa using(L d).1 (h d D J)⟩,fun⟨_,d,D,J,h3,h4⟩=>.inr ⟨d,D,J,h3,fun m P q=>?_⟩⟩;rw[(L d).2 (.inr ⟨m,P,q⟩)]at h4;cases h4
 have U:sI .sl S lv=some (j_ l.length):=by
  rcases k with⟨t,rfl⟩|⟨j,rfl⟩;.show some (TV.iv (IV.int .i64 ((cQ l).length:Nat)))=_;rw[iW]
  .show some (TV.iv (IV.int .i64 ((cQ l).length:Nat)))=_;rw[iW]
 rcases k with⟨t,rfl⟩|⟨j,rfl⟩
 .simp(disch:=omega)only[t98,go_sem,iW];refine dJ x ?_;rintro j e S1 ⟨T,C,G,g,i,s,o,u,y,w,E⟩;dsimp only at y w u;subst y w;obtain⟨j,v,Q,H,z,l2,b⟩:=aJu (a:=a) (lv:=.iv (.sl t (cQ l))) T S1 C G (.iv (.sl t (cQ l))) (j_ l.length) (j_ l.length) g i s o 24 1 u_ u_ A_;rw[show((1:Nat):Int)=1 from rfl]at l2;unfold e40 at l2;simp(disch:=omega)only[go_sem];rw[l2];have q:=f T E j v;rcases b with⟨rfl,b⟩|⟨rfl,b⟩;.simp(disch:=omega)only[go_sem];exact bG ⟨-1,rfl,u,q.1 ⟨rfl,b⟩⟩
  .simp(disch:=omega)only[go_sem];exact bG ⟨v,rfl,u,q.2 ⟨rfl,b⟩⟩
 .simp(disch:=omega)only[t98,go_sem,iW];refine dJ x ?_;rintro R e S1 ⟨T,C,G,g,i,s,o,u,y,w,E⟩;dsimp only at y w u;subst y w;obtain⟨F,v,Q,H,z,l2,b⟩:=aJu (a:=a) (lv:=.tsl j (cQ l)) T S1 C G (.tsl j (cQ l)) (j_ l.length) (j_ l.length) g i s o 24 1 u_ u_ A_;rw[show((1:Nat):Int)=1 from rfl]at l2;unfold e40 at l2;simp(disch:=omega)only[go_sem];rw[l2];have q:=f T E F v;rcases b with⟨rfl,b⟩|⟨rfl,b⟩;.simp(disch:=omega)only[go_sem];exact bG ⟨-1,rfl,u,q.1 ⟨rfl,b⟩⟩
  .simp(disch:=omega)only[go_sem];exact bG ⟨v,rfl,u,q.2 ⟨rfl,b⟩⟩
theorem aHb{a:Ad}(S:aA)(b:aG):KpX a.own S (S.set a.ju b):=KpX.keep (bL.set (I:=[a.ju]) _ B_ _) (by simp[Ad.own])
theorem aU0{a:Ad}{lv:TV}{l:Tc_}(f:vO lv l)(s:l.length<=1000000)(c:Int)(E:c≠-1): ∀(k i:Nat) (p:Pn) (S:aA) (g x7 x8:TV),i+k=l.length->(∀m∈l,m<p.n)->PT S a p ->∃u q A S' b,lp' (lim K) t71L0 [.ptr a.ip 106 0,lv,j_ c,g,lv,j_ l.length,j_ i,x7,x8] S = .ret (.exit 0,[.ptr a.ip 106 0,lv,j_ c,u,lv,j_ l.length,j_ l.length,q,A],S')/\PT S' a {p with out:=b}/\KpX a.own S S'/\∀m,b m=if m∈l.drop i then c else p.out m
 |0,i,p,S,g,x7,x8,h,hln,hP=>by
  obtain rfl:i=l.length:=A_;refine⟨g,z_,x8,S,p.out,aE K _ _ t71L0.eq_1 ?_,hP,.refl _ _,fun m=>by rw[D7];simp⟩;rcases f with⟨t,rfl⟩|⟨j,rfl⟩;.simp(disch:=omega)only[go_sem]
  .simp(disch:=omega)only[go_sem]
 |k+1,i,p,S,g,x7,x8,h,hln,hP=>by
  have d:i<l.length:=A_;have y:l.drop i=l.getD i default::l.drop (i+1):=by rw[A7 d];simp[List.getD,D_ d]
  have D:=fun t=>uT (t:=t) d;have z:=fun j=>xR (j:=j) d;have F:l.getD i default<p.n:=hln _ (by simp only[List.getD,D_ d,Option.getD_some];exact B8 _);generalize l.getD i default=r at *
  have w:=hP.setOut r c;have x:=hP.blk;have b2:=hP.out;have G:=fR (j:=a.ju) (v:=0) F;have C:=lF (fun r=>vI (p.out r)) (vI c) F;simp only[dL]at x;obtain⟨u,q,A,S',b,o,H,I,J⟩:=aU0 f s c E k (i+1) {p with out:=upd p.out r c} _ (j_ r) e_ z_ A_ hln w;rw[show((i+1:Nat):Int)=(i:Int)+1 by omega]at o;simp only[vI]at b2 C o;refine⟨u,q,A,S',b,aE K _ _ t71L0.eq_1 ?_,H,(aHb _ _).trans I,fun m=>?_⟩
  .rcases f with⟨t,rfl⟩|⟨j,rfl⟩;.simp(disch:=omega)only[go_sem,D,x,b2,G,C,aC,E];exact X_ er o
   .simp(disch:=omega)only[go_sem,z,x,b2,G,C,aC,E];exact X_ er o
  .rw[J m,y];simp only[J_];by_cases e:m∈l.drop (i+1);.rw[K_ e,K_ (.inr e)]
   .rw[I_ e];by_cases e2:m=r;.subst e2;rw[bU,K_ (.inl rfl)]
    .rw[cZ _ _ e2,I_ (by simp[e,e2])]
inductive zN (p:Pn):List Nat->(Nat->Int)->(Nat->Int)->Prop
 |nil (o:Nat->Int):zN p [] o o
 |cons {m:Nat} {l:List Nat} {o o':Nat->Int} {v:Int} (h:aDu {p with out:=o} [m] v) (g:zN p l (upd o m v) o'):zN p (m::l) o o'
theorem zN.re{p:Pn}{X:Tg_}{l:Tc_}{o o':Tg_}(h:zN {p with out:=X} l o o'):zN p l o o':=by
 induction h with
 |nil o=>exact .nil o
 |cons h g ih=>exact .cons h ih
theorem aU1{a:Ad}{lv:TV}{l:Tc_}(o:vO lv l)(z:l.length<=1000000): ∀(k i:Nat) (p:Pn) (S:aA) (A x7 x8:TV),i+k=l.length->(∀m∈l,m<p.n)->PT S a p ->(lp' (lim K) t71L0 [.ptr a.ip 106 0,lv,j_ (-1),A,lv,j_ l.length,j_ i,x7,x8] S).All fun q=>∃s g w b,q.1=.exit 0 /\q.2.1=[.ptr a.ip 106 0,lv,j_ (-1),s,lv,j_ l.length,j_ l.length,g,w]/\PT q.2.2 a {p with out:=b}/\KpX a.own S q.2.2/\zN p (l.drop i) p.out b
 |0,i,p,S,A,x7,x8,h,hln,hP=>by
  obtain rfl:i=l.length:=A_;refine fC t71L0.eq_1 ?_;rcases o with⟨t,rfl⟩|⟨j,rfl⟩;.simp(disch:=omega)only[go_sem];exact bG ⟨_,_,_,p.out,rfl,rfl,hP,.refl _ _,by rw[D7];exact .nil _⟩
  .simp(disch:=omega)only[go_sem];exact bG ⟨_,_,_,p.out,rfl,rfl,hP,.refl _ _,by rw[D7];exact .nil _⟩
 |k+1,i,p,S,A,x7,x8,h,hln,hP=>by
  have d:i<l.length:=A_;have E:l.drop i=l.getD i default::l.drop (i+1):=by rw[A7 d];simp[List.getD,D_ d]
  have G:=fun t=>uT (t:=t) d;have F:=fun j=>xR (j:=j) d;have C:l.getD i default<p.n:=hln _ (by simp only[List.getD,D_ d,Option.getD_some];exact B8 _);generalize l.getD i default=r at *
  have D:=hP.blk;simp only[dL]at D;have H:=fR (j:=a.ju) (v:=0) C;have u:=bDr hP (lv:=.iv (.sl .full (cQ [r]))) (.inl ⟨_,rfl⟩) B_ (by simpa using C);rw[show cQ [r]=[[.int .i64 (r:Int)]] from rfl]at u;have fin:∀(S1:aA) (v:Int),bL [] S S1->aDu p [r] v->∀q:aV×Env×aA,(∃s g w b,q.1=.exit 0 /\
   q.2.1=[.ptr a.ip 106 0,lv,j_ (-1),s,lv,j_ l.length,j_ l.length,g,w]/\PT q.2.2 a {p with out:=b}/\KpX a.own (S1.set a.ju (.cells 0 false (cF p.n (upd (fun r=>vI (p.out r)) r (vI v))))) q.2.2/\zN {p with out:=upd p.out r v} (l.drop (i+1)) (upd p.out r v) b)->∃s g w b,q.1=.exit 0 /\
   q.2.1=[.ptr a.ip 106 0,lv,j_ (-1),s,lv,j_ l.length,j_ l.length,g,w]/\PT q.2.2 a {p with out:=b}/\KpX a.own S q.2.2/\zN p (l.drop i) p.out b:=by
   rintro S1 v c x q ⟨s,g,w,b,L,e2,J,N,P⟩
   exact⟨s,g,w,b,L,e2,J,(KpX.keep c B_).trans ((aHb _ _).trans N),by rw[E];exact .cons x P.re⟩
  have e:=fun S1 v (c:bL [] S S1)=>aU1 o z k (i+1) {p with out:=upd p.out r v} _ (j_ r) e_ e_ A_ hln ((hP.keep c).setOut r v);have f:=fun v=>lF (fun r=>vI (p.out r)) (vI v) C;refine fC t71L0.eq_1 ?_;rcases o with⟨t,rfl⟩|⟨j,rfl⟩;.simp(disch:=omega)only[go_sem,G,D];refine kK u ?_;rintro I S1 ⟨v,y,c,x⟩;dsimp only at y c;subst y;have b3:=(hP.keep c).blk;have b4:=(hP.keep c).out;have f:=f v;have e:=e S1 v c;rw[show((i+1:Nat):Int)=(i:Int)+1 by omega]at e;refine Out.all_mono (fin S1 v c x) ?_;simp only[dL]at b3;simp only[vI]at b4 f e |-;simp(disch:=omega)only[go_sem,b3,b4,H,f,aC];exact cP e
  .simp(disch:=omega)only[go_sem,F,D];refine kK u ?_;rintro I S1 ⟨v,y,c,x⟩;dsimp only at y c;subst y;have b3:=(hP.keep c).blk;have b4:=(hP.keep c).out;have f:=f v;have e:=e S1 v c;rw[show((i+1:Nat):Int)=(i:Int)+1 by omega]at e;refine Out.all_mono (fin S1 v c x) ?_;simp only[dL]at b3;simp only[vI]at b4 f e |-;simp(disch:=omega)only[go_sem,b3,b4,H,f,aC];exact cP e
def qY(p:Pn)(l:List Nat)(out':Nat->Int):Prop :=
 (∃d:Nat,1<=d/\d<=24/\(∀m∈l,¬aJs p m d)/\∀m,out' m=if m∈l then(d:Int)else p.out m)\/(∀d:Nat,1<=d->d<=24->∃m∈l,aJs p m d)/\zN p l p.out out'
theorem bRr{S:aA}{a:Ad}{p:Pn}(C:PT S a p){lv:TV}{l:Tc_}(f:vO lv l)(o:l.length<=1000000)(y:∀m∈l,m<p.n): ((lim K).call 71 [.ptr a.ip 106 0,lv] S).All fun r=>∃b,r.1=u_/\PT r.2 a {p with out:=b}/\KpG a S r.2/\qY p l b:=by
 have z:=bDr C f o y;refine dG K _ (fn:=t71) rfl rfl ?_;have key:∀(S1:aA) (v:Int),bL [] S S1->aDu p l v->(lp' (lim K) t71L0 [.ptr a.ip 106 0,lv,j_ v,u_,lv,j_ l.length,j_ 0,u_,u_] S1).All fun q=>∃s k w b,q.1=.exit 0 /\
   q.2.1=[.ptr a.ip 106 0,lv,j_ v,s,lv,j_ l.length,j_ l.length,k,w]/\PT q.2.2 a {p with out:=b}/\KpG a S q.2.2/\qY p l b:=by
  intro S1 v c u
  rcases u with⟨rfl,u⟩|⟨d,rfl,F,G,H⟩
  .have:=aU1 f o l.length 0 p S1 u_ u_ u_ A_ y (C.keep c)
   refine Out.all_mono ?_ this
   rintro q ⟨s,k,w,b,x,e2,g,h,i⟩
   exact⟨s,k,w,b,x,e2,g,((KpX.keep c B_).trans h).toG,.inr ⟨u,by rwa [C4]at i⟩⟩
  .obtain⟨s,k,w,S',b,D,g,h,i⟩:=aU0 f o d A_ l.length 0 p S1 u_ u_ u_ A_ y (C.keep c)
   rw[n0_]at D
   rw[D]
   rw[C4]at i
   exact bG ⟨s,k,w,b,rfl,rfl,g,((KpX.keep c B_).trans h).toG,.inl ⟨d,F,G,H,i⟩⟩
 rcases f with⟨t,rfl⟩|⟨j,rfl⟩;.simp(disch:=omega)only[t71,go_sem];refine fG z ?_;rintro E S1 ⟨v,A,c,u⟩;dsimp only at A c;subst A;simp(disch:=omega)only[go_sem,iW];refine dJ (key S1 v c u) ?_;rintro j e S2 ⟨s,k,w,b,x,e2,g,h,i⟩;dsimp only at x e2 g h;subst x e2;simp(disch:=omega)only[go_sem];exact bG ⟨b,rfl,g,h,i⟩
 .simp(disch:=omega)only[t71,go_sem];refine fG z ?_;rintro E S1 ⟨v,A,c,u⟩;dsimp only at A c;subst A;simp(disch:=omega)only[go_sem,iW];refine dJ (key S1 v c u) ?_;rintro j e S2 ⟨s,k,w,b,x,e2,g,h,i⟩;dsimp only at x e2 g h;subst x e2;simp(disch:=omega)only[go_sem];exact bG ⟨b,rfl,g,h,i⟩
theorem aJv{L:Tc_}{J:Tn_}{i:Nat}(h:i<L.length):sub (L.map nI++J) i 1=some [nI (L.getD i default)]:=by simp only[sub,H_,P_,show i+1<=L.length+J.length by omega,↓reduceIte];rw[A7 (by simp;omega)];simp[Z2,h,List.getD,D_ h]
structure Dg (S:aA) (jb jd n:Nat) (dg:Nat->Int):Prop where
 box:S[jb]?=some (.cells 27 false [.msl jd 0 0 n n 1])
 row:S[jd]?=some (.cells 0 false (cF n fun r=>vI (dg r)))
theorem bRs{S:aA}{jb c n:Nat}{a:Tg_}(h:Dg S jb c n a){x:Nat}(b:x<n):(lim K).call 93 [j_ x,.ptr jb 27 0] S=.ret (.iv (.bool (decide (a x<24))),S):=by have e:=h.box;have b2:=h.row;have f:=fR (j:=c) (v:=0) b;have d:=dO (fun r=>vI (a r)) b;simp only[vI]at b2 d;refine aI K _ (fn:=t93) rfl rfl ?_;simp(disch:=omega)only[t93,go_sem,e,b2,f,d]
theorem bLo{jl v m cap i:Nat}(h:i<m):indexAddrS 1 (.msl jl v 0 m cap 1) (i:Int)=some (.ptr jl v i):=by rw[aLk A_,Int.toNat_natCast,A9]
theorem aU2{S:aA}{jb D n:Nat}{l:Tg_}(h:Dg S jb D n l){jl v:Nat}{L:Tc_}{J:Tn_}(g:S[jl]?=some (.cells v true (L.map nI++J)))(c:∀x∈L,x<n)(p:L.length<=1000000)(cap:Nat):∀(k i:Nat) (x2 f x6 x7:TV),i+k=L.length ->∃j m r t u o,lp' (lim K) t50L0 [.msl jl v 0 L.length cap 1,.fn 93 [] [.ptr jb 27 0],x2,f,j_ L.length,j_ i,x6,x7] S = .ret (j,[.msl jl v 0 L.length cap 1,.fn 93 [] [.ptr jb 27 0],m,r,j_ L.length,t,u,o],S) /\(j=.exit 0/\(∀q,i<=q->q<L.length->¬l (L.getD q default)<24)\/j=.ret/\∃q:Nat,m=j_ q/\q<L.length/\l (L.getD q default)<24)
 |0,i,x2,f,x6,x7,hk=>by obtain rfl:i=L.length:=A_;refine⟨.exit 0,x2,f,j_ L.length,z_,x7,aE K _ _ t50L0.eq_1 ?_,.inl ⟨rfl,fun q C z=>A_⟩⟩;simp(disch:=omega)only[go_sem]
 |k+1,i,x2,f,x6,x7,hk=>by
  have a:i<L.length:=A_;have w:=bLo (jl:=jl) (v:=v) (cap:=cap) a;have s:=aJv (J:=J) a;have A:L.getD i default<n:=c _ (by simp only[List.getD,D_ a,Option.getD_some];exact B8 _);have b:=bRs h A;simp only[nI]at g s;by_cases hd:l (L.getD i default)<24;.rw[V_ hd]at b;refine⟨.ret,j_ i,j_ i,j_ i,e_,e_,aE K _ _ t50L0.eq_1 ?_,.inr ⟨rfl,i,rfl,a,hd⟩⟩;simp(disch:=omega)only[go_sem,w,g,s,b]
  .rw[Z_ hd]at b;obtain⟨j,m,r,t,u,o,y,d⟩:=aU2 h (J:=J) (by simpa only[nI] using g) c p cap k (i+1) x2 (j_ i) e_ z_ A_;rw[show((i+1:Nat):Int)=(i:Int)+1 by omega]at y;refine⟨j,m,r,t,u,o,aE K _ _ t50L0.eq_1 ?_,?_⟩;.simp(disch:=omega)only[go_sem,w,g,s,b,aC];exact X_ er y
   .rcases d with⟨rfl,d⟩|d
    .refine .inl ⟨rfl,fun q C z=>?_⟩;by_cases e:q=i;.rw[e];exact hd
     .exact d q A_ z
    .exact .inr d
theorem bLp{S:aA}{jb i n:Nat}{f:Tg_}(h:Dg S jb i n f){jl v:Nat}{L:Tc_}{J:Tn_}(k:S[jl]?=some (.cells v true (L.map nI++J)))(c:∀x∈L,x<n)(a:L.length<=1000000)(cap:Nat): ∃w:Int,(lim K).call 50 [.msl jl v 0 L.length cap 1,.fn 93 [] [.ptr jb 27 0]] S=.ret (j_ w,S)/\(w = -1/\(∀q,q<L.length->¬f (L.getD q default)<24)\/∃q:Nat,w=q/\q<L.length/\f (L.getD q default)<24):=by
 obtain⟨j,m,o,p,r,l,d,b⟩:=aU2 h k c a cap L.length 0 (j_ 0) u_ u_ u_ A_;rw[n0_]at d;rcases b with⟨rfl,b⟩|⟨rfl,q,rfl,g,e⟩;.refine⟨-1,aI K _ (fn:=t50) rfl rfl ?_,.inl ⟨rfl,fun q e=>b q A_ e⟩⟩;simp(disch:=omega)only[t50,go_sem];rw[d];simp(disch:=omega)only[go_sem]
 .refine⟨q,aI K _ (fn:=t50) rfl rfl ?_,.inr ⟨q,rfl,g,e⟩⟩;simp(disch:=omega)only[t50,go_sem];rw[d];simp(disch:=omega)only[go_sem]
theorem aU3(x:Int):Pure K 120 [j_ x] z_:=by refine aT t120 rfl rfl ?_;simp(disch:=omega)only[t120,go_sem]
theorem bRt(x y:Int):∃c:Int,Pure K 96 [j_ x,j_ y] (j_ c):=by
 have b:=aU3 x;have a:=aU3 y;by_cases h1:x<y;.refine⟨-1,aT t96 rfl rfl ?_⟩;simp(disch:=omega)only[t96,go_sem,aD b,aD a]
 .by_cases h2:y<x;.refine⟨1,aT t96 rfl rfl ?_⟩;simp(disch:=omega)only[t96,go_sem,aD b,aD a]
  .refine⟨0,aT t96 rfl rfl ?_⟩;simp(disch:=omega)only[t96,go_sem,aD b,aD a]
theorem bRu{S:aA}{jb d n:Nat}{a:Tg_}(h:Dg S jb d n a){x y:Nat}(g:x<n)(e:y<n):∃c:Int,(lim K).call 95 [j_ x,j_ y,.ptr jb 27 0] S=.ret (j_ c,S):=by have k:=h.box;have b2:=h.row;have m:=fR (j:=d) (v:=0) g;have f:=dO (fun r=>vI (a r)) g;have l:=fR (j:=d) (v:=0) e;have i:=dO (fun r=>vI (a r)) e;obtain⟨c,b⟩:=bRt (a x) (a y);simp only[vI]at b2 f i;refine⟨c,aI K _ (fn:=t95) rfl rfl ?_⟩;simp(disch:=omega)only[t95,go_sem,k,b2,m,f,l,i,aD b]
end Go.Proofs.YtehlgnfhkidgoaaGreatDoor
