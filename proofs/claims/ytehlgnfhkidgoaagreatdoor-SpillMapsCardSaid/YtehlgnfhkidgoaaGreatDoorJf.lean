/- Some texts of the proof, joined. Condition: none. -/
import Derived.Test.YtehlgnfhkidgoaaGreatDoorJe
set_option linter.unusedSectionVars false
set_option maxRecDepth 100000
set_option maxHeartbeats 64000000
set_option linter.unusedSimpArgs false
set_option linter.unusedVariables false
namespace Go.Proofs.YtehlgnfhkidgoaaGreatDoor
open Go Go.TM
theorem mE.del{S:aA}{i n:Nat}{f:Tj_}{l:Td_}{c:Nat}(e:S[i]?=some (.mp (mpR vI l) c))(d:gE l c)(h3:∀t:Int,cG l t=true↔∃s:Nat,t=s/\s<n/\f s=true)(k:Nat): mE (S.set i (.mp (mpR vI (wY l k)) c)) i n (fun s=>decide (s≠k)&&f s):=by
 refine⟨_,_,aM (aN e) _,d.del k,fun t=>?_⟩;rw[aPk d.keys,P_,h3 t];constructor
 .rintro⟨h,s,rfl,b,a⟩;refine⟨s,rfl,b,?_⟩;have:s≠k:=by have:=M9 h;omega
  simp[this,a]
 .rintro⟨s,rfl,b,a⟩;simp only[P_,q_]at a;exact⟨by have:=a.1;simp;omega,s,rfl,b,a.2⟩
theorem bDj{a:Ad}{p:Pn}(N:p.n<=1000000000){x y:Nat}(V:x<p.n)(hy:y<p.n)(u:x≠y)(U:p.near y x=false)(T:p.near y y=false){bi c:Nat}{l:Td_}(Z:gE l c)(hf:∀t:Int,cG l t=true↔∃s:Nat,t=s/\s<p.n/\p.near y s=true): ∀(k:Nat) (b:Tc_) (D:Tj_) (S:aA) (x3 x5:TV),left l b<k->(∀z∈l,z.1∈b->D z.2.1.toNat=true)->(∀s,D s=true->p.near y s=true)->PT S a {p with near:=sR p.near x y D}->S[bi]?=some (.mit (some (a.nm y)) c b c)->S[a.nm y]?=some (.mp (mpR vI l) c) ->(lp' (lim K) t91L0 [.ptr a.ip 106 0,j_ x,j_ y,x3,.it bi,x5] S).All fun r=>∃y3 y5,KpX [bi] S r.2.2 /\r.2.1=[.ptr a.ip 106 0,j_ x,j_ y,y3,.it bi,y5]/\r.1=.exit 0/\PT r.2.2 a {p with near:=sR p.near x y (p.near y)}
 |0,b,D,S,x3,x5,hk,hD1,hD2,hP,hb,hm=>A_
 |k+1,b,D,S,x3,x5,hk,hD1,hD2,hP,hb,hm=>by
  refine fE t91L0.eq_1 ?_;simp(disch:=omega)only[go_sem];refine jD hb hm Z.born (O_ _) (fun L=>?_) (fun z C q=>?_)
  .simp(disch:=omega)only[go_sem];refine bE ⟨_,_,.refl _ _,rfl,rfl,hP.congr fun r s hr q=>?_⟩;have J:∀t,t<p.n->D t=p.near y t:=by
    intro t G;cases hn:p.near y t with
    |true =>obtain⟨z,C,h4⟩:=A0.1 (oJ.1 ((aDn hf G).trans hn));have:=hD1 z C (L z C);rwa [h4,Int.toNat_natCast]at this
    |false =>
     cases hd:D t with
     |false=>rfl
     |true=>rw[hD2 t hd]at hn;cases hn
   show sR p.near x y D r s=sR p.near x y (p.near y) r s;unfold sR;rw[J r hr,J s q]
  .have g1:=vE C q;have h7:bi≠a.nm y:=bN hb hm B_;have g:=hP.setIt hb (.mit (some (a.nm y)) c (b++[z.1]) c);have o:(S.set bi (.mit (some (a.nm y)) c (b++[z.1]) c))[bi]?=_:=aM (aN hb) _;have F:(S.set bi (.mit (some (a.nm y)) c (b++[z.1]) c))[a.nm y]?=some (.mp (mpR vI l) c):=by rw[aB h7];exact hm
   have he:=aAl o F C Z.once;have h6:KpX [bi] S (S.set bi (.mit (some (a.nm y)) c (b++[z.1]) c)):=KpX.keep (bL.set (I:=[bi]) _ B_ _) B_;generalize S.set bi (.mit (some (a.nm y)) c (b++[z.1]) c)=S1 at *
   obtain⟨t,G,d,f⟩:=wE hf C;have Q:t≠x:=fun e=>by rw[e,U]at f;cases f
   have Y:t≠y:=fun e=>by rw[e,T]at f;cases f
   obtain⟨lt,ct,m,hp,hl⟩:=g.nmap t d;have hq:=mE.del m hp hl y;have A:=g.setN d hq;have H:a.nm t≠a.nm y:=fun e=>Y (hP.ninj _ _ d hy e);have W:bi≠a.nm t:=bN o m B_;have h8:bL [a.nm t] S1 (S1.set (a.nm t) (.mp (mpR vI (wY lt y)) ct)):=bL.set _ B_ _;have hj:=fun env=>bTo m env (y:Int);obtain⟨S3,hh,hc,E⟩:=bDg A N (x:=x) (y:=t) V d (B0 Q);have h9:=aXg p.near D u Q Y f (fun s=>decide (s≠y)&&sR p.near x y D t s) (fun _=>rfl);have hu:PT S3 a {p with near:=sR p.near x y (upd D t true)}:=by have:=hc;simp only[h9]at this;exact this
   have h0:a.nm x≠a.nm y:=fun e=>u (hP.ninj _ _ V hy e);have hv:S3[bi]?=some (.mit (some (a.nm y)) c (b++[z.1]) c):=E.get _ _ (by obtain⟨lx,cx,h,_⟩:=g.nmap x V;simp only[J_,D5,I4,H2];exact⟨bN o h B_,W⟩) (by rw[aB (B0 W)];exact o);have h5:S3[a.nm y]?=some (.mp (mpR vI l) c):=E.get _ _ (by simp[B0 h0,B0 H]) (by rw[aB H];exact F);have ha:KpX [bi] S1 S3:=(KpX.keep h8 (fun i R=>by simp only[J_,D5,I4]at R;subst R;exact .inr ⟨_,_,m⟩)).trans (KpX.keep E (fun i R=>by
    simp only[J_,D5,I4]at R;right;rcases R with rfl|rfl;.obtain⟨lx,cx,h,_⟩:=A.nmap x V;exact⟨_,_,h⟩
    .obtain⟨lx,cx,h,_⟩:=A.nmap t d;exact⟨_,_,h⟩))
   have ih:=bDj N V hy u U T Z hf k (b++[z.1]) (upd D t true) S3 (j_ t) e_ A_ (fun w hw hg=>by
    unfold upd;split;.rfl
    .rename_i e;rcases a_.1 hg with P|P;.exact hD1 w hw P
     .have:w=z:=aMh Z.once hw C (by simpa using P);rw[this,G,Int.toNat_natCast]at e;exact absurd rfl e) (fun s q=>by
    unfold upd at q;split at q;.rename_i e;rw[e];exact f
    .exact hD2 s q) hu hv h5
   have b1:=g.blk;have b2:=g.near;have i1:=fS (j:=a.jn) (v:=a.vn) d;have s1:=dS (fun r=>TV.map (a.nm r)) d;simp only[dQ]at b1;rw[G]at he;rw[G];simp(disch:=omega)only[go_sem,he,b1,b2,i1,s1,hj,hh];refine cQ (Out.all_mono ?_ ih);rintro r ⟨y3,y5,k1,e1,P,h2⟩;exact⟨y3,y5,h6.trans (ha.trans k1),e1,P,h2⟩
def aAs(f:Nat->Nat->Bool)(x y:Nat):Nat->Nat->Bool:=upd (sR f x y (f y)) y fun _=>false
def nX(p:Pn)(x y:Nat):Pn:={p with to:=upd p.to y x,near:=aAs p.near x y}
theorem bRb{S:aA}{a:Ad}{p:Pn}(h:PT S a p)(o:p.n<=1000000000){x y:Nat}(W:x<p.n)(g:y<p.n)(w:x≠y)(t:p.near y x=false)(q:p.near y y=false): ((lim K).call 91 [.ptr a.ip 106 0,j_ x,j_ y] S).All fun r=>∃nm,r.1=u_/\KpG a S r.2/\PT r.2 {a with nm:=nm} (nX p x y):=by
 have d:=h.setTo y x;have G:=h.blk;have b2:=h.to;have R:=fS (j:=a.jt) (v:=a.vt) g;have Q:=lC (fun r=>nI (p.to r)) (nI x) g;have k:KpX a.own S (S.set a.jt (.cells a.vt true (cF p.n (upd (fun r=>nI (p.to r)) y (nI x))))):=KpX.keep (bL.set (I:=[a.jt]) _ B_ _) (by simp[Ad.own]);obtain⟨l,c,i,u,A⟩:=d.nmap y g;have b3:=d.blk;have b4:=d.near;have E:=fS (j:=a.jn) (v:=a.vn) g;have Z:=dS (fun r=>TV.map (a.nm r)) g;have D:=kE i;refine dJ K _ (fn:=t91) rfl rfl ?_;simp only[dQ]at G b3;simp only[nI]at Q b2 d i b3 b4 D k;generalize hS1:S.set a.jt (.cells a.vt true (cF p.n (upd (fun r=>TV.iv (.int .i64 (p.to r))) y (j_ x))))=S1 at *
 have L:=bL.app [] S1 [aG.mit (some (a.nm y)) c [] c];have m:=d.keep L;have V:=bDj (p:={p with to:=upd p.to y x}) o W g w t q u A (left l []+1) [] (fun _=>false) (S1++[.mit (some (a.nm y)) c [] c]) u_ u_ A_ B_ B_ (by rw[aXf];exact m) (cN _ _) (L.get _ _ B_ i);simp(disch:=omega)only[t91,go_sem,G,b2,R,Q,hS1,b3,b4,E,Z,D];refine dN V ?_;rintro j e S2 ⟨y3,y5,F,N,C,b⟩;dsimp only at N C F b;subst N C;have z:=b.newN y g;have f:=b.keep (bL.app [] S2 [aG.mp [] 0]);have H:=f.blk;have T:=f.near;have P:=b.blk;have Y:=b.near;have U:=lC (fun r=>TV.map (a.nm r)) (.map S2.length) g;simp only[dQ]at H P;simp(disch:=omega)only[go_sem,H,T,P,Y,E,U];refine bE ⟨_,rfl,?_,z⟩;have s:KpX a.own S1 S2:=(KpX.mono (J:=S1.length::a.own) F B_).new;exact((k.trans s).trans ((KpX.keep (bL.app [] S2 [aG.mp [] 0]) B_).trans (KpX.keep (bL.set (I:=[a.jn]) _ B_ _) (by simp[Ad.own])))).toG
def vtx(n r:Nat):Prop:=r<n/\(1<=r/\r<=24\/32<=r)
structure Inv (p:Pn) (ρ d:Nat->Nat):Prop where
 uf:Uf p ρ d
 sym:∀r s,r<p.n->s<p.n->p.near r s=true->p.near s r=true
 irr:∀r,p.near r r=false
 root:∀r s,r<p.n->s<p.n->p.near r s=true->p.to r=r/\vtx p.n r
 img:∀r s,r<p.n->s<p.n->p.own r s=true->p.near (ρ r) (ρ s)=true
 mach:∀r,r<p.n->r<32->p.to r=r
 low:∀r,r<p.n->vtx p.n r->vtx p.n (ρ r)
theorem aJq(f:Ti_)(x y s:Nat):aAs f x y y s=false:=by simp[aAs,upd]
theorem nY(f:Ti_){x y:Nat}{r:Nat}(s:Nat)(a:r≠y)(b:s≠y):aAs f x y r s=(f r s||(decide (r=x)&&f y s)||(decide (s=x)&&f y r)):=by simp[aAs,upd,a,sR,b]
theorem bDk{f:Ti_}{x y:Nat}{r:Nat}(a:r≠y)(b:f r y=true->f y r=true):aAs f x y r y=false:=by
 simp only[aAs,upd,a,J3,sR,N8];cases h:f r y with
 |false=>rfl
 |true=>simp[b h]
theorem Inv.rt{p:Pn}{ρ d:Th_}(h:Inv p ρ d){r:Nat}(a:r<p.n):ρ r<p.n/\p.to (ρ r)=ρ r:=h.uf.root (d r+1) r A_ a
theorem Inv.nsym{p:Pn}{ρ d:Th_}(h:Inv p ρ d){r s:Nat}(b:r<p.n)(c:s<p.n)(a:p.near r s=false):p.near s r=false:=by
 cases e:p.near s r with
 |false=>rfl
 |true=>rw[h.sym s r c b e]at a;cases a
theorem bDl{p:Pn}{ρ d:Th_}(h:Inv p ρ d){x y:Nat}(v:x<p.n)(k:y<p.n)(g:x≠y)(F:32<=y)(G:p.near x y=false)(o:p.to x=x)(t:p.to y=y)(q:vtx p.n x): Inv (nX p x y) (fun r=>if ρ r=y then x else ρ r) (fun r=>if ρ r=y then d r+d x+1 else d r):=by
 have D:=h.nsym v k G;have u:=h.uf.fix x v o;have A:=h.uf.fix y k t;have m:∀r,r<p.n->r≠y->aAs p.near x y r y=false:=fun r b C=>bDk C (h.sym r y b k);refine⟨⟨fun r b j=>?_,fun r b l=>?_⟩,fun r s b f a=>?_,fun r=>?_,fun r s b f a=>?_,fun r s b f a=>?_,fun r b w=>?_,fun r b E=>?_⟩
 .simp only[nX]at j b |-;by_cases e:r=y;.subst e;simp only[bU,u,A,g,J3,N8];exact⟨v,trivial,by omega⟩
  .simp only[dB _ _ e]at j |-;obtain⟨c,i,h3⟩:=h.uf.up r b j;rw[i];refine⟨c,rfl,?_⟩;split<;>omega
 .simp only[nX]at l b |-;have e:r≠y:=fun e=>by rw[e,bU]at l;exact g l
  rw[dB _ _ e]at l;rw[h.uf.fix r b l,I_ e]
 .simp only[nX]at a b f |-;by_cases e:r=y;.rw[e,aJq]at a;cases a
  by_cases e2:s=y;.rw[e2,m r b e]at a;cases a
  rw[nY _ _ e e2]at a;rw[nY _ _ e2 e];simp only[D3,P_,q_]at a |-;rcases a with(c|⟨c,i⟩)|⟨c,i⟩;.exact .inl (.inl (h.sym r s b f c))
  .exact .inr ⟨c,i⟩
  .exact .inl (.inr ⟨c,i⟩)
 .simp only[nX];by_cases e:r=y;.rw[e,aJq]
  .rw[nY _ _ e e,h.irr r];by_cases e2:r=x;.simp[e2,D]
   .simp[e2]
 .simp only[nX]at a b f |-;by_cases e:r=y;.rw[e,aJq]at a;cases a
  rw[dB _ _ e];by_cases e2:s=y;.rw[e2,m r b e]at a;cases a
  rw[nY _ _ e e2]at a;simp only[D3,P_,q_]at a;rcases a with(c|⟨c,i⟩)|⟨c,i⟩;.exact h.root r s b f c
  .rw[c];exact⟨o,q⟩
  .exact h.root r y b k (h.sym y r k b i)
 .simp only[nX]at a b f |-;have c:=h.img r s b f a;have z:=(h.rt b).1;have H:=(h.rt f).1;by_cases e:ρ r=y
  .rw[K_ e];by_cases e2:ρ s=y;.rw[e,e2,h.irr y]at c;cases c
   .rw[I_ e2,nY _ _ g e2];rw[e]at c;simp[c]
  .rw[I_ e];by_cases e2:ρ s=y;.rw[K_ e2,nY _ _ e g];rw[e2]at c;have:=h.sym _ _ z k c;simp[this]
   .rw[I_ e2,nY _ _ e e2];simp[c]
 .simp only[nX]at b |-;rw[dB _ _ A_];exact h.mach r b w
 .simp only[nX]at b E |-;split;.exact q
  .exact h.low r b E
def pS(p:Pn):Nat:=deg p.n fun r=>decide (p.to r=r)
def Jd(a:Ad)(p:Pn)(S S':aA)(strict:Bool):Prop:=∃nm to near ρ d,KpG a S S'/\PT S' {a with nm:=nm} {p with to:=to,near:=near}/\Inv {p with to:=to,near:=near} ρ d/\pS {p with to:=to,near:=near}<=pS p/\(strict=true->pS {p with to:=to,near:=near}<pS p)
theorem Jd.refl{a:Ad}{p:Pn}{S S':aA}{ρ d:Th_}(h:PT S' a p)(b:Inv p ρ d)(k:bL [] S S'):Jd a p S S' false :=
 ⟨a.nm,p.to,p.near,ρ,d,KpG.of k,h,b,O_ _,fun h=>by cases h⟩
theorem aQj{p:Pn}{x y:Nat}(c:y<p.n)(a:x≠y)(b:p.to y=y):pS (nX p x y)<pS p:=by
 unfold pS deg nX;refine aCy (x:=y) (fun r h=>?_) (C5.2 c) (by simpa using b) (by simp[bU,a]);simp only[q_]at h |-;unfold upd at h;split at h;.rename_i e;rw[e]at h;exact absurd h a
 .exact h
theorem Jd.pre{a:Ad}{p:Pn}{S S1 S':aA}{b:Bool}(h:Jd a p S1 S' b)(k:bL [] S S1):Jd a p S S' b:=by obtain⟨nm,to,near,ρ,d,c,e⟩:=h;exact⟨nm,to,near,ρ,d,(KpG.of k).trans c rfl,e⟩
theorem Jd.step{a:Ad}{p:Pn}{x y:Nat}{nm:Th_}{S S1 S':aA}{b:Bool}(k:KpG a S S1)(c:pS (nX p x y)<pS p)(h:Jd {a with nm:=nm} (nX p x y) S1 S' b)(j:Bool):Jd a p S S' j:=by obtain⟨e,to,near,ρ,d,i,g,h3,f,_⟩:=h;exact⟨e,to,near,ρ,d,k.trans i rfl,g,h3,C0 f (Nat.le_of_lt c),fun _=>Nat.lt_of_le_of_lt f c⟩
def e18(a:Ad)(more x2 x3 x4 x5 x6:TV)(t:Tag)(M:List (Int×Int))(i:Nat)(x10 x11 x12:TV):List TV:=[.ptr a.ip 106 0,more,x2,x3,x4,x5,x6,.iv (.sl t (M.map iM)),.iv (.int .i64 M.length),.iv (.int .i64 i),x10,x11,x12]
def OkM(n:Nat)(M:List (Int×Int)):Prop:=∀m∈M,∃u v:Nat,m.1=u/\m.2=v/\vR n u/\vR n v
where vR (n u:Nat):Prop:=1<=u/\u<n
theorem aUw{x6:TV}(t:Tag)(M:Tb_)(hM:M.length<=1000000):∀(k i:Nat) (a:Ad) (p:Pn) (ρ d:Th_) (S:aA) (more:Bool) (x2 x3 x4 x5 x10 x11 x12:TV),i+k=M.length->p.n<=1000000->OkM p.n M->PT S a p->Inv p ρ d ->(lp' (lim K) t67L0 (e18 a (.iv (.bool more)) x2 x3 x4 x5 x6 t M i x10 x11 x12) S).All fun r=>∃s Y y3 y4 Z H E G,r.1=.exit 2/\r.2.1=e18 a (.iv (.bool s)) Y y3 y4 Z x6 t M M.length H E G/\(more=true->s=true)/\Jd a p S r.2.2 (!more&&s)
 |0,i,a,p,ρ,d,S,more,x2,x3,x4,x5,x10,x11,x12,h,hpn,hok,hP,hI=>by obtain rfl:i=M.length:=A_;unfold e18;refine fE t67L0.eq_1 ?_;simp(disch:=omega)only[go_sem];refine bE ⟨more,_,_,_,_,_,_,_,rfl,rfl,id,?_⟩;rw[Bool.not_and_self];exact .refl hP hI (.refl _ _)
 |k+1,i,a,p,ρ,d,S,more,x2,x3,x4,x5,x10,x11,x12,h,hpn,hok,hP,hI=>by
  have hj:i<M.length:=A_;have b:=gC (w:=2) (f:=iM) (fun _=>rfl) (t:=t) (l:=M) (i:=(i:Int)) A_;rw[Int.toNat_natCast]at b;have hi:M.getD i default∈M:=by simp only[List.getD,D_ hj,Option.getD_some];exact B8 _
  generalize M.getD i default=m at *
  obtain⟨u0,v0,hm,hp,⟨_,h5⟩,⟨_,h7⟩⟩:=hok m hi;have cu:=aQi hP hI.uf u0 h5;have U:=aQi hP hI.uf v0 h7;obtain⟨hg,ha⟩:=hI.rt h5;obtain⟨he,hf⟩:=hI.rt h7;rw[iM,hm,hp]at b;generalize ρ u0=u at *
  generalize ρ v0=v at *
  have N:=hP.blk;have b2:=hP.near;simp only[dQ]at N;obtain⟨x,y,hq,I,J,hk,hb,F⟩:∃x y,x<=y/\x<p.n/\y<p.n/\p.to x=x/\p.to y=y/\(x=u/\y=v/\u<=v\/x=v/\y=u/\v<u):=by
   by_cases F:v<u;.exact⟨v,u,by omega,he,hg,hf,ha,.inr ⟨rfl,rfl,F⟩⟩
   .exact⟨u,v,by omega,hg,he,ha,hf,.inl ⟨rfl,rfl,by omega⟩⟩
  obtain⟨l,c,A,hr,hl⟩:=hP.nmap x I;have L:=aDn hl J;have P:=fS (j:=a.jn) (v:=a.vn) I;have V:=dS (fun r=>TV.map (a.nm r)) I;have o:=aJn (x:Int);have g:=fun(a':Ad) (p':Pn) (ρ' d':Th_) (S':aA) s x2 x3 x4 x5 x10 x11 x12=>aUw (x6:=x6) t M hM k (i+1) a' p' ρ' d' S' s x2 x3 x4 x5 x10 x11 x12 A_;by_cases hxy:x=y
  .subst hxy;have g:=g a p ρ d S more (.lb [j_ u0,j_ v0]) (j_ x) (j_ x) (.iv (.bool (p.near x x))) e_ z_ e_ hpn hok hP hI;unfold e18 at g |-;rw[show((i+1:Nat):Int)=(i:Int)+1 by omega]at g;refine fE t67L0.eq_1 ?_;rcases F with⟨D,C,h3⟩|⟨D,C,h3⟩;.subst D;subst C;simp(disch:=omega)only[go_sem,b,cu,U,N,b2,P,V,A,L,aC];exact cQ g
   .omega
  by_cases hy32:y<32
  .have g:=g a p ρ d S more (.lb [j_ u0,j_ v0]) (j_ x) (j_ y) (.iv (.bool (p.near x y))) e_;unfold e18 at g |-;rw[show((i+1:Nat):Int)=(i:Int)+1 by omega]at g;refine fE t67L0.eq_1 ?_;have z:¬(x:Int)=(y:Int):=A_;rcases F with⟨D,C,h3⟩|⟨D,C,h3⟩<;>(subst D;subst C)
   .simp(disch:=omega)only[go_sem,b,cu,U,N,b2,P,V,A,L,aC,z];exact cQ (g _ _ hpn hok hP hI)
   .simp(disch:=omega)only[go_sem,b,cu,U,N,b2,P,V,A,L,aC,z];exact cQ (g _ _ hpn hok hP hI)
  have z:¬(x:Int)=(y:Int):=A_;by_cases hx32:x<32/\kG x=false
  .rw[hx32.2]at o;have W:=hx32.1;have g:=g a p ρ d S more (.lb [j_ u0,j_ v0]) (j_ x) (j_ y) (.iv (.bool (p.near x y))) e_;unfold e18 at g |-;rw[show((i+1:Nat):Int)=(i:Int)+1 by omega]at g;refine fE t67L0.eq_1 ?_;rcases F with⟨D,C,h3⟩|⟨D,C,h3⟩<;>(subst D;subst C)
   .simp(disch:=omega)only[go_sem,b,cu,U,N,b2,P,V,A,L,aC,z,aD o];exact cQ (g _ _ hpn hok hP hI)
   .simp(disch:=omega)only[go_sem,b,cu,U,N,b2,P,V,A,L,aC,z,aD o];exact cQ (g _ _ hpn hok hP hI)
  have hn:vtx p.n x:=by
   refine⟨I,?_⟩;by_cases h3:x<32
   .left;have:kG x=true:=by
     cases e:kG (x:Int)with
     |true=>rfl
     |false=>exact absurd ⟨h3,e⟩ hx32
    unfold kG at this;simp at this;omega
   .right;omega
  have h6:x<32->kG x=true:=fun h3=>by
   cases e:kG (x:Int)with
   |true=>rfl
   |false=>exact absurd ⟨h3,e⟩ hx32
  cases hnr:p.near x y with
  |true =>
   rw[hnr]at L;have g:=g a p ρ d S more (.lb [j_ u0,j_ v0]) (j_ x) (j_ y) e_ e_;unfold e18 at g |-;rw[show((i+1:Nat):Int)=(i:Int)+1 by omega]at g;refine fE t67L0.eq_1 ?_;by_cases W:x<32
   .rw[h6 W]at o;rcases F with⟨D,C,h3⟩|⟨D,C,h3⟩<;>(subst D;subst C)
    .simp(disch:=omega)only[go_sem,b,cu,U,N,b2,P,V,A,L,aC,z,aD o];exact cQ (g _ _ hpn hok hP hI)
    .simp(disch:=omega)only[go_sem,b,cu,U,N,b2,P,V,A,L,aC,z,aD o];exact cQ (g _ _ hpn hok hP hI)
   .rcases F with⟨D,C,h3⟩|⟨D,C,h3⟩<;>(subst D;subst C)
    .simp(disch:=omega)only[go_sem,b,cu,U,N,b2,P,V,A,L,aC,z,aD o];exact cQ (g _ _ hpn hok hP hI)
    .simp(disch:=omega)only[go_sem,b,cu,U,N,b2,P,V,A,L,aC,z,aD o];exact cQ (g _ _ hpn hok hP hI)
  |false =>
   rw[hnr]at L;have h9:=bRa hP hpn I J;have ho:=hI.nsym I J hnr;have hc:=aQj J hxy hb;have h8:=bDl hI I J hxy A_ hnr hk hb hn;have hd:=fun(S1:aA) (k1:bL [] S S1)=>bRb (hP.keep k1) A_ I J hxy ho (hI.irr y);have h0:=fun S1=>g a p ρ d S1 more (.lb [j_ u0,j_ v0]) (j_ x) (j_ y) z_ e_;have h4:=fun nm S1=>g {a with nm:=nm} (nX p x y) (fun r=>if ρ r=y then x else ρ r) (fun r=>if ρ r=y then d r+d x+1 else d r) S1 true (.lb [j_ u0,j_ v0]) (j_ x) (j_ y) z_ e_;unfold e18 at h0 h4 |-;rw[show((i+1:Nat):Int)=(i:Int)+1 by omega]at h0 h4;refine fE t67L0.eq_1 ?_;by_cases W:x<32
   .rw[h6 W]at o;rcases F with⟨D,C,h3⟩|⟨D,C,h3⟩<;>(subst D;subst C)
    all_goals
     simp(disch:=omega)only[go_sem,b,cu,U,N,b2,P,V,A,L,aC,z,aD o]
     refine kJ h9 ?_
     rintro v S1 ⟨⟨bs,Q⟩,q⟩
     dsimp only at Q q
     subst Q
     cases bs with
     |false =>simp(disch:=omega)only[go_sem,aC];refine cQ (Out.all_mono ?_ (h0 S1 _ _ hpn hok (hP.keep q) hI));rintro r ⟨m',Y,y3,y4,Z,H,E,G,e1,e2,e3,e4⟩;exact⟨m',Y,y3,y4,Z,H,E,G,e1,e2,e3,e4.pre q⟩
     |true =>simp(disch:=omega)only[go_sem,aC];refine kJ (hd S1 q) ?_;rintro v S2 ⟨nm,Q,R,T⟩;dsimp only at Q R T;subst Q;simp(disch:=omega)only[go_sem,aC];refine cQ (Out.all_mono ?_ (h4 nm S2 _ _ hpn hok T h8));rintro r ⟨m',Y,y3,y4,Z,H,E,G,e1,e2,e3,e4⟩;exact⟨m',Y,y3,y4,Z,H,E,G,e1,e2,fun _=>e3 rfl,e4.step ((KpG.of q).trans R rfl) hc _⟩
   .rcases F with⟨D,C,h3⟩|⟨D,C,h3⟩<;>(subst D;subst C)
    all_goals
     simp(disch:=omega)only[go_sem,b,cu,U,N,b2,P,V,A,L,aC,z,aD o]
     refine kJ h9 ?_
     rintro v S1 ⟨⟨bs,Q⟩,q⟩
     dsimp only at Q q
     subst Q
     cases bs with
     |false =>simp(disch:=omega)only[go_sem,aC];refine cQ (Out.all_mono ?_ (h0 S1 _ _ hpn hok (hP.keep q) hI));rintro r ⟨m',Y,y3,y4,Z,H,E,G,e1,e2,e3,e4⟩;exact⟨m',Y,y3,y4,Z,H,E,G,e1,e2,e3,e4.pre q⟩
     |true =>simp(disch:=omega)only[go_sem,aC];refine kJ (hd S1 q) ?_;rintro v S2 ⟨nm,Q,R,T⟩;dsimp only at Q R T;subst Q;simp(disch:=omega)only[go_sem,aC];refine cQ (Out.all_mono ?_ (h4 nm S2 _ _ hpn hok T h8));rintro r ⟨m',Y,y3,y4,Z,H,E,G,e1,e2,e3,e4⟩;exact⟨m',Y,y3,y4,Z,H,E,G,e1,e2,fun _=>e3 rfl,e4.step ((KpG.of q).trans R rfl) hc _⟩
theorem Jd.trans{a:Ad}{p:Pn}{S S1 S':aA}{nm:Th_}{to:Th_}{near:Ti_}(k:KpG a S S1)(g:pS {p with to:=to,near:=near}<=pS p){b:Bool}(h:Jd {a with nm:=nm} {p with to:=to,near:=near} S1 S' b):Jd a p S S' false:=by obtain⟨f,e,c,ρ,d,j,i,h3,l,_⟩:=h;exact⟨f,e,c,ρ,d,k.trans j rfl,i,h3,C0 l g,fun h=>by cases h⟩
theorem bDm:∀(k:Nat) (a:Ad) (p:Pn) (ρ d:Th_) (S:aA) (x2 g x4 x5 x6 x7 x8 x9 x10 x11 x12:TV),pS p<k->p.n<=1000000->p.M.length<=1000000->OkM p.n p.M->PT S a p->Inv p ρ d ->(lp' (lim K) t67L1 [.ptr a.ip 106 0,e_,x2,g,x4,x5,x6,x7,x8,x9,x10,x11,x12] S).All fun r=>∃q u o w P T W L f b c,r.1=.exit 0/\r.2.1=[.ptr a.ip 106 0,z_,q,u,o,w,P,T,W,L,f,b,c]/\Jd a p S r.2.2 false
 |0,a,p,ρ,d,S,x2,g,x4,x5,x6,x7,x8,x9,x10,x11,x12,hk,hpn,hM,hok,hP,hI=>A_
 |k+1,a,p,ρ,d,S,x2,g,x4,x5,x6,x7,x8,x9,x10,x11,x12,hk,hpn,hM,hok,hP,hI=>by
  have v:=aUw (x6:=e_) p.tM p.M hM p.M.length 0 a p ρ d S false x2 g x4 x5 x10 x11 x12 A_ hpn hok hP hI;have C:=hP.blk;simp only[dQ]at C;unfold e18 at v;rw[n0_]at v;refine fE t67L1.eq_1 ?_;simp(disch:=omega)only[go_sem,C,L_];refine mQ v ?_;rintro j e S1 ⟨J,q,u,o,w,f,b,c,D,e2,e3,z⟩;dsimp only at D e2 z;subst D e2;obtain⟨nm,to,near,y,E,A,l,h3,x,h6⟩:=z;cases J with
  |false =>
   have F:Jd a p S S1 false:=⟨nm,to,near,y,E,A,l,h3,x,fun h=>by cases h⟩
   have b2:=l.blk;simp(disch:=omega)only[go_sem];refine cQ (fE t67L1.eq_1 ?_);simp(disch:=omega)only[go_sem];exact(bE ⟨_,_,_,_,_,_,_,_,_,_,_,rfl,rfl,F⟩)
  |true =>have H:=h6 rfl;have ih:=bDm k {a with nm:=nm} {p with to:=to,near:=near} y E S1 q u o w e_ (.iv (.sl p.tM (p.M.map iM))) (j_ p.M.length) (j_ p.M.length) f b c A_ hpn hM hok l h3;simp(disch:=omega)only[go_sem];refine cQ (Out.all_mono ?_ ih);rintro r ⟨N,U,Y,Q,R,Z,V,G,i,s,t,f1,f2,I⟩;exact⟨N,U,Y,Q,R,Z,V,G,i,s,t,f1,f2,I.trans A x⟩
theorem bRc{S:aA}{a:Ad}{p:Pn}{ρ d:Th_}(i:PT S a p)(m:Inv p ρ d)(c:p.n<=1000000)(o:p.M.length<=1000000)(b:OkM p.n p.M): ((lim K).call 67 [.ptr a.ip 106 0] S).All fun r=>r.1=u_/\Jd a p S r.2 false:=by have q:=bDm (pS p+1) a p ρ d S u_ u_ u_ u_ u_ u_ u_ u_ u_ u_ u_ A_ c o b i m;refine dJ K _ (fn:=t67) rfl rfl ?_;simp(disch:=omega)only[t67,go_sem];refine dN q ?_;rintro j e S1 ⟨y,A,v,z,x,w,u,t,k,s,l,f,h,g⟩;dsimp only at f h g;subst f h;simp(disch:=omega)only[go_sem];exact bE ⟨rfl,g⟩
def gSc(w el:Nat)(l:List (List IV))(i:Nat)(S:aA):aA:=if l=[]then S++[.tok 1 w el]else S.set i (.tok (l.length+1) w el)
def aBx(l:List (List IV))(i:Nat):List Nat:=if l=[]then []else [i]
theorem At.nil{w el i:Nat}{S:aA}:At w el [] i S:=fun h=>absurd rfl h
theorem aUx(w el:Nat)(l:M_)(i:Nat)(S:aA):bL (aBx l i) S (gSc w el l i S):=by
 unfold aBx gSc;by_cases h:l=[]
 .rw[K_ h,K_ h];exact bL.app _ _ _
 .rw[I_ h,I_ h];exact bL.set _ B_ _
theorem bPq{w el:Nat}{l:M_}{i:Nat}{S:aA}(h:At w el l i S)(c:Tq_):At w el (l++[c]) (gI l i S) (gSc w el l i S):=by
 intro _;unfold gI gSc;by_cases h0:l=[]
 .rw[K_ h0,K_ h0,h0];simp
 .rw[I_ h0,I_ h0,aM (aN (h h0))];simp
theorem bPr{w el b:Nat}{l:M_}{i:Nat}{S:aA}{t:Tag}{c:Tq_}(h:At w el l i S)(j:c.length=w/\c.all mZ=true)(g:jE w l)(a:eA (l.length+1) b=true): bA false w b el S (acc i l) (.iv (.sl t [c]))=some (acc (gI l i S) (l++[c]),gSc w el l i S):=by
 have e:rO S (.iv (.sl t [c])) [c]:=rO.sl ..;have f:jE w [c]:=by intro y d;simp at d;subst d;exact j
 by_cases h0:l=[]
 .subst h0;rw[mB,aLi C_ e f g B_ a,List.nil_append,aO7];simp[gI,gSc]
 .rw[lO _ h0,aFk e f g (h h0) a,lO _ B_];simp[gI,gSc,h0]
theorem aMi{I J:Tc_}{S S' S'':aA}(h:bL I S S')(g:bL J S' S'')(e:∀j∈J,j∈I\/S.length<=j):bL I S S'' :=
 ⟨C0 h.len g.len,fun i b d c=>g.get i b (fun f=>by
  rcases e i f with a|a;.exact d a
  .have:=aN c;omega) (h.get i b d c)⟩
theorem aUy{S:aA}{w el:Nat}{l:M_}{i:Nat}(h:At w el l i S):∀j∈aBx l i,∃n w e,S[j]?=some (.tok n w e):=by
 intro j a;unfold aBx at a;split at a;.cases a
 .rename_i h0;simp at a;subst a;exact⟨_,_,_,h h0⟩
theorem bLd{S:aA}{l:M_}{i:Nat}{c:Tq_}:∀j∈aBx (l++[c]) (gI l i S),j∈aBx l i\/S.length<=j:=by
 intro j a;unfold aBx at a;rw[I_ B_]at a;simp at a;subst a;unfold gI;split;.exact .inr (O_ _)
 .rename_i h0;left;unfold aBx;rw[I_ h0];simp
theorem PT.keepT{S S':aA}{a:Ad}{p:Pn}{I:Tc_}(h:PT S a p)(k:bL I S S')(q:∀i∈I,∃n w e,S[i]?=some (.tok n w e)):PT S' a p:=by
 have d:∀i b,S[i]?=some b->(∀n w e,b≠aG.tok n w e)->S'[i]?=some b:=fun i b o m=>k.get i b (fun s=>by obtain⟨n,w,e,f⟩:=q i s;rw[o]at f;exact m n w e (D6 f)) o;exact⟨d _ _ h.blk B_,d _ _ h.near B_,d _ _ h.own B_,d _ _ h.to B_,d _ _ h.out B_,
  fun r g=>by obtain⟨l,c,f,j,h3⟩:=h.nmap r g;exact⟨l,c,d _ _ f B_,j,h3⟩,
  fun r g=>by obtain⟨l,c,f,j,h3⟩:=h.omap r g;exact⟨l,c,d _ _ f B_,j,h3⟩,h.ninj,h.oinj,h.dis,h.nd⟩
def cR(l:List Nat):List (List IV):=l.map fun m:Nat=>[.int .i64 (m:Int)]
theorem iT(l:Tc_):(cR l).length=l.length:=by simp[cR]
theorem aDo(l:Tc_)(m:Nat):cR l++[[.int .i64 (m:Int)]]=cR (l++[m]):=by simp[cR]
theorem bDn{l:Tc_}:cR l=[]↔l=[]:=by simp[cR]
theorem aUz(l:Tc_):jE 1 (cR l):=by intro y a;obtain⟨m,_,rfl⟩:=A0.1 a;exact⟨rfl,rfl⟩
def bH(p:Pn)(ρ:Nat->Nat)(r i:Nat):List Nat:=((List.range p.n).drop i).filter fun m=>decide (ρ m=r)
theorem aDp{n i:Nat}(h:i<n):(List.range n).drop i=i::(List.range n).drop (i+1):=by rw[A6 (by simpa using h)];simp
theorem aQk{a:Ad}{p:Pn}{ρ d:Th_}(y:Uf p ρ d)(o:p.n<=1000000)(r:Nat)(x2:TV):∀(k i:Nat) (l:Tc_) (j:Nat) (S:aA) (x5 x6:TV),i+k=p.n->PT S a p->At 1 3 (cR l) j S->l.length<=i ->∃v x u S',lp' (lim K) t68L0 [.ptr a.ip 106 0,j_ r,x2,acc j (cR l),j_ i,x5,x6] S = .ret (.exit 0,[.ptr a.ip 106 0,j_ r,x2,acc v (cR (l++bH p ρ r i)),j_ p.n,x,u],S')/\bL (aBx (cR l) j) S S'
 |0,i,l,j,S,x5,x6,h,hP,hj,hl=>by
  obtain rfl:i=p.n:=A_;have g:=hP.blk;simp only[dQ]at g;have e:bH p ρ r p.n=[]:=by unfold bH;rw[G5 B_];rfl
  refine⟨j,z_,x6,S,aE K _ _ t68L0.eq_1 ?_,.refl _ _⟩;rw[e,A4];simp(disch:=omega)only[go_sem,g]
 |k+1,i,l,j,S,x5,x6,h,hP,hj,hl=>by
  have m:i<p.n:=A_;have g:=hP.blk;simp only[dQ]at g;have f:=aQi hP y i m;have s:=aDp m;by_cases e:ρ i=r
  .have D:=bPr (b:=8) (c:=[.int .i64 (i:Int)]) (t:=.full) hj ⟨rfl,rfl⟩ (aUz l) (bR (by rw[iT];omega));have C:=aUx 1 3 (cR l) j S;have E:=bPq hj [.int .i64 (i:Int)];have F:∀q∈aBx (cR (l++[i])) (gI (cR l) j S),q∈aBx (cR l) j\/S.length<=q:=by rw[<-aDo];exact bLd
   rw[aDo]at D E;obtain⟨v,x,u,S',w,z⟩:=aQk y o r x2 k (i+1) (l++[i]) _ _ e_ e_ A_ (hP.keepT C (aUy hj)) E (by simp;omega);rw[show((i+1:Nat):Int)=(i:Int)+1 by omega,A9,List.singleton_append]at w;refine⟨v,x,u,S',aE K _ _ t68L0.eq_1 ?_,aMi C z F⟩;have A:bH p ρ r i=i::bH p ρ r (i+1):=by unfold bH;rw[s,E4,K_ (by simpa using e)]
   rw[A];rw[e]at f;simp(disch:=omega)only[go_sem,g,f,D,aC];exact X_ er w
  .obtain⟨v,x,u,S',w,z⟩:=aQk y o r x2 k (i+1) l j S e_ z_ A_ hP hj A_;rw[show((i+1:Nat):Int)=(i:Int)+1 by omega]at w;refine⟨v,x,u,S',aE K _ _ t68L0.eq_1 ?_,z⟩;have A:bH p ρ r i=bH p ρ r (i+1):=by unfold bH;rw[s,E4,I_ (by simpa using e)]
   rw[A];have e':¬((ρ i:Int)=(r:Int)):=A_;simp(disch:=omega)only[go_sem,g,f,e',aC];exact X_ er w
theorem bDo{S:aA}{a:Ad}{p:Pn}{ρ d:Th_}(e:PT S a p)(f:Uf p ρ d)(b:p.n<=1000000)(h:32<=p.n)(r:Nat): ∃j S',(lim K).call 68 [.ptr a.ip 106 0,j_ r] S=.ret (acc j (cR (bH p ρ r 32)),S')/\bL [] S S':=by obtain⟨i,l,k,S',c,g⟩:=aQk f b r k_ (p.n-32) 32 [] 0 S u_ u_ A_ e At.nil B_;rw[show((32:Nat):Int)=32 from rfl,List.nil_append,show acc 0 (cR [])=k_ from rfl]at c;refine⟨i,S',aI K _ (fn:=t68) rfl rfl ?_,g⟩;simp(disch:=omega)only[t68,go_sem];rw[c];simp(disch:=omega)only[go_sem]
def gv(r:Int)(t1:Tag)(E:List (Int×Int))(t2:Tag)(M:List (Int×Int)):IV:=.agg [.int .i64 r,.sl t1 (E.map iM),.sl t2 (M.map iM)]
def qQ(r:Int)(t1:Tag)(E:List (Int×Int))(t2:Tag)(M:List (Int×Int)):List TV:=[.iv (.int .i64 r),.iv (.sl t1 (E.map iM)),.iv (.sl t2 (M.map iM))]
theorem bUc{α:Type}(l m:List (List α)):bC (l++m)=bC l++bC m:=by
 induction l with
 |nil=>rfl
 |cons a r ih=>simp only[List.cons_append,TM.bC,ih,A9]
theorem bLe(x:TV)(n:Nat):bC (List.replicate n [x])=cF n fun _=>x:=by
 unfold cF;induction n with
 |zero=>rfl
 |succ n ih=>rw[List.replicate_succ',R2,E1,<-ih,bUc];simp[TM.bC]
structure Bd (S:aA) (n:Nat) (t1:Tag) (E:List (Int×Int)) (t2:Tag) (M:List (Int×Int)) (r:Nat) (nm om:Nat->Nat):Prop where
 blk:S[1]?=some (.cells 106 false [.iv (.int .i64 n),.iv (.sl t1 (E.map iM)),.iv (.sl t2 (M.map iM)),.msl 6 (r-1) 0 r r 1,.msl 7 (r-1) 0 r r 1,.msl 8 (r-1) 0 r r 1,.msl 0 0 0 n n 1])
 out:S[0]?=some (.cells 0 false (cF n fun _=>vI 0))
 near:S[6]?=some (.cells (r-1) true (cF r fun k=>.map (nm k)))
 own:S[7]?=some (.cells (r-1) true (cF r fun k=>.map (om k)))
 to:S[8]?=some (.cells (r-1) true (cF r fun k=>nI k))
 nms:∀k,k<r->S[nm k]?=some (.mp [] 0)
 oms:∀k,k<r->S[om k]?=some (.mp [] 0)
 ninj:∀r' s,r'<r->s<r->nm r'=nm s->r'=s
 oinj:∀r' s,r'<r->s<r->om r'=om s->r'=s
 dis:∀r' s,r'<r->s<r->nm r'≠om s
theorem Bd.pt{S:aA}{n:Nat}{t1:Tag}{E:Tb_}{t2:Tag}{M:Tb_}{nm b:Th_}(h:Bd S n t1 E t2 M n nm b):PT S ⟨1,6,n-1,7,n-1,8,n-1,0,nm,b⟩ ⟨n,t1,E,t2,M,fun _ _=>false,fun _ _=>false,fun r=>r,fun _=>0⟩ :=
 ⟨h.blk,h.near,h.own,h.to,h.out,fun r a=>⟨[],0,h.nms r a,gE.nil 0,fun t=>by simp[cG,dK]⟩,fun r a=>⟨[],0,h.oms r a,gE.nil 0,fun t=>by simp[cG,dK]⟩,h.ninj,h.oinj,h.dis,by simp⟩
theorem aDq{mu:Bool}{b bytes el:Nat}{S:aA}{v n:Nat}{f:Nat->TV}{x:TV}(e:S[b]?=some (.cells v true (cF n f)))(d:dU S x=some [f n])(h:lenOf S x=some 1)(c:bJ (f n)=false)(a:eA (n+1) bytes=true): bA mu 1 bytes el S (.msl b v 0 n n 1) x=some (.msl b (v+1) 0 (n+1) (n+1) 1,S.set b (.cells (v+1) true (cF (n+1) f))):=by have g:sub (cF n f) 0 n=some (cF n f):=mC (by simp[aC5]);simp[bA,d,h,e,c,a,g,bQ9,show ¬n+1<=n by omega]
theorem uN{mu:Bool}{bytes el:Nat}{S:aA}{f:Nat->TV}{x:TV}(c:dU S x=some [f 0])(g:lenOf S x=some 1)(b:bJ (f 0)=false)(a:eA 1 bytes=true)(d:mu=true\/toIVs [f 0]=none): bA mu 1 bytes el S k_ x=some (.msl S.length 0 0 1 1 1,S++[.cells 0 true (cF 1 f)]):=by
 have e:cF 1 f=[f 0]:=rfl;rcases d with rfl|d;.simp[bA,c,g,b,a,e,TM.oL,TM.bC]
 .cases mu with
  |true=>simp[bA,c,g,b,a,e,TM.oL,TM.bC]
  |false=>simp[bA,c,g,b,a,e,d,TM.oL,TM.bC]
def jG(S:aA):aA:=S++[aG.mp [] 0]++[aG.cells 0 false (bC [[TV.map S.length]])]
theorem pT(S:aA):(jG S).length=S.length+2:=by simp[jG]
theorem kH(S:aA):bL [] S (jG S):=(bL.app [] S [aG.mp [] 0]).trans (bL.app [] _ [aG.cells 0 false (bC [[TV.map S.length]])])
theorem aCg(S:aA):(jG S)[S.length]?=some (.mp [] 0):=by simp[jG]
theorem xK(S:aA):(jG S)[S.length+1]?=some (.cells 0 false (bC [[TV.map S.length]])):=by simp[jG]
theorem uO{S:aA}{j:Nat}{y:TV}(h:S[j]?=some (.cells 0 false (bC [[y]]))):dU S (.msl j 0 0 1 1 1)=some [y]:=by simp[dU,h,sub,TM.bC]
theorem jB{S S':aA}{i j:Nat}{X b:aG}(h:S.set i X=S')(c:i≠j)(a:S[j]?=some b):S'[j]?=some b:=by rw[<-h,aB c];exact a
theorem bDp{n:Nat}{t1:Tag}{E:Tb_}{t2:Tag}{M:Tb_}(hn:n<=1000000)(x0 t x2 x5 x9 x10 x11 x12 x13:TV):∀(k r:Nat) (S:aA) (nm f:Th_) (x4 x8:TV),r+k=n->1<=r->Bd S n t1 E t2 M r nm f ->∃z I S' m g,lp' (lim K) t66L1 [x0,t,x2,.ptr 1 106 0,x4,x5,j_ n,j_ r,x8,x9,x10,x11,x12,x13] S = .ret (.exit 0,[x0,t,x2,.ptr 1 106 0,z,x5,j_ n,j_ n,I,x9,x10,x11,x12,x13],S')/\Bd S' n t1 E t2 M n m g
 |0,r,S,nm,f,x4,x8,h,D,hB=>by obtain rfl:r=n:=A_;refine⟨x4,z_,S,nm,f,aE K _ _ t66L1.eq_1 ?_,hB⟩;simp(disch:=omega)only[go_sem]
 |k+1,r,S,nm,f,x4,x8,h,D,hB=>by
  have h4:=aN hB.to;have J:=kH S;have l:=J.trans (kH (jG S));have G:=hB.blk;have b2:=J.get _ _ B_ G;have b4:=l.get _ _ B_ G;have h0:=pT S;have W:=(kH (jG S)).get _ _ B_ (aCg S);have V:=aCg (jG S);have l1:=(kH (jG S)).get _ _ B_ (xK S);have l2:=xK (jG S);have w:∀k,k<r->nm k<S.length:=fun k o=>aN (hB.nms k o);have v:∀k,k<r->f k<S.length:=fun k o=>aN (hB.oms k o);have f6:cF r (fun k=>.map (nm k))=cF r (fun k=>.map (upd nm r S.length k)):=aMf fun i q=>by rw[dB _ _ A_]
  have f7:cF r (fun k=>.map (f k))=cF r (fun k=>.map (upd f r (jG S).length k)):=aMf fun i q=>by rw[dB _ _ A_]
  have U:=l.get _ _ B_ hB.near;have N:=l.get _ _ B_ hB.own;have n8:=l.get _ _ B_ hB.to;rw[f6]at U;rw[f7]at N;generalize hS4:jG (jG S)=S4 at *
  have p:=aDq (mu:=false) (bytes:=8) (el:=81) (x:=.msl (S++[aG.mp [] 0]).length 0 0 1 1 1) U (by rw[bU];exact uO (by rw[<-l1];simp)) rfl rfl (bR A_);generalize hS5:S4.set 6 (.cells (r-1+1) true (cF (r+1) fun k=>.map (upd nm r S.length k)))=S5 at *
  have R:=jB hS5 C_ b4;have H:=jB hS5 C_ N;have A:=jB hS5 A_ l2;have e2:=aDq (mu:=false) (bytes:=8) (el:=81) (x:=.msl (jG S++[aG.mp [] 0]).length 0 0 1 1 1) H (by rw[bU];exact uO (by rw[<-A];simp)) rfl rfl (bR A_);generalize hS6:S5.set 7 (.cells (r-1+1) true (cF (r+1) fun k=>.map (upd f r (jG S).length k)))=S6 at *
  have Q:=jB hS6 C_ R;have s:=jB hS6 C_ (jB hS5 C_ n8);have e3:=aDq (mu:=true) (bytes:=8) (el:=3) (x:=.iv (.sl .full [[.int .i64 (r:Int)]])) s rfl rfl rfl (bR A_);generalize hS7:S6.set 8 (.cells (r-1+1) true (cF (r+1) fun k=>nI k))=S7 at *
  have u:=jB hS7 C_ Q;have L:∀b,(S7.set 1 b)[1]?=some b:=fun b=>aM (aN u) b;have Z:∀b c,((S7.set 1 b).set 1 c)[1]?=some c:=fun b c=>aM (by simpa using aN u) c;have g3:∀b c,(S7.set 1 b).set 1 c=S7.set 1 c:=fun b c=>B_;have y:r-1+1=r:=A_;rw[y]at p e2 e3 hS5 hS6 hS7;have C:Bd (S7.set 1 (.cells 106 false [j_ n,.iv (.sl t1 (E.map iM)),.iv (.sl t2 (M.map iM)),.msl 6 r 0 (r+1) (r+1) 1,.msl 7 r 0 (r+1) (r+1) 1,.msl 8 r 0 (r+1) (r+1) 1,.msl 0 0 0 n n 1])) n t1 E t2 M (r+1) (upd nm r S.length) (upd f r (jG S).length):=by
   have h5:S4.length=S.length+4:=by rw[<-hS4,pT,pT]
   have d:∀i b,S4[i]?=some b->i≠6->i≠7->i≠8->i≠1->∀c,(S7.set 1 c)[i]?=some b:=fun i b Y h6 h7 h8 D c=>by rw[aB (B0 D),<-hS7,aB (B0 h8),<-hS6,aB (B0 h7),<-hS5,aB (B0 h6)];exact Y
   refine⟨L _,?_,?_,?_,?_,fun k o=>?_,fun k o=>?_,fun i j q P e=>?_,fun i j q P e=>?_,fun i j q P e=>?_⟩;.exact d _ _ (l.get _ _ B_ hB.out) C_ C_ C_ C_ _
   .rw[aB C_,<-hS7,aB C_,<-hS6,aB C_,<-hS5,aM A_];rfl
   .rw[aB C_,<-hS7,aB C_,<-hS6,aM (by rw[<-hS5];simp;omega)];rfl
   .rw[aB C_,<-hS7,aM (by rw[<-hS6,<-hS5];simp;omega)];rfl
   .by_cases e:k=r;.subst e;rw[bU];exact d _ _ W A_ A_ A_ A_ _
    .have a:=hB.nms k A_;rw[dB _ _ e];exact d _ _ (l.get _ _ B_ a) (bN a hB.near B_) (bN a hB.own B_) (bN a hB.to B_) (bN a hB.blk B_) _
   .by_cases e:k=r;.subst e;rw[bU];exact d _ _ V A_ A_ A_ A_ _
    .have a:=hB.oms k A_;rw[dB _ _ e];exact d _ _ (l.get _ _ B_ a) (bN a hB.near B_) (bN a hB.own B_) (bN a hB.to B_) (bN a hB.blk B_) _
   .unfold upd at e;split at e<;>split at e;.omega
    .have:=w j A_;omega
    .have:=w i A_;omega
    .exact hB.ninj i j A_ A_ e
   .unfold upd at e;split at e<;>split at e;.omega
    .have:=v j A_;omega
    .have:=v i A_;omega
    .exact hB.oinj i j A_ A_ e
   .unfold upd at e;split at e<;>split at e;.omega
    .have:=v j A_;omega
    .have:=w i A_;omega
    .exact hB.dis i j A_ A_ e
  obtain⟨z,I,S',m,g,T,F⟩:=bDp hn x0 t x2 x5 x9 x10 x11 x12 x13 k (r+1) _ _ _ (j_ r) e_ A_ A_ C;rw[show((r+1:Nat):Int)=(r:Int)+1 by omega]at T;refine⟨z,I,S',m,g,aE K _ _ t66L1.eq_1 ?_,F⟩;subst hS4;unfold jG at b2 b4 p e2;simp only[bCa]at b2 b4 p e2;simp(disch:=omega)only[go_sem,G,b2,b4,p,R,e2,Q,e3,u,L,Z,g3,aC];exact X_ er T
theorem lT{S S':aA}{X:aG}{j:Nat}{b:aG}(h:S++[X]=S')(a:S[j]?=some b):S'[j]?=some b:=by rw[<-h,Y_ (aN a)];exact a
theorem aJr{S S':aA}{X:aG}(h:S++[X]=S'):S'[S.length]?=some X:=by rw[<-h];simp
theorem bRd{n:Nat}{t1:Tag}{E:Tb_}{t2:Tag}{M:Tb_}(hn:n<=1000000)(A:1<=n)(x0 t x2 x5 x9 x10 x11 x12 x13 x4 x8:TV)(S:aA)(Y:S.length=2) (U:S[0]?=some (.cells 0 false (cF n fun _=>vI 0))) (u:S[1]?=some (.cells 106 false [j_ n,.iv (.sl t1 (E.map iM)),.iv (.sl t2 (M.map iM)),k_,k_,k_,.msl 0 0 0 n n 1])): ∃p v S' g d,lp' (lim K) t66L1 [x0,t,x2,.ptr 1 106 0,x4,x5,j_ n,j_ 0,x8,x9,x10,x11,x12,x13] S = .ret (.exit 0,[x0,t,x2,.ptr 1 106 0,p,x5,j_ n,j_ n,v,x9,x10,x11,x12,x13],S')/\Bd S' n t1 E t2 M n g d:=by
 have G:=kH S;have H:=G.trans (kH (jG S));have b2:=G.get _ _ B_ u;have b4:=H.get _ _ B_ u;have Z:=pT S;have a:(jG (jG S)).length=6:=by rw[pT,pT,Y]
 have Q:=(kH (jG S)).get _ _ B_ (aCg S);have P:=aCg (jG S);have l1:=(kH (jG S)).get _ _ B_ (xK S);have l2:=xK (jG S);have o4:=H.get _ _ B_ U;generalize hS4:jG (jG S)=S4 at *
 have o:=uN (mu:=false) (bytes:=8) (el:=81) (S:=S4) (f:=fun _=>.map S.length) (x:=.msl (S++[aG.mp [] 0]).length 0 0 1 1 1) (uO (by rw[<-l1];simp)) rfl rfl (bR A_) (.inr rfl);generalize hS5:S4++[.cells 0 true (cF 1 fun _=>.map S.length)]=S5 at *
 have l:S5.length=7:=by rw[<-hS5];simp[a]
 have F:=lT hS5 b4;have q:=lT hS5 l2;have e2:=uN (mu:=false) (bytes:=8) (el:=81) (S:=S5) (f:=fun _=>.map (jG S).length) (x:=.msl (jG S++[aG.mp [] 0]).length 0 0 1 1 1) (uO (by rw[<-q];simp)) rfl rfl (bR A_) (.inr rfl);generalize hS6:S5++[.cells 0 true (cF 1 fun _=>.map (jG S).length)]=S6 at *
 have m:S6.length=8:=by rw[<-hS6];simp[l]
 have z:=lT hS6 F;have e3:=uN (mu:=true) (bytes:=8) (el:=3) (S:=S6) (f:=fun k=>nI k) (x:=.iv (.sl .full [[.int .i64 (0:Int)]])) rfl rfl rfl (bR A_) (.inl rfl);generalize hS7:S6++[.cells 0 true (cF 1 fun k=>nI k)]=S7 at *
 have w:=lT hS7 z;rw[a]at o;rw[l]at e2;rw[m]at e3;have I:∀b,(S7.set 1 b)[1]?=some b:=fun b=>aM (aN w) b;have R:∀b c,((S7.set 1 b).set 1 c)[1]?=some c:=fun b c=>aM (by simpa using aN w) c;have V:∀b c,(S7.set 1 b).set 1 c=S7.set 1 c:=fun b c=>B_;have r:Bd (S7.set 1 (.cells 106 false [j_ n,.iv (.sl t1 (E.map iM)),.iv (.sl t2 (M.map iM)),.msl 6 0 0 1 1 1,.msl 7 0 0 1 1 1,.msl 8 0 0 1 1 1,.msl 0 0 0 n n 1])) n t1 E t2 M 1 (fun _=>S.length) (fun _=>(jG S).length):=by
  have h:∀i b,S4[i]?=some b->i≠1->∀c,(S7.set 1 c)[i]?=some b:=fun i b T A c=>by rw[aB (B0 A)];exact lT hS7 (lT hS6 (lT hS5 T))
  have J:=aJr hS5;have C:=aJr hS6;have L:=aJr hS7;rw[a]at J;rw[l]at C;rw[m]at L;refine⟨I _,?_,?_,?_,?_,fun k W=>?_,fun k W=>?_,fun i j D y e=>A_,fun i j D y e=>A_,fun i j D y e=>A_⟩;.exact h _ _ o4 C_ _
  .rw[aB C_];exact lT hS7 (lT hS6 J)
  .rw[aB C_];exact lT hS7 C
  .rw[aB C_];exact L
  .exact h _ _ Q A_ _
  .exact h _ _ P A_ _
 obtain⟨p,v,S',g,d,N,s⟩:=bDp hn x0 t x2 x5 x9 x10 x11 x12 x13 (n-1) 1 _ _ _ (j_ 0) e_ A_ A_ r;rw[show((1:Nat):Int)=1 from rfl]at N;refine⟨p,v,S',g,d,aE K _ _ t66L1.eq_1 ?_,s⟩;subst hS4;unfold jG at b2 b4 o e2;simp only[bCa]at b2 b4 o e2;simp(disch:=omega)only[go_sem,u,b2,b4,o,F,e2,z,e3,w,I,R,V,aC];exact X_ er N
theorem PT.setM{S:aA}{a:Ad}{p:Pn}(h:PT S a p){r:Nat}(g:r<p.n){b:aG}{f:Tj_}(u:mE (S.set (a.om r) b) (a.om r) p.n f):PT (S.set (a.om r) b) a {p with own:=upd p.own r f}:=by
 have m:=h.nmo (h.omap r g);simp only[Ad.own,J_,D5,I4,H2]at m;obtain⟨v,t,q,w,o⟩:=m;refine⟨?_,?_,?_,?_,?_,fun s d=>?_,fun s d=>?_,h.ninj,h.oinj,h.dis,h.nd⟩;.rw[aB v];exact h.blk
 .rw[aB t];exact h.near
 .rw[aB q];exact h.own
 .rw[aB w];exact h.to
 .rw[aB o];exact h.out
 .obtain⟨l,c,k,i,h3⟩:=h.nmap s d;exact⟨l,c,by rw[aB (B0 (h.dis s r d g))];exact k,i,h3⟩
 .by_cases e:s=r;.subst e;simpa[bU] using u
  .have j:a.om r≠a.om s:=fun e2=>e (h.oinj _ _ g d e2).symm;obtain⟨l,c,k,i,h3⟩:=h.omap s d;simp only[dB _ _ e];exact⟨l,c,by rw[aB j];exact k,i,h3⟩
def isV(e:Int):Bool:=kG e||decide (32<=e)
def aJs(e:Int×Int)(r s:Nat):Bool:=isV e.1&&isV e.2&&(decide (e.1=r)&&decide (e.2=s)||decide (e.1=s)&&decide (e.2=r))
def wF(E:List (Int×Int))(r s:Nat):Bool:=E.any fun e=>aJs e r s
theorem aXh(E:Tb_)(e:Int×Int):wF (E++[e])=fun r s=>wF E r s||aJs e r s:=by funext r s;simp[wF]
theorem bDq(f:Ti_){x y:Nat}(h:x≠y){e:Int×Int}(i:e.1=x)(j:e.2=y)(g:isV e.1=true/\isV e.2=true):aXe f x y=fun r s=>f r s||aJs e r s:=by funext r s;rw[aUu f h,aJs,g.1,g.2,i,j];simp only[Bool.and_self,Q8];congr 1;by_cases a:r=x<;>by_cases b:s=y<;>by_cases c:r=y<;>by_cases d:s=x<;>simp[a,b,c,d]<;>omega
theorem bRe(f:Ti_){e:Int×Int}(a:(isV e.1&&isV e.2)=false):(fun r s=>f r s||aJs e r s)=f:=by funext r s;rw[aJs,a];simp
def aXi(n:Nat)(E:List (Int×Int)):Prop:=∀e∈E,∃x y:Nat,e.1=x/\e.2=y/\x<n/\y<n/\x≠y
theorem aU0{n:Nat}{tE:Tag}{E:Tb_}{tM:Tag}{M:Tb_}(Y:n<=1000000)(hE:E.length<=1000000)(Q:aXi n E)(x0 x1 x2 x4 x6 x7 x8:TV):∀(k i:Nat) (a:Ad) (f:Ti_) (S:aA) (x5 x12 x13:TV),i+k=E.length->PT S a ⟨n,tE,E,tM,M,f,f,fun r=>r,fun _=>0⟩->f=wF (E.take i) ->∃N u z S',lp' (lim K) t66L0 [x0,x1,x2,.ptr a.ip 106 0,x4,x5,x6,x7,x8,.iv (.sl tE (E.map iM)),j_ E.length,j_ i,x12,x13] S = .ret (.exit 2,[x0,x1,x2,.ptr a.ip 106 0,x4,N,x6,x7,x8,.iv (.sl tE (E.map iM)),j_ E.length,j_ E.length,u,z],S')/\PT S' a ⟨n,tE,E,tM,M,wF E,wF E,fun r=>r,fun _=>0⟩
 |0,i,a,f,S,x5,x12,x13,h,hP,hf=>by obtain rfl:i=E.length:=A_;rw[B9]at hf;subst hf;refine⟨x5,z_,x13,S,aE K _ _ t66L0.eq_1 ?_,hP⟩;simp(disch:=omega)only[go_sem]
 |k+1,i,a,f,S,x5,x12,x13,h,hP,hf=>by
  have H:i<E.length:=A_;have d:=gC (w:=2) (f:=iM) (fun _=>rfl) (t:=tE) (l:=E) (i:=(i:Int)) A_;rw[Int.toNat_natCast]at d;have R:E.getD i default∈E:=by simp only[List.getD,D_ H,Option.getD_some];exact B8 _
  have h5:E.take (i+1)=E.take i++[E.getD i default]:=by rw[H0];simp[List.getD,D_ H]
  generalize E.getD i default=e at *
  obtain⟨x,y,Z,W,o,m,F⟩:=Q e R;have I:=aXh (E.take i) e;rw[<-h5,<-hf]at I;have s:=aJn (x:Int);have p:=aJn (y:Int);rw[iM,Z,W]at d;have g:=fun f' S' x5 x12 x13=>aU0 (tE:=tE) (tM:=tM) (M:=M) Y hE Q x0 x1 x2 x4 x6 x7 x8 k (i+1) a f' S' x5 x12 x13 A_;rw[show((i+1:Nat):Int)=(i:Int)+1 by omega]at g;cases hv:(isV e.1&&isV e.2)with
  |false =>
   rw[bRe f hv]at I;have g:=fun b=>g f S (.lb [j_ x,j_ y]) e_ (.iv (.bool b)) hP I.symm;rw[Z,W]at hv;unfold isV at hv;obtain⟨N,u,z,S',g,G⟩:=g false;refine⟨N,u,z,S',aE K _ _ t66L0.eq_1 ?_,G⟩;cases h1:kG (x:Int)with
   |true =>
    rw[h1]at s hv;cases h2:kG (y:Int)with
    |true=>rw[h2]at hv;simp at hv
    |false =>
     rw[h2]at p hv;have q:¬(32:Int)<=y:=by simpa using hv
     simp(disch:=omega)only[go_sem,d,aD s,aD p,aC,P3];exact X_ er g
   |false =>
    rw[h1]at s hv;by_cases L:(32:Int)<=x
    .cases h2:kG (y:Int)with
     |true=>rw[h2]at hv;simp at hv;omega
     |false =>
      rw[h2]at p hv;have q:¬(32:Int)<=y:=by intro h3;simp at hv;omega
      simp(disch:=omega)only[go_sem,d,aD s,aD p,aC,P3];exact X_ er g
    .simp(disch:=omega)only[go_sem,d,aD s,aD p,aC,P3];exact X_ er g
  |true =>
   rw[P_]at hv;have hl:=bDq f F Z W hv;rw[<-hl]at I;obtain⟨S1,C,D,h6⟩:=bDg hP (C0 Y C_) o m F;obtain⟨l,c,J,o2,o3⟩:=D.omap x o;have hm:=mE.put J o2 o3 y m (C0 Y C_) (IntKind.i64.wrap (lR l y+1));have A:=D.setM o hm;obtain⟨l',c',T,q2,q3⟩:=A.omap y m;simp only[dB _ _ (B0 F)]at q3;have h4:=mE.put T q2 q3 x o (C0 Y C_) (IntKind.i64.wrap (lR l' x+1));have h0:=A.setM m h4;have P:=D.blk;have b2:=D.own;have b3:=A.blk;have b4:=A.own;have U:=fS (j:=a.jo) (v:=a.vo) o;have V:=fS (j:=a.jo) (v:=a.vo) m;have s1:=dS (fun r=>TV.map (a.om r)) o;have s2:=dS (fun r=>TV.map (a.om r)) m;simp only[dQ]at P b3;obtain⟨N,u,z,S',g,G⟩:=g (aXe f x y) _ (.lb [j_ x,j_ y]) e_ e_ h0 I.symm;refine⟨N,u,z,S',aE K _ _ t66L0.eq_1 ?_,G⟩;rw[Z,W]at hv;unfold isV at hv;cases h1:kG (x:Int)with
   |true =>
    rw[h1]at s hv;cases h2:kG (y:Int)with
    |true =>rw[h2]at p;simp(disch:=omega)only[go_sem,d,aD s,aD p,aC,P3,C,P,b2,U,V,s1,s2,J,b3,b4,T];exact X_ er g
    |false =>
     rw[h2]at p hv;have q:(32:Int)<=y:=by simpa using hv.2
     simp(disch:=omega)only[go_sem,d,aD s,aD p,aC,P3,C,P,b2,U,V,s1,s2,J,b3,b4,T];exact X_ er g
   |false =>
    rw[h1]at s hv;have L:(32:Int)<=x:=by simpa using hv.1
    cases h2:kG (y:Int)with
    |true =>rw[h2]at p;simp(disch:=omega)only[go_sem,d,aD s,aD p,aC,P3,C,P,b2,U,V,s1,s2,J,b3,b4,T];exact X_ er g
    |false =>
     rw[h2]at p hv;have q:(32:Int)<=y:=by simpa using hv.2
     simp(disch:=omega)only[go_sem,d,aD s,aD p,aC,P3,C,P,b2,U,V,s1,s2,J,b3,b4,T];exact X_ er g
def pn0(n:Nat)(tE:Tag)(E:List (Int×Int))(tM:Tag)(M:List (Int×Int)):Pn:=⟨n,tE,E,tM,M,wF E,wF E,fun r=>r,fun _=>0⟩
theorem aU1{z:IV}{bytes m n:Nat}(a:eA n bytes=true):mkV [z] bytes m (j_ n) (j_ n)=some (.msl m 0 0 n n 1,.cells 0 false (cF n fun _=>.iv z)):=by have b:=bLe (.iv z) n;simp[mkV,TM.fB,a,b]
theorem bRf{n:Nat}{tE:Tag}{E:Tb_}{tM:Tag}{M:Tb_}(f:n<=1000000)(q:32<=n)(p:E.length<=1000000)(c:aXi n E): ∃S' a,(lim K).call 66 [.iv (gv n tE E tM M)] []=.ret (.ptr a.ip 106 0,S')/\PT S' a (pn0 n tE E tM M):=by obtain⟨i,h,S1,nm,e,d,j⟩:=bRd (t1:=tE) (E:=E) (t2:=tM) (M:=M) f A_ (.iv (gv n tE E tM M)) (.lb (qQ n tE E tM M)) (.iv .nilp) u_ u_ u_ u_ u_ u_ u_ u_ [.cells 0 false (cF n fun _=>vI 0),.cells 106 false [j_ n,.iv (.sl tE (E.map iM)),.iv (.sl tM (M.map iM)),k_,k_,k_,.msl 0 0 0 n n 1]] rfl rfl rfl;obtain⟨t,k,o,S2,l2,g⟩:=aU0 (tE:=tE) (tM:=tM) (M:=M) f p c (.iv (gv n tE E tM M)) (.lb (qQ n tE E tM M)) (.iv .nilp) i (j_ n) (j_ n) h E.length 0 ⟨1,6,n-1,7,n-1,8,n-1,0,nm,e⟩ (fun _ _=>false) S1 u_ u_ u_ A_ j.pt (by funext r s;simp[wF]);rw[n0_]at l2;refine⟨S2,⟨1,6,n-1,7,n-1,8,n-1,0,nm,e⟩,aI K _ (fn:=t66) rfl rfl ?_,g⟩;have l:=fun m=>aU1 (z:=.int .i64 0) (m:=m) (bR (n:=n) (b:=8) A_);unfold vI at d;unfold qQ gv at d l2;unfold gv;simp(disch:=omega)only[t66,go_sem,l];rw[d];simp(disch:=omega)only[go_sem,L_];rw[l2];simp(disch:=omega)only[go_sem]
theorem aU2{n:Nat}{x:Nat}(a:x<n)(h:isV (x:Int)=true):vtx n x:=by unfold isV kG at h;refine⟨a,?_⟩;simp at h;omega
theorem aMj(E:Tb_)(r s:Nat):wF E r s=wF E s r:=by unfold wF;congr 1;funext e;unfold aJs;congr 1;rw[Bool.or_comm]
theorem uP{n:Nat}{E:Tb_}(g:aXi n E){r s:Nat}(h:wF E r s=true):r≠s/\vtx n r/\vtx n s/\∃e∈E,e.1=r/\e.2=s\/e.1=s/\e.2=r:=by
 obtain⟨e,c,b⟩:=E8.1 h;obtain⟨x,y,k,i,d,f,a⟩:=g e c;unfold aJs at b;rw[k,i]at b;simp only[P_,D3,q_]at b;obtain⟨⟨o,h3⟩,j⟩:=b;have l:=aU2 d o;have m:=aU2 f h3;rcases j with⟨j,p⟩|⟨j,p⟩;.obtain rfl:x=r:=A_;obtain rfl:y=s:=A_;exact⟨a,l,m,e,c,.inl ⟨k,i⟩⟩
 .obtain rfl:x=s:=A_;obtain rfl:y=r:=A_;exact⟨B0 a,m,l,e,c,.inr ⟨k,i⟩⟩
theorem inv0{n:Nat}{tE:Tag}{E:Tb_}{tM:Tag}{M:Tb_}(a:aXi n E):Inv (pn0 n tE E tM M) (fun r=>r) (fun _=>0) :=
 ⟨⟨fun r _ h=>absurd rfl h,fun r _ _=>rfl⟩,fun r s _ _ h=>by rw[<-h];exact aMj E s r,fun r=>by
  cases h:(pn0 n tE E tM M).near r r with
  |false=>rfl
  |true=>exact absurd rfl (uP a h).1,fun r s _ _ h=>⟨rfl,(uP a h).2.1⟩,fun r s _ _ h=>h,fun _ _ _=>rfl,fun _ _ h=>h⟩
def vJ(lv:TV)(l:List Nat):Prop:=(∃t,lv=.iv (.sl t (cR l)))\/∃j,lv=.tsl j (cR l)
theorem vJ.acc(j:Nat)(l:Tc_):vJ (acc j (cR l)) l:=by
 by_cases h:cR l=[]
 .rw[h,mB];exact .inl ⟨.nil,by rw[h]⟩
 .rw[lO _ h];exact .inr ⟨j,rfl⟩
theorem uQ{t:Tag}{l:Tc_}{i:Nat}(h:i<l.length):indexAddrS 1 (.iv (.sl t (cR l))) (i:Int)=some (.iv (.cp [.int .i64 (l.getD i default:Nat)])):=by have:=gC (w:=1) (f:=fun m:Nat=>[IV.int .i64 (m:Int)]) (fun _=>rfl) (t:=t) (l:=l) (i:=(i:Int)) A_;rwa [Int.toNat_natCast]at this
theorem xL{j:Nat}{l:Tc_}{i:Nat}(h:i<l.length):indexAddrS 1 (.tsl j (cR l)) (i:Int)=some (.iv (.cp [.int .i64 (l.getD i default:Nat)])):=uQ (t:=.no) h
def bI(b:Bool):TV:=.iv (.bool b)
def aJt(p:Pn)(m:Nat)(c:Nat):Prop:=∃t,t<p.n/\p.own m t=true/\p.out t=c/\1<=c/\c<=24
def e40(a:Ad)(lv x2:TV)(T:Nat->Bool)(x4 x5 x6 x7 x8 x9 x10 x11 x12 x13 x14 x15:TV):List TV:=[.ptr a.ip 106 0,lv,x2,.lb (cF 25 fun c=>bI (T c)),x4,x5,x6,x7,x8,x9,x10,x11,x12,x13,x14,x15]
theorem aJu{a:Ad}{p:Pn}{lv:TV}{r:Nat}(hr:r<p.n){bi c:Nat}{l:Td_}(L:gE l c)(hf:∀t:Int,cG l t=true↔∃s:Nat,t=s/\s<p.n/\p.own r s=true)(x2 x4 x6 x7 x8 x9 x10 x14 x15:TV): ∀(k:Nat) (b:Tc_) (T:Tj_) (S:aA) (x5 x12 x13:TV),left l b<k->PT S a p->S[bi]?=some (.mit (some (a.om r)) c b c)->S[a.om r]?=some (.mp (mpR vI l) c) ->(lp' (lim K) t98L1 (e40 a lv x2 T x4 x5 x6 x7 x8 x9 x10 (.it bi) x12 x13 x14 x15) S).All fun q=>∃T' G f i,bL [bi] S q.2.2/\q.1=.exit 2 /\q.2.1=e40 a lv x2 T' x4 G x6 x7 x8 x9 x10 (.it bi) f i x14 x15/\∀c:Nat,T' c=true↔T c=true\/∃z∈l,z.1∉b/\p.out z.2.1.toNat=c/\1<=c/\c<=24
 |0,b,T,S,x5,x12,x13,hk,hP,hb,hm=>A_
 |k+1,b,T,S,x5,x12,x13,hk,hP,hb,hm=>by
  unfold e40;refine fE t98L1.eq_1 ?_;simp(disch:=omega)only[go_sem];refine jD hb hm L.born (O_ _) (fun H=>?_) (fun z D P=>?_);.simp(disch:=omega)only[go_sem];exact bE ⟨T,_,_,_,.refl _ _,rfl,rfl,fun c=>⟨.inl,fun h=>h.elim id fun⟨z,D,P,_⟩=>absurd (H z D) P⟩⟩
  .have h5:=vE D P;have Y:bi≠a.om r:=bN hb hm B_;have m:=hP.setIt hb (.mit (some (a.om r)) c (b++[z.1]) c);have x:(S.set bi (.mit (some (a.om r)) c (b++[z.1]) c))[bi]?=_:=aM (aN hb) _;have u:(S.set bi (.mit (some (a.om r)) c (b++[z.1]) c))[a.om r]?=some (.mp (mpR vI l) c):=by rw[aB Y];exact hm
   have W:=aAl x u D L.once;have F:bL [bi] S (S.set bi (.mit (some (a.om r)) c (b++[z.1]) c)):=bL.set _ B_ _;generalize S.set bi (.mit (some (a.om r)) c (b++[z.1]) c)=S1 at *
   obtain⟨t,Q,J,h4⟩:=wE hf D;have b1:=m.blk;have b2:=m.out;have i1:=fS (j:=a.ju) (v:=0) J;have R:=dS (fun r=>vI (p.out r)) J;have d:=aJn (p.out t);simp only[dQ]at b1;simp only[vI]at b2 R;rw[Q]at W;have g:∀(T1 T':Tj_),(∀c:Nat,T1 c=true↔T c=true\/p.out t=c/\1<=c/\c<=24)->(∀c:Nat,T' c=true↔T1 c=true\/∃w∈l,w.1∉b++[z.1]/\p.out w.2.1.toNat=c/\1<=c/\c<=24)->∀c:Nat,T' c=true↔T c=true\/∃z∈l,z.1∉b/\p.out z.2.1.toNat=c/\1<=c/\c<=24:=by
    intro T1 T' I h2 c;rw[h2 c,I c];constructor
    .rintro((h|h)|⟨w,U,C,h⟩);.exact .inl h
     .exact .inr ⟨z,D,P,by rw[Q,Int.toNat_natCast];exact h⟩
     .exact .inr ⟨w,U,fun e=>C (by simp[e]),h⟩
    .rintro(h|⟨w,U,C,h⟩);.exact .inl (.inl h)
     .by_cases e:w.1=z.1;.have:=aMh L.once U D e;subst this;rw[Q,Int.toNat_natCast]at h;exact .inl (.inr h)
      .exact .inr ⟨w,U,by simp[C,e],h⟩
   rw[Q];cases hc:kG (p.out t)with
   |false =>rw[hc]at d;have N:=aJu (lv:=lv) hr L hf x2 x4 x6 x7 x8 x9 x10 x14 x15 k (b++[z.1]) T S1 (j_ t) e_ z_ A_ m x u;unfold e40 at N;simp(disch:=omega)only[go_sem,W,b1,b2,i1,R,aD d];refine cQ (Out.all_mono ?_ N);rintro q ⟨T',G,f,i,V,Z,e2,I⟩;refine⟨T',G,f,i,F.trans V,Z,e2,g T T' (fun c=>⟨.inl,fun h=>h.elim id fun h=>?_⟩) I⟩;unfold kG at hc;simp at hc;omega
   |true =>
    rw[hc]at d;have h0:1<=p.out t/\p.out t<=24:=by unfold kG at hc;simpa using hc
    obtain⟨o,y⟩:∃o:Nat,p.out t=o:=⟨(p.out t).toNat,by omega⟩
    rw[y]at d R h0;have E:o<25:=A_;have A:=lC (fun c=>bI (T c)) (bI true) E;rw[nW bI]at A;have N:=aJu (lv:=lv) hr L hf x2 x4 x6 x7 x8 x9 x10 x14 x15 k (b++[z.1]) (upd T o true) S1 (j_ t) e_ e_ A_ m x u;unfold e40 at N;rw[show bI true=e_ from rfl]at A;simp(disch:=omega)only[go_sem,W,b1,b2,i1,R,aD d,A,Int.toNat_natCast,I8,A7];refine cQ (Out.all_mono ?_ N);rintro q ⟨T',G,f,i,V,Z,e2,I⟩;refine⟨T',G,f,i,F.trans V,Z,e2,g _ T' (fun c=>?_) I⟩;unfold upd;split;.rename_i e;subst e;simp[y];omega
    .rename_i e;rw[y];constructor;.exact .inl
     .rintro(h|⟨h,_⟩);.exact h
      .omega
theorem aU3{a:Ad}{p:Pn}{lv:TV}{l:Tc_}(s:vJ lv l)(h0:l.length<=1000000)(C:∀m∈l,m<p.n)(x2 x6 x14 x15:TV): ∀(k i:Nat) (T:Tj_) (S:aA) (x4 x5 x10 x11 x12 x13:TV),i+k=l.length->PT S a p ->(lp' (lim K) t98L2 (e40 a lv x2 T x4 x5 x6 lv (j_ l.length) (j_ i) x10 x11 x12 x13 x14 x15) S).All fun q=>∃T' y4 P h5 I w x,bL [] S q.2.2/\q.1=.exit 0 /\q.2.1=e40 a lv x2 T' y4 P x6 lv (j_ l.length) (j_ l.length) h5 I w x x14 x15/\∀c:Nat,T' c=true↔T c=true\/∃m∈l.drop i,aJt p m c
 |0,i,T,S,x4,x5,x10,x11,x12,x13,h,hP=>by
  obtain rfl:i=l.length:=A_;unfold e40;refine fE t98L2.eq_1 ?_;rcases s with⟨t,rfl⟩|⟨j,rfl⟩;.simp(disch:=omega)only[go_sem];exact bE ⟨T,_,_,_,_,_,_,.refl _ _,rfl,rfl,fun c=>by rw[E0];simp⟩
  .simp(disch:=omega)only[go_sem];exact bE ⟨T,_,_,_,_,_,_,.refl _ _,rfl,rfl,fun c=>by rw[E0];simp⟩
 |k+1,i,T,S,x4,x5,x10,x11,x12,x13,h,hP=>by
  have b:i<l.length:=A_;have h6:l.drop i=l.getD i default::l.drop (i+1):=by rw[A6 b];simp[List.getD,D_ b]
  have R:=fun t=>uQ (t:=t) b;have Q:=fun j=>xL (j:=j) b;have F:l.getD i default<p.n:=C _ (by simp only[List.getD,D_ b,Option.getD_some];exact B8 _);generalize l.getD i default=r at *
  obtain⟨lo,c,o1,o2,o3⟩:=hP.omap r F;have W:=hP.blk;have b2:=hP.own;have i1:=fS (j:=a.jo) (v:=a.vo) F;have s1:=dS (fun r=>TV.map (a.om r)) F;simp only[dQ]at W;have rg:=kE o1;have k1:=bL.app [] S [aG.mit (some (a.om r)) c [] c];have l1:=aJu (lv:=lv) F o2 o3 x2 (j_ r) x6 lv (j_ l.length) (j_ i) e_ x14 x15 (left lo []+1) [] T (S++[.mit (some (a.om r)) c [] c]) x5 x12 x13 A_ (hP.keep k1) (cN _ _) (k1.get _ _ B_ o1);have G:=fun T' S' x4 x5 x10 x11 x12 x13=>aU3 (a:=a) s h0 C x2 x6 x14 x15 k (i+1) T' S' x4 x5 x10 x11 x12 x13 A_;rw[show((i+1:Nat):Int)=(i:Int)+1 by omega]at G;unfold e40 at G l1 |-;refine fE t98L2.eq_1 ?_;have fin:∀(T1 T':Tj_),(∀c:Nat,T1 c=true↔T c=true\/∃z∈lo,z.1∉([]:Tc_)/\p.out z.2.1.toNat=c/\1<=c/\c<=24)->(∀c:Nat,T' c=true↔T1 c=true\/∃m∈l.drop (i+1),aJt p m c)->∀c:Nat,T' c=true↔T c=true\/∃m∈l.drop i,aJt p m c:=by
   intro T1 T' E h2 c;rw[h2 c,E c,h6];have e:(∃z∈lo,z.1∉([]:Tc_)/\p.out z.2.1.toNat=c/\1<=c/\c<=24)↔aJt p r c:=by
    constructor;.rintro⟨z,Y,_,h3,V⟩;obtain⟨t,ht,u,o⟩:=wE o3 Y;rw[ht,Int.toNat_natCast]at h3;exact⟨t,u,o,h3,V⟩
    .rintro⟨t,u,o,h3,V⟩;obtain⟨z,Y,H⟩:=A0.1 (oJ.1 ((aDn o3 u).trans o));exact⟨z,Y,by simp,by rw[H,Int.toNat_natCast];exact h3,V⟩
   rw[e];simp only[J_,exists_eq_or_imp,Z7]
  rcases s with⟨t,rfl⟩|⟨j,rfl⟩;.simp(disch:=omega)only[go_sem,R,W,b2,i1,s1,rg];refine mQ l1 ?_;rintro j e S1 ⟨T1,P,w,x,f,D,e2,E⟩;dsimp only at D e2 f;subst D e2;simp(disch:=omega)only[go_sem,aC];refine cQ (Out.all_mono ?_ (G T1 S1 _ _ _ _ _ _ (hP.keep (mF f))));rintro q ⟨T',L,Z,d,y,A,g,J,f1,N,U⟩;exact⟨T',L,Z,d,y,A,g,(mF f).trans J,f1,N,fin T1 T' E U⟩
  .simp(disch:=omega)only[go_sem,Q,W,b2,i1,s1,rg];refine mQ l1 ?_;rintro j e S1 ⟨T1,P,w,x,f,D,e2,E⟩;dsimp only at D e2 f;subst D e2;simp(disch:=omega)only[go_sem,aC];refine cQ (Out.all_mono ?_ (G T1 S1 _ _ _ _ _ _ (hP.keep (mF f))));rintro q ⟨T',L,Z,d,y,A,g,J,f1,N,U⟩;exact⟨T',L,Z,d,y,A,g,(mF f).trans J,f1,N,fin T1 T' E U⟩
theorem aJv{a:Ad}{lv:TV}(T:Tj_)(S:aA)(x4 x5 x7 x8 x9 x10 x11 x12 x13:TV):∀(k c:Nat) (x14 x15:TV),c+k=25 ->∃j v m f b,lp' (lim K) t98L0 (e40 a lv (j_ 0) T x4 x5 (j_ c) x7 x8 x9 x10 x11 x12 x13 x14 x15) S = .ret (j,e40 a lv (j_ v) T x4 x5 m x7 x8 x9 x10 x11 x12 x13 f b,S)/\(j=.exit 4/\(∀d,c<=d->d<=24->T d=true)\/j=.ret/\∃d:Nat,v=d/\c<=d/\d<=24/\T d=false)
 |0,c,x14,x15,h=>by obtain rfl:c=25:=A_;refine⟨.exit 4,0,j_ 25,z_,x15,?_,.inl ⟨rfl,fun d i n=>A_⟩⟩;unfold e40;refine aE K _ _ t98L0.eq_1 ?_;simp(disch:=omega)only[go_sem];rfl
 |k+1,c,x14,x15,h=>by
  have g:=dS (fun c=>bI (T c)) (show c<25 by omega);simp only[bI]at g;cases hT:T c with
  |false =>rw[hT]at g;refine⟨.ret,c,j_ c,e_,e_,?_,.inr ⟨rfl,c,rfl,O_ _,by omega,hT⟩⟩;unfold e40;simp only[bI];refine aE K _ _ t98L0.eq_1 ?_;simp(disch:=omega)only[go_sem,g,Int.toNat_natCast,I8,A7]
  |true =>
   rw[hT]at g;obtain⟨j,v,m,f,b,l,o⟩:=aJv T S x4 x5 x7 x8 x9 x10 x11 x12 x13 k (c+1) e_ z_ A_;rw[show((c+1:Nat):Int)=(c:Int)+1 by omega]at l;refine⟨j,v,m,f,b,?_,?_⟩;.unfold e40 at l |-;simp only[bI]at l |-;refine aE K _ _ t98L0.eq_1 ?_;simp(disch:=omega)only[go_sem,g,Int.toNat_natCast,I8,A7,aC];exact X_ er l
   .rcases o with⟨rfl,i⟩|⟨rfl,d,i,n,h3,p⟩
    .refine .inl ⟨rfl,fun d n h3=>?_⟩;by_cases e:d=c;.rw[e];exact hT
     .exact i d A_ h3
    .exact .inr ⟨rfl,d,i,by omega,h3,p⟩
def aDr(p:Pn)(l:List Nat)(v:Int):Prop:=v = -1/\(∀d:Nat,1<=d->d<=24->∃m∈l,aJt p m d)\/∃d:Nat,v=d/\1<=d/\d<=24/\∀m∈l,¬aJt p m d
theorem bDr{S:aA}{a:Ad}{p:Pn}(N:PT S a p){lv:TV}{l:Tc_}(g:vJ lv l)(H:l.length<=1000000)(D:∀m∈l,m<p.n): ((lim K).call 98 [.ptr a.ip 106 0,lv] S).All fun r=>∃v,r.1=j_ v/\bL [] S r.2/\aDr p l v:=by
 have w:=aU3 g H D (j_ 0) u_ u_ u_ l.length 0 (fun _=>false) S u_ u_ u_ u_ u_ u_ A_ N;rw[n0_,C4]at w;unfold e40 at w;rw[show cF 25 (fun c=>bI ((fun _=>false) c))=[z_,z_,z_,z_,z_,z_,z_,z_,z_,z_,z_,z_,z_,z_,z_,z_,z_,z_,z_,z_,z_,z_,z_,z_,z_] from rfl]at w;refine dJ K _ (fn:=t98) rfl rfl ?_;have f:∀(T:Tj_),(∀c:Nat,T c=true↔false=true\/∃m∈l,aJt p m c)->∀(j:aW) (v:Int),(j=.exit 4/\(∀d,1<=d->d<=24->T d=true)->aDr p l (-1))/\((j=.ret/\∃d:Nat,v=d/\1<=d/\d<=24/\T d=false)->aDr p l v):=by intro T L j v;refine⟨fun⟨_,h⟩=>.inl ⟨rfl,fun d F A=>by simpa using(L d).1 (h d F A)⟩,fun⟨_,d,F,A,h3,h4⟩=>.inr ⟨d,F,A,h3,fun m P s=>?_⟩⟩;rw[(L d).2 (.inr ⟨m,P,s⟩)]at h4;cases h4
 have U:rZ .sl S lv=some (j_ l.length):=by
  rcases g with⟨t,rfl⟩|⟨j,rfl⟩;.show some (TV.iv (IV.int .i64 ((cR l).length:Nat)))=_;rw[iT]
  .show some (TV.iv (IV.int .i64 ((cR l).length:Nat)))=_;rw[iT]
 rcases g with⟨t,rfl⟩|⟨j,rfl⟩
 .simp(disch:=omega)only[t98,go_sem,iT];refine dN w ?_;rintro j e S1 ⟨T,C,I,u,i,o,q,k,y,x,E⟩;dsimp only at y x k;subst y x;obtain⟨j,v,Q,J,z,l2,b⟩:=aJv (a:=a) (lv:=.iv (.sl t (cR l))) T S1 C I (.iv (.sl t (cR l))) (j_ l.length) (j_ l.length) u i o q 24 1 u_ u_ A_;rw[show((1:Nat):Int)=1 from rfl]at l2;unfold e40 at l2;simp(disch:=omega)only[go_sem];rw[l2];have s:=f T E j v;rcases b with⟨rfl,b⟩|⟨rfl,b⟩;.simp(disch:=omega)only[go_sem];exact bE ⟨-1,rfl,k,s.1 ⟨rfl,b⟩⟩
  .simp(disch:=omega)only[go_sem];exact bE ⟨v,rfl,k,s.2 ⟨rfl,b⟩⟩
 .simp(disch:=omega)only[t98,go_sem,iT];refine dN w ?_;rintro R e S1 ⟨T,C,I,u,i,o,q,k,y,x,E⟩;dsimp only at y x k;subst y x;obtain⟨G,v,Q,J,z,l2,b⟩:=aJv (a:=a) (lv:=.tsl j (cR l)) T S1 C I (.tsl j (cR l)) (j_ l.length) (j_ l.length) u i o q 24 1 u_ u_ A_;rw[show((1:Nat):Int)=1 from rfl]at l2;unfold e40 at l2;simp(disch:=omega)only[go_sem];rw[l2];have s:=f T E G v;rcases b with⟨rfl,b⟩|⟨rfl,b⟩;.simp(disch:=omega)only[go_sem];exact bE ⟨-1,rfl,k,s.1 ⟨rfl,b⟩⟩
  .simp(disch:=omega)only[go_sem];exact bE ⟨v,rfl,k,s.2 ⟨rfl,b⟩⟩
theorem aG8{a:Ad}(S:aA)(b:aG):KpX a.own S (S.set a.ju b):=KpX.keep (bL.set (I:=[a.ju]) _ B_ _) (by simp[Ad.own])
theorem aU4{a:Ad}{lv:TV}{l:Tc_}(f:vJ lv l)(A:l.length<=1000000)(c:Int)(q:c≠-1): ∀(k i:Nat) (p:Pn) (S:aA) (g x7 x8:TV),i+k=l.length->(∀m∈l,m<p.n)->PT S a p ->∃z w y S' b,lp' (lim K) t71L0 [.ptr a.ip 106 0,lv,j_ c,g,lv,j_ l.length,j_ i,x7,x8] S = .ret (.exit 0,[.ptr a.ip 106 0,lv,j_ c,z,lv,j_ l.length,j_ l.length,w,y],S')/\PT S' a {p with out:=b}/\KpX a.own S S'/\∀m,b m=if m∈l.drop i then c else p.out m
 |0,i,p,S,g,x7,x8,h,hln,hP=>by
  obtain rfl:i=l.length:=A_;refine⟨g,z_,x8,S,p.out,aE K _ _ t71L0.eq_1 ?_,hP,.refl _ _,fun m=>by rw[E0];simp⟩;rcases f with⟨t,rfl⟩|⟨j,rfl⟩;.simp(disch:=omega)only[go_sem]
  .simp(disch:=omega)only[go_sem]
 |k+1,i,p,S,g,x7,x8,h,hln,hP=>by
  have d:i<l.length:=A_;have D:l.drop i=l.getD i default::l.drop (i+1):=by rw[A6 d];simp[List.getD,D_ d]
  have s:=fun t=>uQ (t:=t) d;have E:=fun j=>xL (j:=j) d;have G:l.getD i default<p.n:=hln _ (by simp only[List.getD,D_ d,Option.getD_some];exact B8 _);generalize l.getD i default=r at *
  have x:=hP.setOut r c;have u:=hP.blk;have b2:=hP.out;have F:=fS (j:=a.ju) (v:=0) G;have C:=lC (fun r=>vI (p.out r)) (vI c) G;simp only[dQ]at u;obtain⟨z,w,y,S',b,o,I,H,h3⟩:=aU4 f A c q k (i+1) {p with out:=upd p.out r c} _ (j_ r) e_ z_ A_ hln x;rw[show((i+1:Nat):Int)=(i:Int)+1 by omega]at o;simp only[vI]at b2 C o;refine⟨z,w,y,S',b,aE K _ _ t71L0.eq_1 ?_,I,(aG8 _ _).trans H,fun m=>?_⟩
  .rcases f with⟨t,rfl⟩|⟨j,rfl⟩;.simp(disch:=omega)only[go_sem,s,u,b2,F,C,aC,q];exact X_ er o
   .simp(disch:=omega)only[go_sem,E,u,b2,F,C,aC,q];exact X_ er o
  .rw[h3 m,D];simp only[J_];by_cases e:m∈l.drop (i+1);.rw[K_ e,K_ (.inr e)]
   .rw[I_ e];by_cases e2:m=r;.subst e2;rw[bU,K_ (.inl rfl)]
    .rw[dB _ _ e2,I_ (by simp[e,e2])]
inductive zI (p:Pn):List Nat->(Nat->Int)->(Nat->Int)->Prop
 |nil (o:Nat->Int):zI p [] o o
 |cons {m:Nat} {l:List Nat} {o o':Nat->Int} {v:Int} (h:aDr {p with out:=o} [m] v) (g:zI p l (upd o m v) o'):zI p (m::l) o o'
theorem zI.re{p:Pn}{X:Tg_}{l:Tc_}{o o':Tg_}(h:zI {p with out:=X} l o o'):zI p l o o':=by
 induction h with
 |nil o=>exact .nil o
 |cons h g ih=>exact .cons h ih
theorem aU5{a:Ad}{lv:TV}{l:Tc_}(g:vJ lv l)(F:l.length<=1000000): ∀(k i:Nat) (p:Pn) (S:aA) (z x7 x8:TV),i+k=l.length->(∀m∈l,m<p.n)->PT S a p ->(lp' (lim K) t71L0 [.ptr a.ip 106 0,lv,j_ (-1),z,lv,j_ l.length,j_ i,x7,x8] S).All fun q=>∃u o s b,q.1=.exit 0 /\q.2.1=[.ptr a.ip 106 0,lv,j_ (-1),u,lv,j_ l.length,j_ l.length,o,s]/\PT q.2.2 a {p with out:=b}/\KpX a.own S q.2.2/\zI p (l.drop i) p.out b
 |0,i,p,S,z,x7,x8,h,hln,hP=>by
  obtain rfl:i=l.length:=A_;refine fE t71L0.eq_1 ?_;rcases g with⟨t,rfl⟩|⟨j,rfl⟩;.simp(disch:=omega)only[go_sem];exact bE ⟨_,_,_,p.out,rfl,rfl,hP,.refl _ _,by rw[E0];exact .nil _⟩
  .simp(disch:=omega)only[go_sem];exact bE ⟨_,_,_,p.out,rfl,rfl,hP,.refl _ _,by rw[E0];exact .nil _⟩
 |k+1,i,p,S,z,x7,x8,h,hln,hP=>by
  have d:i<l.length:=A_;have C:l.drop i=l.getD i default::l.drop (i+1):=by rw[A6 d];simp[List.getD,D_ d]
  have A:=fun t=>uQ (t:=t) d;have G:=fun j=>xL (j:=j) d;have E:l.getD i default<p.n:=hln _ (by simp only[List.getD,D_ d,Option.getD_some];exact B8 _);generalize l.getD i default=r at *
  have D:=hP.blk;simp only[dQ]at D;have H:=fS (j:=a.ju) (v:=0) E;have w:=bDr hP (lv:=.iv (.sl .full (cR [r]))) (.inl ⟨_,rfl⟩) B_ (by simpa using E);rw[show cR [r]=[[.int .i64 (r:Int)]] from rfl]at w;have fin:∀(S1:aA) (v:Int),bL [] S S1->aDr p [r] v->∀q:aW×Env×aA,(∃u o s b,q.1=.exit 0 /\
   q.2.1=[.ptr a.ip 106 0,lv,j_ (-1),u,lv,j_ l.length,j_ l.length,o,s]/\PT q.2.2 a {p with out:=b}/\KpX a.own (S1.set a.ju (.cells 0 false (cF p.n (upd (fun r=>vI (p.out r)) r (vI v))))) q.2.2/\zI {p with out:=upd p.out r v} (l.drop (i+1)) (upd p.out r v) b)->∃u o s b,q.1=.exit 0 /\
   q.2.1=[.ptr a.ip 106 0,lv,j_ (-1),u,lv,j_ l.length,j_ l.length,o,s]/\PT q.2.2 a {p with out:=b}/\KpX a.own S q.2.2/\zI p (l.drop i) p.out b:=by
   rintro S1 v c x q ⟨u,o,s,b,N,e2,J,I,h3⟩
   exact⟨u,o,s,b,N,e2,J,(KpX.keep c B_).trans ((aG8 _ _).trans I),by rw[C];exact .cons x h3.re⟩
  have e:=fun S1 v (c:bL [] S S1)=>aU5 g F k (i+1) {p with out:=upd p.out r v} _ (j_ r) e_ e_ A_ hln ((hP.keep c).setOut r v);have f:=fun v=>lC (fun r=>vI (p.out r)) (vI v) E;refine fE t71L0.eq_1 ?_;rcases g with⟨t,rfl⟩|⟨j,rfl⟩;.simp(disch:=omega)only[go_sem,A,D];refine kJ w ?_;rintro L S1 ⟨v,y,c,x⟩;dsimp only at y c;subst y;have b3:=(hP.keep c).blk;have b4:=(hP.keep c).out;have f:=f v;have e:=e S1 v c;rw[show((i+1:Nat):Int)=(i:Int)+1 by omega]at e;refine Out.all_mono (fin S1 v c x) ?_;simp only[dQ]at b3;simp only[vI]at b4 f e |-;simp(disch:=omega)only[go_sem,b3,b4,H,f,aC];exact cQ e
  .simp(disch:=omega)only[go_sem,G,D];refine kJ w ?_;rintro L S1 ⟨v,y,c,x⟩;dsimp only at y c;subst y;have b3:=(hP.keep c).blk;have b4:=(hP.keep c).out;have f:=f v;have e:=e S1 v c;rw[show((i+1:Nat):Int)=(i:Int)+1 by omega]at e;refine Out.all_mono (fin S1 v c x) ?_;simp only[dQ]at b3;simp only[vI]at b4 f e |-;simp(disch:=omega)only[go_sem,b3,b4,H,f,aC];exact cQ e
def qR(p:Pn)(l:List Nat)(out':Nat->Int):Prop :=
 (∃d:Nat,1<=d/\d<=24/\(∀m∈l,¬aJt p m d)/\∀m,out' m=if m∈l then(d:Int)else p.out m)\/(∀d:Nat,1<=d->d<=24->∃m∈l,aJt p m d)/\zI p l p.out out'
theorem bRg{S:aA}{a:Ad}{p:Pn}(C:PT S a p){lv:TV}{l:Tc_}(f:vJ lv l)(x:l.length<=1000000)(k:∀m∈l,m<p.n): ((lim K).call 71 [.ptr a.ip 106 0,lv] S).All fun r=>∃b,r.1=u_/\PT r.2 a {p with out:=b}/\KpG a S r.2/\qR p l b:=by
 have A:=bDr C f x k;refine dJ K _ (fn:=t71) rfl rfl ?_;have key:∀(S1:aA) (v:Int),bL [] S S1->aDr p l v->(lp' (lim K) t71L0 [.ptr a.ip 106 0,lv,j_ v,u_,lv,j_ l.length,j_ 0,u_,u_] S1).All fun q=>∃w s u b,q.1=.exit 0 /\
   q.2.1=[.ptr a.ip 106 0,lv,j_ v,w,lv,j_ l.length,j_ l.length,s,u]/\PT q.2.2 a {p with out:=b}/\KpG a S q.2.2/\qR p l b:=by
  intro S1 v c o
  rcases o with⟨rfl,o⟩|⟨d,rfl,F,E,h3⟩
  .have:=aU5 f x l.length 0 p S1 u_ u_ u_ A_ k (C.keep c)
   refine Out.all_mono ?_ this
   rintro q ⟨w,s,u,b,y,e2,h,g,i⟩
   exact⟨w,s,u,b,y,e2,h,((KpX.keep c B_).trans g).toG,.inr ⟨o,by rwa [C4]at i⟩⟩
  .obtain⟨w,s,u,S',b,D,h,g,i⟩:=aU4 f x d A_ l.length 0 p S1 u_ u_ u_ A_ k (C.keep c)
   rw[n0_]at D
   rw[D]
   rw[C4]at i
   exact bE ⟨w,s,u,b,rfl,rfl,h,((KpX.keep c B_).trans g).toG,.inl ⟨d,F,E,h3,i⟩⟩
 rcases f with⟨t,rfl⟩|⟨j,rfl⟩;.simp(disch:=omega)only[t71,go_sem];refine fI A ?_;rintro G S1 ⟨v,z,c,o⟩;dsimp only at z c;subst z;simp(disch:=omega)only[go_sem,iT];refine dN (key S1 v c o) ?_;rintro j e S2 ⟨w,s,u,b,y,e2,h,g,i⟩;dsimp only at y e2 h g;subst y e2;simp(disch:=omega)only[go_sem];exact bE ⟨b,rfl,h,g,i⟩
 .simp(disch:=omega)only[t71,go_sem];refine fI A ?_;rintro G S1 ⟨v,z,c,o⟩;dsimp only at z c;subst z;simp(disch:=omega)only[go_sem,iT];refine dN (key S1 v c o) ?_;rintro j e S2 ⟨w,s,u,b,y,e2,h,g,i⟩;dsimp only at y e2 h g;subst y e2;simp(disch:=omega)only[go_sem];exact bE ⟨b,rfl,h,g,i⟩
theorem aJw{L:Tc_}{J:Tn_}{i:Nat}(h:i<L.length):sub (L.map nI++J) i 1=some [nI (L.getD i default)]:=by simp only[sub,H_,L_,show i+1<=L.length+J.length by omega,↓reduceIte];rw[A6 (by simp;omega)];simp[Y9,h,List.getD,D_ h]
structure Dg (S:aA) (jb jd n:Nat) (dg:Nat->Int):Prop where
 box:S[jb]?=some (.cells 27 false [.msl jd 0 0 n n 1])
 row:S[jd]?=some (.cells 0 false (cF n fun r=>vI (dg r)))
theorem bRh{S:aA}{jb c n:Nat}{a:Tg_}(h:Dg S jb c n a){x:Nat}(b:x<n):(lim K).call 93 [j_ x,.ptr jb 27 0] S=.ret (.iv (.bool (decide (a x<24))),S):=by have f:=h.box;have b2:=h.row;have e:=fS (j:=c) (v:=0) b;have d:=dS (fun r=>vI (a r)) b;simp only[vI]at b2 d;refine aI K _ (fn:=t93) rfl rfl ?_;simp(disch:=omega)only[t93,go_sem,f,b2,e,d]
theorem bLf{jl v m cap i:Nat}(h:i<m):indexAddrS 1 (.msl jl v 0 m cap 1) (i:Int)=some (.ptr jl v i):=by rw[aLm A_,Int.toNat_natCast,A7]
theorem aU6{S:aA}{jb C n:Nat}{g:Tg_}(h:Dg S jb C n g){jl v:Nat}{L:Tc_}{J:Tn_}(m:S[jl]?=some (.cells v true (L.map nI++J)))(d:∀x∈L,x<n)(s:L.length<=1000000)(cap:Nat):∀(k i:Nat) (x2 f x6 x7:TV),i+k=L.length ->∃j l r u o p,lp' (lim K) t50L0 [.msl jl v 0 L.length cap 1,.fn 93 [] [.ptr jb 27 0],x2,f,j_ L.length,j_ i,x6,x7] S = .ret (j,[.msl jl v 0 L.length cap 1,.fn 93 [] [.ptr jb 27 0],l,r,j_ L.length,u,o,p],S) /\(j=.exit 0/\(∀q,i<=q->q<L.length->¬g (L.getD q default)<24)\/j=.ret/\∃q:Nat,l=j_ q/\q<L.length/\g (L.getD q default)<24)
 |0,i,x2,f,x6,x7,hk=>by obtain rfl:i=L.length:=A_;refine⟨.exit 0,x2,f,j_ L.length,z_,x7,aE K _ _ t50L0.eq_1 ?_,.inl ⟨rfl,fun q A w=>A_⟩⟩;simp(disch:=omega)only[go_sem]
 |k+1,i,x2,f,x6,x7,hk=>by
  have a:i<L.length:=A_;have y:=bLf (jl:=jl) (v:=v) (cap:=cap) a;have t:=aJw (J:=J) a;have D:L.getD i default<n:=d _ (by simp only[List.getD,D_ a,Option.getD_some];exact B8 _);have b:=bRh h D;simp only[nI]at m t;by_cases hd:g (L.getD i default)<24;.rw[V_ hd]at b;refine⟨.ret,j_ i,j_ i,j_ i,e_,e_,aE K _ _ t50L0.eq_1 ?_,.inr ⟨rfl,i,rfl,a,hd⟩⟩;simp(disch:=omega)only[go_sem,y,m,t,b]
  .rw[l_ hd]at b;obtain⟨j,l,r,u,o,p,z,c⟩:=aU6 h (J:=J) (by simpa only[nI] using m) d s cap k (i+1) x2 (j_ i) e_ z_ A_;rw[show((i+1:Nat):Int)=(i:Int)+1 by omega]at z;refine⟨j,l,r,u,o,p,aE K _ _ t50L0.eq_1 ?_,?_⟩;.simp(disch:=omega)only[go_sem,y,m,t,b,aC];exact X_ er z
   .rcases c with⟨rfl,c⟩|c
    .refine .inl ⟨rfl,fun q A w=>?_⟩;by_cases e:q=i;.rw[e];exact hd
     .exact c q A_ w
    .exact .inr c
theorem bLg{S:aA}{jb k n:Nat}{f:Tg_}(h:Dg S jb k n f){jl v:Nat}{L:Tc_}{J:Tn_}(i:S[jl]?=some (.cells v true (L.map nI++J)))(c:∀x∈L,x<n)(d:L.length<=1000000)(cap:Nat): ∃w:Int,(lim K).call 50 [.msl jl v 0 L.length cap 1,.fn 93 [] [.ptr jb 27 0]] S=.ret (j_ w,S)/\(w = -1/\(∀q,q<L.length->¬f (L.getD q default)<24)\/∃q:Nat,w=q/\q<L.length/\f (L.getD q default)<24):=by
 obtain⟨j,p,m,l,o,r,e,a⟩:=aU6 h i c d cap L.length 0 (j_ 0) u_ u_ u_ A_;rw[n0_]at e;rcases a with⟨rfl,a⟩|⟨rfl,q,rfl,g,b⟩;.refine⟨-1,aI K _ (fn:=t50) rfl rfl ?_,.inl ⟨rfl,fun q b=>a q A_ b⟩⟩;simp(disch:=omega)only[t50,go_sem];rw[e];simp(disch:=omega)only[go_sem]
 .refine⟨q,aI K _ (fn:=t50) rfl rfl ?_,.inr ⟨q,rfl,g,b⟩⟩;simp(disch:=omega)only[t50,go_sem];rw[e];simp(disch:=omega)only[go_sem]
theorem aU7(x:Int):Pure K 120 [j_ x] z_:=by refine aT t120 rfl rfl ?_;simp(disch:=omega)only[t120,go_sem]
theorem bRi(x y:Int):∃c:Int,Pure K 96 [j_ x,j_ y] (j_ c):=by
 have a:=aU7 x;have b:=aU7 y;by_cases h1:x<y;.refine⟨-1,aT t96 rfl rfl ?_⟩;simp(disch:=omega)only[t96,go_sem,aD a,aD b]
 .by_cases h2:y<x;.refine⟨1,aT t96 rfl rfl ?_⟩;simp(disch:=omega)only[t96,go_sem,aD a,aD b]
  .refine⟨0,aT t96 rfl rfl ?_⟩;simp(disch:=omega)only[t96,go_sem,aD a,aD b]
theorem bRj{S:aA}{jb d n:Nat}{a:Tg_}(h:Dg S jb d n a){x y:Nat}(f:x<n)(e:y<n):∃c:Int,(lim K).call 95 [j_ x,j_ y,.ptr jb 27 0] S=.ret (j_ c,S):=by have m:=h.box;have b2:=h.row;have k:=fS (j:=d) (v:=0) f;have g:=dS (fun r=>vI (a r)) f;have l:=fS (j:=d) (v:=0) e;have i:=dS (fun r=>vI (a r)) e;obtain⟨c,b⟩:=bRi (a x) (a y);simp only[vI]at b2 g i;refine⟨c,aI K _ (fn:=t95) rfl rfl ?_⟩;simp(disch:=omega)only[t95,go_sem,m,b2,k,g,l,i,aD b]
end Go.Proofs.YtehlgnfhkidgoaaGreatDoor
