/- Some texts of the proof, joined. Condition: none. -/
import Derived.Test.YtehlgnfhkidgoaaGreatDoorJa
import Derived.Test.YtehlgnfhkidgoaaGreatDoorTmF
import Derived.Test.YtehlgnfhkidgoaaGreatDoorJc
import Derived.Test.YtehlgnfhkidgoaaGreatDoorTmE
import Derived.Test.YtehlgnfhkidgoaaGreatDoorJb
set_option linter.unusedSectionVars false
set_option maxRecDepth 100000
set_option maxHeartbeats 64000000
set_option linter.unusedSimpArgs false
set_option linter.unusedVariables false
namespace Go.Proofs.YtehlgnfhkidgoaaGreatDoor
open Go Go.TM
def ltq(x y:Int×Int):Prop:=x.1<y.1\/(x.1=y.1/\x.2<y.2)
theorem bCu{l:Tb_}(h:l.Nodup):(gR l).Pairwise ltq:=by
 have f:(gR l).Nodup:=((kF l).nodup_iff).2 h;refine(List.Pairwise.and (rW l) f).imp fun {a b} ⟨c,d⟩=>?_;unfold leP at c;rw[p_]at c;unfold ltq;rcases c with c|⟨c,g⟩;.exact .inl c
 .refine .inr ⟨c,?_⟩;by_cases e:a.2=b.2;.exact absurd (Prod.ext c e) d
  .omega
def prP(a b:Int):Int×Int:=if a<=b then(a,b)else(b,a)
theorem bCv(a b:Int):prP a b=prP b a:=by
 unfold prP;by_cases h1:a<=b
 .by_cases h2:b<=a;.have:a=b:=A_;subst this;rfl
  .rw[K_ h1,I_ h2]
 .rw[I_ h1,K_ A_]
theorem aDk{a b c d:Int}:prP a b=prP c d↔(a=c/\b=d)\/(a=d/\b=c):=by unfold prP;split<;>split<;>simp only[B4]<;>omega
def mvP(x:VI)(p:Int×Int):Prop:=x.op=64/\p=prP x.a x.d
def bCw(x:VI)(O:List Int)(p:Int×Int):Prop:=∃d∈aW x,∃r∈O++aW x,r≠d/\¬mvP x (prP d r)/\p=prP d r
def pF(ins:List VI)(O:Nat->List Int)(p:Int×Int):Prop:=∃i,i<ins.length/\bCw (ins.getD i default) (O i) p
def sR(ins:List VI)(p:Int×Int):Prop:=∃i,i<ins.length/\(ins.getD i default).op=64/\(ins.getD i default).a≠(ins.getD i default).d/\(ins.getD i default).a≠0/\(ins.getD i default).d≠0/\p=prP (ins.getD i default).a (ins.getD i default).d
def InP(rg:Int)(p:Int×Int):Prop:=1<=p.1/\p.1<p.2/\p.2<rg
theorem bCx{rg a b:Int}(c:1<=a/\a<rg)(d:1<=b/\b<rg)(h:a≠b):InP rg (prP a b):=by unfold prP InP;split<;>simp only<;>omega
theorem bLc{rg:Int}{ins:List VI}{O:Nat->List Int}(c:∀i,i<ins.length->∀d∈aW (ins.getD i default),1<=d/\d<rg)(f:∀i,i<ins.length->∀d∈O i,1<=d/\d<rg){p:Int×Int}(h:pF ins O p):InP rg p:=by
 obtain⟨i,b,d,e,r,g,a,_,rfl⟩:=h;refine bCx (c i b d e) ?_ (B0 a);rcases U_.1 g with h|h;.exact f i b r h
 .exact c i b r h
theorem bLd{rg:Int}{ins:List VI}(g:∀i,i<ins.length->0<=(ins.getD i default).a/\(ins.getD i default).a<rg)(e:∀i,i<ins.length->(ins.getD i default).op=64->0<=(ins.getD i default).d/\(ins.getD i default).d<rg){p:Int×Int}(h:sR ins p):InP rg p:=by obtain⟨i,c,f,j,l,k,rfl⟩:=h;have a:=g i c;have b:=e i c f;exact bCx A_ A_ j
structure bXc (rg a b:Int) (f:Int->Int->Bool) (L:List (Int×Int)):Prop where
 inc:L.Pairwise ltq
 mem:∀p,p∈L↔InP rg p/\(p.1<a\/(p.1=a/\p.2<b))/\f p.1 p.2=true
theorem pY{σ:Ta_}(j:aDg σ){r:Int}{x:VI}{n:Int}(h:n∈aW (eP σ r x)):(n∈aW x/\n∉σ)\/(n=r+(cE σ r x).length/\∃k,fE σ r x=[stI n k]/\x.d∈aW x/\x.d∈σ):=by
 have o:=(jY σ r x).1;have key:n=(opD σ r x).1->(0<x.d->x.d∈aW x)->0<n->(n∈aW x/\n∉σ)\/(n=r+(cE σ r x).length/\∃k,fE σ r x=[stI n k]/\x.d∈aW x/\x.d∈σ):=fun e b g=>by
  unfold opD at e;unfold fE opD;by_cases hd:x.d∈aW x
  .rw[K_ hd]at e |-;cases c:cC σ x.d with
   |none =>rw[c]at e;dsimp only at e;rw[e];exact .inl ⟨hd,jG.1 c⟩
   |some k =>rw[c]at e;dsimp only at e;exact .inr ⟨by rw[e,o],k,by rw[e],hd,B9 (aDf c)⟩
  .rw[I_ hd]at e;dsimp only at e;rw[e]at g;have:=aJa g;rw[this]at g;exact absurd (b g) hd
 unfold aW at h;rw[show(eP σ r x).op=x.op from rfl,show(eP σ r x).d=(opD σ r x).1 from rfl]at h;split at h;.rename_i hop;obtain⟨a,b⟩:=cT.1 h;exact key (S_.1 a) (fun b=>by unfold aW;rw[K_ hop];exact cT.2 ⟨by simp,b⟩) b
 .rename_i hop;split at h
  .rename_i hop2;obtain⟨a,b⟩:=cT.1 h;have f:∀m,m∈dN++[31,x.d]->0<m->m∈aW x:=fun m i l=>by unfold aW;rw[I_ hop,K_ hop2];exact cT.2 ⟨i,l⟩
   rcases U_.1 a with a|a;.refine .inl ⟨f n (G9 _ a) b,fun c=>?_⟩;have:=j n c;unfold dN at a;obtain⟨m,i,e⟩:=r_.1 a;have:=C2.1 i;omega
   .rcases J_.1 a with a|a;.refine .inl ⟨f n (by rw[a];simp) b,fun c=>?_⟩;have:=j n c;omega
    .exact key (S_.1 a) (fun b=>f _ B_ b) b
  .cases h
theorem sS(σ:Ta_):∀(r:Int) (l:List VI) (c:Nat),c<l.length->cnt σ r l (c+1)=eH σ (cnt σ r l c) (l.getD c default)
 |r,[],c,h=>by simp at h
 |r,x::l,0,h=>by rw[cnt,cnt,cnt];rfl
 |r,x::l,c+1,h=>by have:=sS σ (eH σ r x) l c (by simpa using h);rw[cnt,cnt,this];rfl
theorem aUe(σ:Ta_)(r:Int)(x:VI):eH σ r x=r+(cE σ r x).length+(fE σ r x).length:=by
 have a:=(jY σ r x).1;unfold eH fE opD;split
 .split;.simp[a]
  .simp[a]
 .simp[a]
theorem aDl(σ:Ta_)(r:Int)(l:List VI){c c':Nat}(h:c<=c')(a:c'<=l.length):cnt σ r l c<=cnt σ r l c':=by
 induction c' with
 |zero =>obtain rfl:c=0:=A_;exact AA _
 |succ n ih =>
  by_cases e:c=n+1;.rw[e];exact AA _
  .have:=ih A_ A_;rw[sS σ r l n A_];have:=(aCf σ (cnt σ r l n) (l.getD n default)).1;omega
def aF3(σ:List Int)(r:Int)(ins:List VI)(c e:Nat):Prop:=c<ins.length/\e<(cE σ (cnt σ r ins c) (ins.getD c default)).length+(fE σ (cnt σ r ins c) (ins.getD c default)).length
theorem pZ{σ:Ta_}{r:Int}{ins:List VI}{c e c' e':Nat}(h:aF3 σ r ins c e)(d:aF3 σ r ins c' e')(j:cnt σ r ins c+e=cnt σ r ins c'+e'):c=c'/\e=e':=by
 obtain⟨f,l⟩:=h;obtain⟨i,k⟩:=d;have a:=sS σ r ins c f;have b:=sS σ r ins c' i;rw[aUe]at a b;rcases L9 c c' with g|g|g;.have:=aDl σ r ins (c:=c+1) (c':=c') A_ A_;omega
 .subst g;exact⟨rfl,by omega⟩
 .have:=aDl σ r ins (c:=c'+1) (c':=c) A_ A_;omega
theorem aUf{σ:Ta_}{r:Int}{ins:List VI}{c e:Nat}:r<=cnt σ r ins c+e:=by have:=sP σ r ins c;omega
theorem sT(σ:Ta_)(r:Int)(x:VI):(fE σ r x).length<=1:=by rcases lH σ r x with⟨h,_⟩|⟨q,k,h,_⟩<;>rw[h]<;>simp
section
variable {ins:List VI}(hB:aL6 ins){σ:List Int}(hv:aDg σ){r:Int}(hr:32<=r)(hin:∀x∈ins,∀n,n∈bB x\/n∈aW x->n<r)
include hB hv hr hin
theorem qA{c j:Nat}(b:c<ins.length)(a:j<(dR σ (cnt σ r ins c) (ins.getD c default)).length): (j<(cE σ (cnt σ r ins c) (ins.getD c default)).length/\bB ((plC σ r ins).getD (ofs σ r ins c+j) default)=[]/\aW ((plC σ r ins).getD (ofs σ r ins c+j) default)=[cnt σ r ins c+j]) \/(j=(cE σ (cnt σ r ins c) (ins.getD c default)).length/\(plC σ r ins).getD (ofs σ r ins c+j) default=eP σ (cnt σ r ins c) (ins.getD c default)) \/(j=(cE σ (cnt σ r ins c) (ins.getD c default)).length+1/\bB ((plC σ r ins).getD (ofs σ r ins c+j) default)=[cnt σ r ins c+(cE σ (cnt σ r ins c) (ins.getD c default)).length]/\aW ((plC σ r ins).getD (ofs σ r ins c+j) default)=[]/\(fE σ (cnt σ r ins c) (ins.getD c default)).length=1):=by
 have h:=sP σ r ins c;have one:∀q:Int,0<q->tdy [q]=[q]:=fun q d=>by rw[bWb];unfold xH;rw[I_ A_];rfl
 have f:tdy [0]=[]:=rfl;rcases oA (D_ a)with⟨hjp,_⟩|⟨hje,e⟩|⟨hje,q,w,hp,_,_,e⟩
 .obtain⟨y,i,e⟩:=aUa hjp;obtain⟨n,k,_,_,e2⟩:=aUc (D_ hjp);have e3:(dR σ (cnt σ r ins c) (ins.getD c default))[j]?=(cE σ (cnt σ r ins c) (ins.getD c default))[j]? := by unfold dR;rw[W_ hjp]
  rw[D_ a,D_ hjp]at e3;rw[aDi b a,D9 e3,e2];obtain⟨g,_,p3⟩:=aJc (cnt σ r ins c+j) k;exact .inl ⟨hjp,g,by rw[p3,one _ A_]⟩
 .rw[aDi b a,e,sQ hB (bS b)];exact .inr (.inl ⟨hje,rfl⟩)
 .have d:=xK hp;rw[(jY σ (cnt σ r ins c) (ins.getD c default)).1]at d;rw[aDi b a,e,(aDj q w).1,(aDj q w).2,<-d,one _ A_,f,hp];exact .inr (.inr ⟨hje,rfl,rfl,rfl⟩)
theorem aG7{n:Int}(f:n∈σ)(p:n<r){k:Nat}(g:k<(plC σ r ins).length):n∉bB ((plC σ r ins).getD k default)/\n∉aW ((plC σ r ins).getD k default):=by
 have d:k<(bK σ r ins).length:=by unfold plC at g;simpa using g
 obtain⟨c,j,l,o,rfl⟩:=gG d;have m:=sP σ r ins c;rcases qA hB hv hr hin l o with⟨_,a,e⟩|⟨_,a⟩|⟨_,a,e,_⟩;.rw[a,e];simp;omega
 .rw[a];refine⟨fun h=>?_,fun h=>?_⟩
  .rcases xJ hv (hB.us _ (bS l)) h with⟨_,b⟩|⟨i,_,b⟩;.exact b f
   .omega
  .rcases pY hv h with⟨_,b⟩|⟨b,_⟩;.exact b f
   .omega
 .rw[a,e];simp;omega
theorem bCy{l:List VI}{k:Nat}(h:¬k<l.length):l.getD k default=default:=by rw[b_,B7 A_];rfl
theorem aG8{n:Int}(b:n∈σ)(a:n<r){k:Nat}:¬LvR (plC σ r ins) n k:=fun h=>by
 induction h with
 |@use k h =>
  by_cases hk:k<(plC σ r ins).length;.exact(aG7 hB hv hr hin b a hk).1 h
  .rw[b_,B7 A_]at h;cases h
 |step _ _ _ ih=>exact ih
theorem aJd:(plC σ r ins).length=(bK σ r ins).length:=P_ _
theorem uP{c0 e:Nat}(o:aF3 σ r ins c0 e){k:Nat}(h:LvR (plC σ r ins) (cnt σ r ins c0+e) k): ∀c j,c<ins.length->j<(dR σ (cnt σ r ins c) (ins.getD c default)).length->k=ofs σ r ins c+j ->c=c0/\e<j/\(e<(cE σ (cnt σ r ins c0) (ins.getD c0 default)).length->j<=(cE σ (cnt σ r ins c0) (ins.getD c0 default)).length):=by
 induction h with
 |@use k h =>
  intro c j a p z;subst z;have D:=aUf (σ:=σ) (r:=r) (ins:=ins) (c:=c0) (e:=e);rcases qA hB hv hr hin a p with⟨_,g,_⟩|⟨f,g⟩|⟨f,g,_,t⟩;.rw[g]at h;cases h
  .rw[g]at h;rcases xJ hv (hB.us _ (bS a)) h with⟨l,_⟩|⟨i,H,l⟩;.have:=hin _ (bS a) _ (.inl l);omega
   .obtain⟨rfl,rfl⟩:=pZ o (c':=c) (e':=i) ⟨a,by omega⟩ l;exact⟨rfl,by omega,fun _=>A_⟩
  .rw[g,S_]at h;obtain⟨rfl,rfl⟩:=pZ o (c':=c) ⟨a,by omega⟩ h;exact⟨rfl,by omega,fun h=>A_⟩
 |@step k k' z hlv hd ih =>
  intro c j a p v;subst v;rcases sO hB (pX hB σ r) a p z with⟨x,s⟩|⟨_,c',u,_,x,_⟩
  .obtain⟨rfl,g,G⟩:=ih c (j+1) a s (by rw[x,Int.toNat_natCast]);refine⟨rfl,?_,fun h=>by have:=G h;omega⟩;by_cases e2:e=j
   .exfalso;subst e2;rcases qA hB hv hr hin a p with⟨_,_,l⟩|⟨f,l⟩|⟨f,_,_,_⟩;.exact hd (by rw[l];simp)
    .rw[l]at hd;obtain⟨_,y⟩:=o;have A:=sT σ (cnt σ r ins c) (ins.getD c default);rcases lH σ (cnt σ r ins c) (ins.getD c default)with⟨h0,_⟩|⟨q,w,t,hdd,_⟩;.rw[h0,List.length_nil]at y;omega
     .have C:=xK t;rw[(jY σ (cnt σ r ins c) (ins.getD c default)).1]at C;apply hd;have E:=hB.cd _ (bS a);have n:(eP σ (cnt σ r ins c) (ins.getD c default)).d=cnt σ r ins c+e:=by
       show(opD σ (cnt σ r ins c) (ins.getD c default)).1=_;have b:=t;unfold fE opD at b;unfold opD;rw[K_ hdd]at b |-;cases hs:cC σ (ins.getD c default).d with
       |none=>rw[hs]at b;cases b
       |some m=>dsimp only;rw[f,<-(jY σ (cnt σ r ins c) (ins.getD c default)).1]
      have F:=sP σ r ins c;unfold aW at hdd |-;rw[show(eP σ (cnt σ r ins c) (ins.getD c default)).op=(ins.getD c default).op from rfl,n];split at hdd;.rename_i hop;rw[K_ hop];exact cT.2 ⟨by simp,by omega⟩
      .rename_i hop;rw[I_ hop];split at hdd;.rename_i hop2;rw[K_ hop2];exact cT.2 ⟨by simp,by omega⟩
       .cases hdd
    .have:=o.2;have:=sT σ (cnt σ r ins c) (ins.getD c default);omega
   .omega
  .obtain⟨_,g,_⟩:=ih c' 0 u (by have:=uO σ (cnt σ r ins c') (ins.getD c' default);omega) (by rw[x,Int.toNat_natCast,Nat.add_zero]);omega
end
def aDm(Q:List VI)(a b:Int):Prop:=∃i,i<Q.length/\∃d w,d∈aW (Q.getD i default)/\(w∈aW (Q.getD i default)\/zH Q w i)/\w≠d/\¬mvP (Q.getD i default) (prP d w)/\prP a b=prP d w
theorem oU:∀(l m:Ta_),l.Nodup->(∀x∈l,x∈m)->l.length<=m.length
 |[],m,_,_=>I8 _
 |a::l,m,hn,h=>by rw[C7]at hn;have b:=h a B_;have:=oU l (m.erase a) hn.2 fun x c=>(List.mem_erase_of_ne (fun e=>hn.1 (by rw[<-e];exact c))).2 (h x (by simp[c]));rw[List.length_erase_of_mem b]at this;have:=X7 b;rw[List.length_cons];omega
section
variable {ins:List VI}(hB:aL6 ins){σ:List Int}(hv:aDg σ){r:Int}(hr:32<=r)(hin:∀x∈ins,∀n,n∈bB x\/n∈aW x->n<r)
include hB hv hr hin
theorem zJ{w:Int}{k:Nat}(h:LvR (plC σ r ins) w k):w<r\/∃c e:Nat,aF3 σ r ins c e/\w=cnt σ r ins c+e:=by
 induction h with
 |@use k h =>
  by_cases hk:k<(plC σ r ins).length
  .obtain⟨c,j,b,f,rfl⟩:=gG (by rw[<-aJd hB hv hr hin];exact hk);rcases qA hB hv hr hin b f with⟨_,a,_⟩|⟨_,a⟩|⟨_,a,_,g⟩;.rw[a]at h;cases h
   .rw[a]at h;rcases xJ hv (hB.us _ (bS b)) h with⟨d,_⟩|⟨i,l,d⟩;.exact .inl (hin _ (bS b) _ (.inl d))
    .exact .inr ⟨c,i,⟨b,by omega⟩,d⟩
   .rw[a,S_]at h;exact .inr ⟨c,_,⟨b,by omega⟩,h⟩
  .rw[bCy hB hv hr hin hk]at h;cases h
 |step _ _ _ ih=>exact ih
theorem bCz{σ':Ta_}{x:VI}(c:x∈ins)(b:x.d∈σ){w:Int}(a:w∈aW x):w=x.d:=by
 have e:=hv _ b;unfold aW at a;split at a;.exact S_.1 (cT.1 a).1
 .split at a;.rename_i hop;have:=hB.cd x c hop;omega
  .cases a
theorem aDn{c:Nat}(g:c<ins.length)(d:(fE σ (cnt σ r ins c) (ins.getD c default)).length=1){w:Int}(f:w∈aW (eP σ (cnt σ r ins c) (ins.getD c default))):w=cnt σ r ins c+(cE σ (cnt σ r ins c) (ins.getD c default)).length:=by
 rcases pY hv f with⟨a,e⟩|⟨a,_⟩
 .rcases lH σ (cnt σ r ins c) (ins.getD c default)with⟨h0,_⟩|⟨q,k,_,h3,h4⟩;.rw[h0]at d;cases d
  .have b:=B9 (aDf h4);rw[bCz hB hv hr hin (σ':=σ) (bS g) b a]at e;exact absurd b e
 .exact a
theorem aW4(H:∀n,32<=n->n<r->n∈σ){c0 e:Nat}(Q:aF3 σ r ins c0 e){t:Int}(h:aDm (plC σ r ins) (cnt σ r ins c0+e) t): (t<32/\(LvR ins t c0/\e<(cE σ (cnt σ r ins c0) (ins.getD c0 default)).length\/zH ins t c0/\e=(cE σ (cnt σ r ins c0) (ins.getD c0 default)).length))\/(∃e':Nat,e'<(cE σ (cnt σ r ins c0) (ins.getD c0 default)).length/\e<(cE σ (cnt σ r ins c0) (ins.getD c0 default)).length/\t=cnt σ r ins c0+e'):=by
 have U:=aUf (σ:=σ) (r:=r) (ins:=ins) (c:=c0) (e:=e);have Z:=sT σ (cnt σ r ins c0) (ins.getD c0 default);have q:aF3 σ r ins c0 e:=Q;obtain⟨_,V⟩:=Q;obtain⟨i,Y,d,w,a,m,f,_,hp⟩:=h;obtain⟨c,j,l,J,rfl⟩:=gG (by rw[<-aJd hB hv hr hin];exact Y);have s:∀ {w:Int} {k:Nat},LvR (plC σ r ins) w k->w<r->w<32/\w∉σ:=fun {w k} p G=>by
  have b:w∉σ:=fun T=>aG8 hB hv hr hin T G p;refine⟨?_,b⟩;by_cases u:32<=w;.exact absurd (H w u G) b
  .omega
 have pc:=qA hB hv hr hin l J;rcases aDk.1 hp with⟨P,e2⟩|⟨P,e2⟩
 .rw[<-P]at a f;rw[e2];rcases pc with⟨x,_,b⟩|⟨D,b⟩|⟨_,_,b,_⟩
  .rw[b]at a m;obtain⟨rfl,rfl⟩:=pZ q (c':=c) (e':=j) ⟨l,by omega⟩ (S_.1 a);rcases m with m|⟨k',I,p⟩;.exact absurd (S_.1 m) f
   rcases sO hB (pX hB σ r) l J I with⟨e3,o⟩|⟨u,_⟩
   .rcases zJ hB hv hr hin p with A|⟨W,v,E,rfl⟩;.obtain⟨F,C⟩:=s p A;obtain⟨p1,_⟩:=bUf hB hv A C p c0 (e+1) l o (by rw[e3,Int.toNat_natCast]);exact .inl ⟨F,.inl ⟨p1 A_,x⟩⟩
    .obtain⟨rfl,F,_⟩:=uP hB hv hr hin E p c0 (e+1) l o (by rw[e3,Int.toNat_natCast]);exact .inr ⟨v,by omega,x,rfl⟩
   .omega
  .rw[b]at a m;rcases pY hv a with⟨u,_⟩|⟨u,k,z,_,_⟩;.have:=hin _ (bS l) _ (.inr u);omega
   have g:(fE σ (cnt σ r ins c) (ins.getD c default)).length=1:=by rw[z];rfl
   obtain⟨rfl,rfl⟩:=pZ q (c':=c) ⟨l,by omega⟩ u;rcases m with m|⟨k',I,p⟩;.exact absurd (aDn hB hv hr hin l g m) f
   rcases sO hB (pX hB σ r) l J I with⟨e3,o⟩|⟨_,c',_,_,_,A⟩
   .rcases zJ hB hv hr hin p with A|⟨W,v,E,rfl⟩;.obtain⟨F,C⟩:=s p A;obtain⟨_,p2⟩:=bUf hB hv A C p c0 (j+1) l o (by rw[e3,Int.toNat_natCast]);obtain⟨c',q1,q2⟩:=p2 A_;exact .inl ⟨F,.inr ⟨⟨c',q1,by rw[Int.toNat_natCast];exact q2⟩,rfl⟩⟩
    .obtain⟨rfl,F,C⟩:=uP hB hv hr hin E p c0 (j+1) l o (by rw[e3,Int.toNat_natCast]);exfalso;have:v=(cE σ (cnt σ r ins c0) (ins.getD c0 default)).length:=by
      by_cases h6:v<(cE σ (cnt σ r ins c0) (ins.getD c0 default)).length;.have:=C h6;omega
      .omega
     rw[this]at f;exact f rfl
   .rw[A D]at g;cases g
  .rw[b]at a;cases a
 .rw[<-P]at m f;rw[e2];have y:∀(g:(fE σ (cnt σ r ins c) (ins.getD c default)).length=1),c=c0->e=(cE σ (cnt σ r ins c0) (ins.getD c0 default)).length->d∈aW (eP σ (cnt σ r ins c) (ins.getD c default))->False:=fun g N R a=>by have:=aDn hB hv hr hin l g a;subst N;rw[<-R]at this;exact f this.symm
  rcases m with m|⟨k',I,p⟩
  .exfalso;rcases pc with⟨_,_,b⟩|⟨_,b⟩|⟨_,_,b,_⟩;.rw[b]at a m;exact f ((S_.1 m).trans (S_.1 a).symm)
   .rw[b]at a m;rcases pY hv m with⟨u,_⟩|⟨u,k,z,_,_⟩;.have:=hin _ (bS l) _ (.inr u);omega
    .have g:(fE σ (cnt σ r ins c) (ins.getD c default)).length=1:=by rw[z];rfl
     obtain⟨rfl,rfl⟩:=pZ q (c':=c) ⟨l,by omega⟩ u;exact y g rfl rfl a
   .rw[b]at a;cases a
  rcases sO hB (pX hB σ r) l J I with⟨e3,o⟩|⟨_,c',L,_,e3,_⟩
  .obtain⟨rfl,F,C⟩:=uP hB hv hr hin q p c (j+1) l o (by rw[e3,Int.toNat_natCast]);rcases pc with⟨x,_,b⟩|⟨D,b⟩|⟨D,_,b,_⟩;.rw[b]at a;exact .inr ⟨j,x,by omega,S_.1 a⟩
   .exfalso;by_cases h6:e<(cE σ (cnt σ r ins c) (ins.getD c default)).length;.have:=C h6;omega
    .rw[b]at a;exact y A_ rfl A_ a
   .rw[b]at a;cases a
  .obtain⟨_,F,_⟩:=uP hB hv hr hin q p c' 0 L (by have:=uO σ (cnt σ r ins c') (ins.getD c' default);omega) (by rw[e3,Int.toNat_natCast,Nat.add_zero]);omega
theorem aF4(j:∀n,32<=n->n<r->n∈σ){c0 e:Nat}(v:aF3 σ r ins c0 e) {Li Lo:Ta_} (u:∀t,1<=t->t<=24->LvR ins t c0->t∈Li) (l:Li.length<=16) (q:∀t,1<=t->t<=24->zH ins t c0->t∈Lo) (k:Lo.length<=16) {o:Tg_} (i:∀m,m<32->o m=m) (z:∀d:Nat,1<=d->d<=24->∃t:Nat,aDm (plC σ r ins) (cnt σ r ins c0+e) t/\o t=d):False:=by
 have C:=(jY σ (cnt σ r ins c0) (ins.getD c0 default)).2;have key:∀L:List Int,L.length<=16->(∀t,1<=t->t<=24->(LvR ins t c0/\e<(cE σ (cnt σ r ins c0) (ins.getD c0 default)).length\/zH ins t c0/\e=(cE σ (cnt σ r ins c0) (ins.getD c0 default)).length)->t∈L)->False:=fun L A f=>by
  have b:=oU ((List.range 24).map fun n:Nat=>(n:Int)+1) (L++[o (cnt σ r ins c0).toNat,o (cnt σ r ins c0+1).toNat]) C_ (fun x s=>by
   obtain⟨n,w,rfl⟩:=r_.1 s;have y:=C2.1 w;obtain⟨t,p,a⟩:=z (n+1) A_ A_;rcases aW4 hB hv hr hin j v p with⟨g,c⟩|⟨e',g,_,c⟩;.rw[i t A_]at a;have:(t:Int)=(n:Int)+1:=A_;rw[<-this];exact G9 _ (f t A_ A_ c)
   .have:t=(cnt σ r ins c0+e').toNat:=A_;rw[this]at a;refine J5 _ ?_;rcases(by omega:e'=0\/e'=1)with e0|e0;.subst e0;rw[show cnt σ r ins c0+((0:Nat):Int)=cnt σ r ins c0 by omega]at a;rw[a];simp
    .subst e0;rw[show cnt σ r ins c0+((1:Nat):Int)=cnt σ r ins c0+1 by omega]at a;rw[a];simp)
  rw[P_,F6,H_]at b;simp at b;omega
 by_cases he:e<(cE σ (cnt σ r ins c0) (ins.getD c0 default)).length;.exact key Li l fun t g c h=>u t g c (by rcases h with h|h;exact h.1;omega)
 .exact key Lo k fun t g c h=>q t g c (by rcases h with h|h;omega;exact h.1)
theorem aW5{n:Int}(f:n∈σ)(a:n<r){t:Int}:¬aDm (plC σ r ins) n t:=by
 rintro⟨i,m,d,w,g,b,j,_,l⟩;have e:=aG7 hB hv hr hin f a m;rcases aDk.1 l with⟨c,e2⟩|⟨c,e2⟩;.rw[<-c]at g;exact e.2 g
 .rw[<-c]at b;rcases b with b|⟨k,_,h⟩;.exact e.2 b
  .exact aG8 hB hv hr hin f a h
theorem aW6{n:Int}(f:r<=n){t:Int}(h:aDm (plC σ r ins) n t):∃c e:Nat,aF3 σ r ins c e/\n=cnt σ r ins c+e:=by
 obtain⟨i,D,d,w,C,m,v,_,y⟩:=h;obtain⟨c,j,l,z,rfl⟩:=gG (by rw[<-aJd hB hv hr hin];exact D);have u:∀q,q∈aW ((plC σ r ins).getD (ofs σ r ins c+j) default)->r<=q->∃c e:Nat,aF3 σ r ins c e/\q=cnt σ r ins c+e:=fun q b A=>by
  rcases qA hB hv hr hin l z with⟨x,_,a⟩|⟨_,a⟩|⟨_,_,a,_⟩;.rw[a]at b;exact⟨c,j,⟨l,by omega⟩,S_.1 b⟩
  .rw[a]at b;rcases pY hv b with⟨p,_⟩|⟨p,k,o,_,_⟩;.have:=hin _ (bS l) _ (.inr p);omega
   .exact⟨c,_,⟨l,by rw[o];simp⟩,p⟩
  .rw[a]at b;cases b
 rcases aDk.1 y with⟨g,e2⟩|⟨g,e2⟩;.exact u n (by rw[g];exact C) f
 .rcases m with m|⟨k,_,s⟩;.exact u n (by rw[g];exact m) f
  .rw[<-g]at s;rcases zJ hB hv hr hin s with a|a;.omega
   .exact a
end
def aJe:aL:=(.region [⟨.allocH 98 [(.int .i64 0),(.int .i64 0)],(some 4),none⟩,⟨.store 2 (.reg 0) (.loc 6),none,none⟩])
def aF5:aL:=(.block 1
  (.region [⟨.load1 (.loc 2),none,none⟩,⟨.loadN 2 (.loc 4),none,none⟩,⟨.lit false [(.int .i64 0),(.int .i64 0)] 1 [(0,(.reg 1))],none,none⟩,⟨.append true 2 16 97 (.reg 0) (.reg 2),none,none⟩,⟨.store 1 (.loc 2) (.reg 3),none,none⟩]))
def e83(n:Nat)(x4 x6:TV):Env:=[.iv (.sl .nil []),.fn 116 [] [.ptr n 97 0],.ptr (n+1) 67 0,.iv (.sl .nil []),x4,.fn 116 [] [.ptr n 97 0],x6]
def mU(ks:List (Int×Int)):List TV:=(gQ ks).map fun n=>.iv (.int .i64 n)
def zK(jr:Nat)(ks:List (Int×Int)):TV:=if ks=[]then .iv (.sl .nil [])else .msl jr (ks.length-1) 0 ks.length ks.length 2
theorem gH(a:Nat):zK a []=k_:=rfl
theorem dK(b:Nat){a:Tb_}(h:a≠[]):zK b a=.msl b (a.length-1) 0 a.length a.length 2:=I_ h
def aDo(S:aA)(jr:Nat)(ks:List (Int×Int)):Prop:=ks≠[]->S[jr]?=some (.cells (ks.length-1) true (mU ks))
theorem xL(a:Tb_):(mU a).length=a.length*2:=by unfold mU;rw[P_,nX];omega
theorem aQa(c:Tb_)(a b:Int):gQ (c++[(a,b)])=gQ c++[a,b]:=by
 induction c with
 |nil=>rfl
 |cons x r ih=>rw[List.cons_append,gQ,ih,gQ];rfl
theorem aW7(c:Tb_)(a b:Int):mU (c++[(a,b)])=mU c++[j_ a,j_ b]:=by unfold mU;rw[aQa,D0];rfl
theorem bLe{S:aA}{e:Nat}{c:Tb_}(h:aDo S e c)(a b:Int)(s:c.length<=1000000): ∃(f:Nat) (S1:aA),bA true 2 16 97 S (zK e c) (.iv (.sl .full [[.int .i64 a,.int .i64 b]]))=some (zK f (c++[(a,b)]),S1)/\aDo S1 f (c++[(a,b)])/\(c=[]/\f=S.length\/c≠[]/\f=e)/\S.length<=S1.length/\∀q B,S[q]?=some B->(c≠[]->q≠e)->S1[q]?=some B:=by
 have d:c++[(a,b)]≠[]:=B_;have o:dS S (.iv (.sl .full [[.int .i64 a,.int .i64 b]]))=some [j_ a,j_ b]:=rfl;have g:lenOf S (.iv (.sl .full [[.int .i64 a,.int .i64 b]]))=some 1:=rfl;by_cases h0:c=[]
 .subst h0;refine⟨S.length,S++[.cells 0 true (mU [(a,b)])],?_,fun _=>B_,.inl ⟨rfl,rfl⟩,by simp,fun q B i _=>aR i _⟩;rw[gH,dK _ d];simp[bA,dS,lenOf,TM.bE,bH,TM.oR,dY,mU,gQ]
 .have l:=h h0;have r:0<c.length:=M7.2 h0;have m:sub (mU c) 0 (c.length*2)=some (mU c):=mE (xL c);have k:dY (c.length+1) 16=true:=bR A_;have p:=xL c;refine⟨e,S.set e (.cells c.length true (mU (c++[(a,b)]))),?_,fun _=>?_,.inr ⟨h0,rfl⟩,by simp,fun q B i d=>by rw[aB (B0 (d h0))];exact i⟩
  .rw[dK _ h0,dK _ d,aW7,H_,List.length_singleton,N3];generalize mU c=cs at *
   generalize c.length=n at *
   simp[bA,o,g,l,bH,m,k,show ¬n+1<=n by omega,show n-1+1=n by omega]
  .rw[H_,List.length_singleton,N3];exact aM (aN l) _
structure YK (S:aA) (n jm jr:Nat) (l:List (Nat×(Int×Int)×Int)) (c:Nat) (ks:List (Int×Int)):Prop where
 a:S[n]?=some (.cells 97 false [.map jm])
 b:S[n+1]?=some (.cells 67 false [zK jr ks])
 y:∃x4 x6,S[n+2]?=some (.lp .ready none (e83 n x4 x6) [6] aJe aF5)
 r:aDo S jr ks
 m:S[jm]?=some (.mp (mpK en2 qT l) c)
 lt:jm<n
 jr:ks≠[]->n+3<jr
theorem bWc(S:aA)(a x:aG)(r:aA):(S++a::r).set S.length x=S++x::r:=by rw[E1 _ _ (L_ _)];simp
attribute [go_sem] bWc
theorem bQ8{S:aA}{n jm u:Nat}{l:Tf_}{c:Nat}{f:Tb_}(h:YK S n jm u l c f)(a b:Int)(P:f.length<=1000000)(Q:n+3<S.length): ∃(g:Nat) (S':aA),(lim K).yld (n+2) [.iv (.agg [.int .i64 a,.int .i64 b])] S=.ret (e_,S')/\YK S' n jm g l c (f++[(a,b)])/\S.length<=S'.length/\∀q B,S[q]?=some B->q≠n+1->q≠n+2->(f≠[]->q≠u)->S'[q]?=some B:=by
 obtain⟨x4,x6,C⟩:=h.y;have e:=h.jr;have v:=h.lt;generalize hS1:S++[aG.cells 98 false [j_ a,j_ b]]=S1;have E:S1.length=S.length+1:=by rw[<-hS1];simp
 have o:∀q B,S[q]?=some B->S1[q]?=some B:=fun q B i=>by rw[<-hS1];exact aR i _
 have F:=o _ _ C;generalize hT:S1.set (n+2) (.lp .busy none (e83 n x4 x6) [6] aJe aF5)=T;have I:T.length=S1.length:=by rw[<-hT];simp
 have k:∀q B,S1[q]?=some B->q≠n+2->T[q]?=some B:=fun q B i N=>by rw[<-hT,aB (B0 N)];exact i
 have tb:=k _ _ (o _ _ h.b) A_;have D:T[S.length]?=some (.cells 98 false [j_ a,j_ b]):=k _ _ (by rw[<-hS1,cM]) A_;have ty:T[n+2]?=some (.lp .busy none (e83 n x4 x6) [6] aJe aF5):=by rw[<-hT];exact aM (aN F) _
 have J:aDo T u f:=fun d=>k _ _ (o _ _ (h.r d)) (by have:=e d;omega);obtain⟨g,S2,p,L,z,H,t⟩:=bLe J a b P;have b2:=t _ _ tb (fun d=>by have:=e d;omega);have G:=t _ _ ty (fun d=>by have:=e d;omega);have x:n+3<g:=by rcases z with⟨_,rfl⟩|⟨d,rfl⟩;omega;exact e d
 refine⟨g,(S2.set (n+1) (.cells 67 false [zK g (f++[(a,b)])])).set (n+2) (.lp .ready none (e83 n x4 x6) [6] aJe aF5),?_,?_,?_,?_⟩
 .refine aPb (env2:=[k_,.fn 116 [] [.ptr n 97 0],.ptr (n+1) 67 0,k_,.ptr S.length 98 0,.fn 116 [] [.ptr n 97 0],.iv (.agg [.int .i64 a,.int .i64 b])]) (env3:=[k_,.fn 116 [] [.ptr n 97 0],.ptr (n+1) 67 0,k_,.ptr S.length 98 0,.fn 116 [] [.ptr n 97 0],.iv (.agg [.int .i64 a,.int .i64 b])]) (S1:=S1) (S2:=S2.set (n+1) (.cells 67 false [zK g (f++[(a,b)])])) C rfl ?_ F ?_ (by rw[aB A_];exact G);.subst hS1;simp(disch:=omega)only[aJe,e83,go_sem]
  .rw[hT];rw[dK _ (show f++[(a,b)]≠[] by simp)]at p |-;by_cases d:f=[]
   .subst d;rw[gH]at p tb b2;simp(disch:=omega)only[aF5,go_sem,D,tb,p,b2]
   .rw[dK _ d]at p tb b2;simp(disch:=omega)only[aF5,go_sem,D,tb,p,b2]
 .have kk:∀q B,S[q]?=some B->q≠n+1->q≠n+2->(f≠[]->q≠u)->((S2.set (n+1) (.cells 67 false [zK g (f++[(a,b)])])).set (n+2) (.lp .ready none (e83 n x4 x6) [6] aJe aF5))[q]?=some B:=fun q B i w s A=>by rw[aB (B0 s),aB (B0 w)];exact t _ _ (k _ _ (o _ _ i) s) A
  refine⟨kk _ _ h.a A_ A_ (fun d=>by have:=e d;omega),?_,⟨x4,x6,aM (by rw[F5];exact aN G) _⟩,fun d=>?_,kk _ _ h.m A_ A_ (fun d=>by have:=e d;omega),v,fun _=>x⟩;.rw[aB A_];exact aM (aN b2) _
  .rw[aB A_,aB A_];exact L d
 .rw[F5,F5];omega
 .intro q B i w s A;rw[aB (B0 s),aB (B0 w)];exact t _ _ (k _ _ (o _ _ i) s) A
structure Met (l:List (Nat×(Int×Int)×Int)) (seen:List Nat) (ks:List (Int×Int)):Prop where
 nd:ks.Nodup
 mem:∀k,k∈ks↔∃x∈l,x.1∈seen/\x.2.1=k
 len:ks.length<=seen.length
 sl:seen.length+aB0 l seen<=l.length
theorem bLf{l:Tf_}(h:(l.map (·.2.1)).Nodup){x y:Nat×(Int×Int)×Int}(d:x∈l)(c:y∈l)(e:x.2.1=y.2.1):x=y:=by
 induction l with
 |nil=>cases d
 |cons z l ih =>
  rw[Q_,C7]at h;rcases J_.1 d with b|b
  .rcases J_.1 c with a|a;.rw[b,a]
   .exact absurd (by rw[<-b,e];exact E9 (f:=fun y:Nat×(Int×Int)×Int=>y.2.1) a) h.1
  .rcases J_.1 c with a|a;.exact absurd (by rw[<-a,<-e];exact E9 (f:=fun y:Nat×(Int×Int)×Int=>y.2.1) b) h.1
   .exact ih h.2 b a
theorem Met.next{l:Tf_}{c:Nat}(t:fD l c){i:Tc_}{s:Tb_}(h:Met l i s){x:Nat×(Int×Int)×Int}(n:x∈l)(q:x.1∉i):Met l (i++[x.1]) (s++[x.2.1]):=by
 refine⟨?_,fun k=>?_,by rw[H_,H_];have:=h.len;simp;omega,?_⟩;.rw[H4];refine⟨h.nd,by simp,fun a u b r e=>?_⟩;rw[S_]at r;subst r;subst e;obtain⟨y,m,g,o⟩:=(h.mem _).1 u;rw[bLf t.keys m n o]at g;exact q g
 .rw[U_,h.mem,S_];constructor
  .rintro(⟨y,m,g,o⟩|rfl);.exact⟨y,m,by simp[g],o⟩
   .exact⟨x,n,by simp,rfl⟩
  .rintro⟨y,m,g,o⟩;rcases U_.1 g with g|g;.exact .inl ⟨y,m,g,o⟩
   .rw[S_]at g;right;rw[<-o];have key:∀l:List (Nat×(Int×Int)×Int),(l.map (·.1)).Nodup->x∈l->y∈l->y=x:=by
     intro l;induction l with
     |nil=>intro _ h;cases h
     |cons z l ih =>
      intro p n m;rw[Q_,C7]at p;rcases J_.1 n with j|j
      .rcases J_.1 m with d|d;.rw[j,d]
       .exact absurd (by rw[<-j,<-g];exact E9 (f:=fun y:Nat×(Int×Int)×Int=>y.1) d) p.1
      .rcases J_.1 m with d|d;.exact absurd (by rw[<-d,g];exact E9 (f:=fun y:Nat×(Int×Int)×Int=>y.1) j) p.1
       .exact ih p.2 j d
    rw[key l t.once n m]
 .have:=aPo n q;have:=h.sl;simp;omega
theorem aW8(l:Tf_):aB0 l []=l.length:=by unfold aB0;rw[R8.2 B_]
theorem Met.nil(l:Tf_):Met l [] []:=⟨.nil,fun k=>B_,by simp,by rw[aW8];simp⟩
theorem Met.done{l:Tf_}{c:Nat}(e:fD l c){a:Tc_}{b:Tb_}(h:Met l a b)(d:∀x∈l,x.1∈a):b.Perm (l.map (·.2.1)):=by rw[U3 h.nd e.keys];intro k;rw[h.mem,r_];exact⟨fun⟨x,hx,_,he⟩=>⟨x,hx,he⟩,fun⟨x,hx,he⟩=>⟨x,hx,d x hx,he⟩⟩
def Kp(n0:Nat)(S S':aA):Prop:=∀q B,q<n0->S[q]?=some B->S'[q]?=some B
theorem aUg{n jm:Nat}{l:Tf_}{c:Nat}(v:fD l c)(z:l.length<=1000000):∀(q:Nat) (S:aA) (u:Nat) (h:Tb_) (d:Tc_) (x2 x4 x5:TV),aB0 l d<q->YK S n jm u l c h->S[n+3]?=some (.mit (some jm) c d c)->Met l d h->n+3<S.length ->(lp' (lim K) t116L0 [.yld (n+2),.ptr n 97 0,x2,.it (n+3),x4,x5] S).All fun r=>r.1=.exit 0/\(∃Y Q Z,r.2.1=[.yld (n+2),.ptr n 97 0,Y,.it (n+3),Q,Z])/\Kp n S r.2.2/\∃(R:Nat) (t:Tb_),YK r.2.2 n jm R l c t/\t.Perm (l.map (·.2.1))
 |0,S,u,h,d,x2,x4,x5,i,hY,hi,hM,hS=>A_
 |q+1,S,u,h,d,x2,x4,x5,i,hY,hi,hM,hS=>by
  refine fC t116L0.eq_1 ?_;simp(disch:=omega)only[go_sem];refine aGv hi hY.m v.born (L_ _) (fun T=>?_) (fun x D J=>?_);.simp(disch:=omega)only[go_sem];exact bG ⟨rfl,⟨_,_,_,rfl⟩,fun q B _ i=>i,u,h,hY,hM.done v T⟩
  .have g:=hY.jr;have A:=hY.lt;have U:=hM.sl;have N:=hM.len;generalize hS1:S.set (n+3) (.mit (some jm) c (d++[x.1]) c)=S1;have W:S1.length=S.length:=by rw[<-hS1];simp
   have k:∀q B,S[q]?=some B->q≠n+3->S1[q]?=some B:=fun q B i hn=>by rw[<-hS1,aB (B0 hn)];exact i
   have s:S1[n+3]?=some (.mit (some jm) c (d++[x.1]) c):=by rw[<-hS1];exact aM hS _
   obtain⟨w,G,H⟩:=hY.y;have p:YK S1 n jm u l c h:=⟨k _ _ hY.a A_,k _ _ hY.b A_,⟨w,G,k _ _ H A_⟩,fun o=>k _ _ (hY.r o) (by have:=g o;omega),k _ _ hY.m A_,A,g⟩
   have I:=bPp (f:=qT) s p.m D v.once;obtain⟨j2,S2,cy,E,P,L⟩:=bQ8 p x.2.1.1 x.2.1.2 A_ A_;have C:=L _ _ s A_ A_ (fun o=>by have:=g o;omega);have V:=aUg v z q S2 j2 (h++[(x.2.1.1,x.2.1.2)]) (d++[x.1]) (.lb [j_ x.2.1.1,j_ x.2.1.2]) e_ z_ (by have:=aPo D J;omega) E C (hM.next v D J) A_;rw[show en2 x.2.1=.agg [.int .i64 x.2.1.1,.int .i64 x.2.1.2] from rfl]at I |-;simp(disch:=omega)only[go_sem,I,cy,er_ret];refine cP (Out.all_mono ?_ V);rintro⟨j,e,S'⟩ ⟨a1,a2,a3,a4⟩;exact⟨a1,a2,fun q B F i=>a3 q B F (L _ _ (k _ _ i A_) A_ A_ (fun o=>by have:=g o;omega)),a4⟩
theorem bLg{n jm:Nat}{l:Tf_}{c:Nat}(z:fD l c)(f:l.length<=1000000){S:aA}(o:S.length=n+3){x4 x6:TV}(k:S[n]?=some (.cells 97 false [.map jm]))(v:S[n+1]?=some (.cells 67 false [k_]))(u:S[n+2]?=some (.lp .ready none (e83 n x4 x6) [6] aJe aF5))(m:S[jm]?=some (.mp (mpK en2 qT l) c))(g:jm<n): ((lim K).call 116 [.yld (n+2),.ptr n 97 0] S).All fun r=>Kp n S r.2/\∃(y:Nat) (b:Tb_),YK r.2 n jm y l c b/\b.Perm (l.map (·.2.1)):=by
 have w:=kG m;have a:∀q B,S[q]?=some B->(S++[aG.mit (some jm) c [] c])[q]?=some B:=fun q B i=>aR i _;have x:YK (S++[aG.mit (some jm) c [] c]) n jm 0 l c []:=⟨a _ _ k,a _ _ v,⟨x4,x6,a _ _ u⟩,fun h=>absurd rfl h,a _ _ m,g,fun h=>absurd rfl h⟩
 have p:=aUg z f (aB0 l []+1) (S++[aG.mit (some jm) c [] c]) 0 [] [] u_ u_ u_ A_ x (by rw[<-o,cM]) (Met.nil l) (by simp;omega);rw[<-o]at p;refine dG K _ (fn:=t116) rfl rfl ?_;simp(disch:=omega)only[t116,go_sem,k,w];refine dJ p ?_;rintro j e S' ⟨s,⟨A,C,D,a2⟩,a3,t⟩;dsimp only at s a2 a3 t;subst s;subst a2;simp(disch:=omega)only[go_sem];exact bG ⟨fun q B d i=>a3 q B d (a _ _ i),t⟩
theorem bLh{n jm:Nat}{l:Tf_}{c:Nat}(G:fD l c)(s:l.length<=1000000){S:aA}(u:S.length=n+1)(A:S[n]?=some (.cells 97 false [.map jm]))(C:S[jm]?=some (.mp (mpK en2 qT l) c))(t:jm<n): ((lim K).call 129 [k_,.fn 116 [] [.ptr n 97 0]] S).All fun r=>Kp n S r.2/\∃(e:Nat) (a:Tb_),r.1=zK e a/\aDo r.2 e a/\(a≠[]->n+3<e)/\a.Perm (l.map (·.2.1)):=by
 have f:=bLg G s (S:=S++[.cells 67 false [k_]]++[.lp .ready none (e83 n u_ u_) [6] aJe aF5]) (n:=n) (jm:=jm) (x4:=u_) (x6:=u_) (by simp;omega) (by rw[A8];exact aR A _) (by rw[<-u,A8];exact gN0 _ _ _) (by rw[show n+2=(S++[aG.cells 67 false [k_]]).length by simp;omega];exact cM _ _) (by rw[A8];exact aR C _) t;have m:(S++[aG.cells 67 false [k_]]).length=n+2:=by simp;omega
 unfold e83 aJe aF5 at f;rw[show n+1=S.length from u.symm]at f;refine dG K _ (fn:=t129) rfl rfl ?_;simp(disch:=omega)only[t129,go_sem,m,Q_,C3];refine sY f ?_;rintro v S' ⟨F,e,a,o,z⟩;obtain⟨x4,x6,p⟩:=o.y;have h:=o.b;have x:=aN p;have w:=fun B=>aB (S:=S') (show n+2≠n+1 by omega) B;rw[u.symm]at h w;have i:∀B,Kp n S (S'.set (n+2) B):=fun B q X D E=>by rw[aB A_];exact F q X D (by rw[A8];exact aR E _)
 have d:=o.jr;have k:∀B,aDo (S'.set (n+2) B) e a:=fun B g=>by have:=d g;rw[aB A_];exact o.r g
 rw[aWg,m];by_cases g:a=[]
 .subst g;rw[gH]at h;simp(disch:=omega)only[go_sem,p,w,h];exact bG ⟨i _,e,[],rfl,k _,d,z⟩
 .rw[dK _ g]at h;simp(disch:=omega)only[go_sem,p,w,h];exact bG ⟨i _,e,a,(dK _ g).symm,k _,d,z⟩
theorem aF6{a b:Tb_}(h:a.Perm b):gR a=gR b:=zB ((kF a).trans h) (rW a)
theorem zL(a:Tb_):(gR a).length=a.length:=(kF a).length_eq
theorem aW9{a:Tb_}:gR a=[]↔a=[]:=by rw[<-G7,zL,G7]
theorem bLi:K.prim 115=some (iP 84):=rfl
theorem aXa(S:aA)(j v o n c e:Nat):prV S (some (iP 84)) [.msl j v o n c e,.fn 84 [] []]=iP 84 [.msl j v o n c e,.fn 84 [] []] S:=id rfl
theorem aXb(S:aA):prV S (some (iP 84)) [k_,.fn 84 [] []]=some (u_,S):=id rfl
theorem aXc{S:aA}{j:Nat}{a:Tb_}(h:S[j]?=some (.cells (a.length-1) true (mU a)))(d:a.length<=1000000)(b:a≠[]): iP 84 [.msl j (a.length-1) 0 a.length a.length 2,.fn 84 [] []] S=some (u_,S.set j (.cells (a.length-1) true (mU (gR a)))):=by have f:0<a.length:=M7.2 b;have e:=xL a;have c:(mU a).take (2*a.length)=mU a:=N2 A_;have e2:(mU a).drop (2*a.length)=[]:=F8 A_;have e3:uF (mU a)=some (gQ a):=aFt _;simp only[iP,ne_eq,C8,↓reduceIte,show ¬a.length=0 by omega,h,L_,A9,show 2*a.length<=(mU a).length by omega,show a.length<=1048576 by omega,X3,C4,c,e2,e3,aFu,List.take_zero,List.nil_append,A0];rfl
attribute [go_sem] bLi aXa aXb
def bQ9(n0:Nat)(S:aA)(ks:List (Int×Int))(r:TV×aA):Prop:=Kp n0 S r.2/\∃j',r.1=zK j' (gR ks)/\aDo r.2 j' (gR ks)
theorem bLj{n jm:Nat}{l:Tf_}{c:Nat}(m:fD l c)(d:l.length<=1000000){S:aA}(k:S.length=n+1)(h:S[n]?=some (.cells 97 false [.map jm]))(i:S[jm]?=some (.mp (mpK en2 qT l) c))(e:jm<n): ((lim K).call 114 [.fn 116 [] [.ptr n 97 0]] S).All fun r=>Kp n S r.2/\∃(b:Nat) (a:Tb_),r.1=zK b a/\aDo r.2 b a/\(a≠[]->n+3<b)/\a.Perm (l.map (·.2.1)):=by
 refine dG K _ (fn:=t114) rfl rfl ?_;simp(disch:=omega)only[t114,go_sem];refine fG (bLh m d k h i e) ?_;rintro v S' ⟨f,b,a,a2,a3,g,a5⟩;dsimp only at f a2 a3;subst a2;by_cases h0:a=[]
 .subst h0;rw[gH];simp(disch:=omega)only[go_sem];exact bG ⟨f,b,[],rfl,a3,g,a5⟩
 .rw[dK _ h0];simp(disch:=omega)only[go_sem];exact bG ⟨f,b,a,(dK _ h0).symm,a3,g,a5⟩
theorem bRa{n jm:Nat}{l:Tf_}{c:Nat}(u:fD l c)(d:l.length<=1000000){S:aA}(t:S.length=n+1)(o:S[n]?=some (.cells 97 false [.map jm]))(p:S[jm]?=some (.mp (mpK en2 qT l) c))(e:jm<n): ((lim K).call 82 [.fn 116 [] [.ptr n 97 0],.fn 84 [] []] S).All (bQ9 n S (l.map (·.2.1))):=by
 refine dG K _ (fn:=t82) rfl rfl ?_;simp(disch:=omega)only[t82,go_sem];refine fG (bLj u d t o p e) ?_;rintro v S' ⟨g,k,a,a2,a3,w,a5⟩;dsimp only at g a2 a3;subst a2;have f:=a5.length_eq;rw[P_]at f;unfold bQ9;rw[<-aF6 a5];by_cases h0:a=[]
 .subst h0;rw[gH];simp(disch:=omega)only[go_sem];exact bG ⟨g,k,rfl,fun h=>absurd rfl h⟩
 .have r:=aXc (a3 h0) A_ h0;have i:gR a≠[]:=fun h=>h0 (aW9.1 h);have b:=zL a;have x:=w h0;rw[dK _ h0];simp(disch:=omega)only[go_sem,r];refine bG ⟨fun q B s m=>?_,k,?_,fun _=>?_⟩;.rw[aB A_];exact g q B s m
  .rw[dK _ i,b]
  .rw[b];exact aM (aN (a3 h0)) _
theorem bRb(S:aA)(jm:Nat):(lim K).call 83 [.map jm] S=.ret (.fn 116 [] [.ptr S.length 97 0],S++[.cells 97 false [.map jm]]):=by refine aI K _ (fn:=t83) rfl rfl ?_;simp(disch:=omega)only[t83,go_sem]
theorem bC0{jm:Nat}{l:Tf_}{c:Nat}(m:fD l c)(a:l.length<=1000000){S:aA}(e:S[jm]?=some (.mp (mpK en2 qT l) c)): ((lim K).call 63 [.map jm] S).All (bQ9 S.length S (l.map (·.2.1))):=by
 have b:=bRb S jm;have d:=bRa m a (n:=S.length) (S:=S++[.cells 97 false [.map jm]]) B_ (cM _ _) (aR e _) (aN e);refine dG K _ (fn:=t63) rfl rfl ?_;simp(disch:=omega)only[t63,go_sem,b];refine fG d ?_;rintro v S' ⟨f,h,a2,a3⟩;dsimp only at f a2 a3;subst a2;have g:Kp S.length S S':=fun q B k i=>f q B k (aR i _);generalize hks:gR (l.map (·.2.1))=ks at *
 by_cases h0:ks=[]
 .rw[h0,gH];simp(disch:=omega)only[go_sem];exact bG ⟨g,h,by rw[hks,h0];rfl,by rw[hks];exact a3⟩
 .rw[dK _ h0];simp(disch:=omega)only[go_sem];exact bG ⟨g,h,by rw[hks];exact(dK _ h0).symm,by rw[hks];exact a3⟩
theorem mm0(a b:Int):minmax false (.int .i64 a) [j_ b]=some (.int .i64 (prP a b).1):=by
 unfold prP;by_cases h:a<=b;.simp[minmax,min2,h,show ¬b<a by omega]
 .simp[minmax,min2,h,show b<a by omega]
theorem mm1(a b:Int):minmax true (.int .i64 a) [j_ b]=some (.int .i64 (prP a b).2):=by
 unfold prP;by_cases h:a<=b
 .by_cases h2:a<b;.simp[minmax,min2,h,h2]
  .have:a=b:=A_;subst this;simp[minmax,min2]
 .simp[minmax,min2,h,show ¬a<b by omega]
theorem aQb(a b:Int):TM.Pure K 62 [j_ a,j_ b] (.iv (.agg [.int .i64 (prP a b).1,.int .i64 (prP a b).2])):=by refine aT t62 rfl rfl ?_;simp(disch:=omega)only[t62,go_sem,mm0,mm1]
theorem bWd(p q:Int×Int):eqAgg false [(0,.int),(1,.int)] (.iv (.agg [.int .i64 p.1,.int .i64 p.2])) (.iv (.agg [.int .i64 q.1,.int .i64 q.2]))=some (.bool (decide (p=q))):=by
 obtain⟨a,b⟩:=p;obtain⟨c,d⟩:=q;by_cases h1:a=c
 .subst h1;by_cases h2:b=d;.subst h2;simp[eqAgg,eV,gK]
  .simp[eqAgg,eV,gK,h2,show(b==d)=false by simp[h2]]
 .simp[eqAgg,eV,gK,h1,show(a==c)=false by simp[h1]]
def MpP(S:aA)(j:Nat)(l:List (Nat×(Int×Int)×Int))(c:Nat):Prop:=S[j]?=some (.mp (mpK en2 qT l) c)/\fD l c
def aUh(x:VI)(d:Int)(C:List Int)(p:Int×Int):Prop:=∃r∈C,r≠d/\¬mvP x (prP d r)/\p=prP d r
theorem sU{l:Ta_}{i:Nat}(h:i<l.length):l.drop i=l.getD i 0::l.drop (i+1):=by rw[A7 h];simp[List.getD,h]
theorem aG9(l:Tf_)(c:Nat)(k:Int×Int)(a:Int):zD (fU l c k a) k=a:=by unfold zD;rw[aFx,K_ rfl];rfl
theorem aJf{x:VI}{C:Ta_}(hC:C.length<=1000)(d:Int)(V:Nat)(x0 Z x2 Y x4 x5 x7 x8 x10 x13 x14 x15 x16 u z w G F E:TV):∀(k i:Nat) (S:aA) (l:Tf_) (c:Nat) (x12 I y:TV),i+k=C.length->MpP S 0 l c ->∃(S':aA) (l':Tf_) (c':Nat) (s o n:TV),lp' (lim K) t34L0 [x0,Z,x2,Y,x4,x5,.map 0,x7,x8,.lb ((aJ x).map .iv),x10,j_ d,x12,x13,x14,x15,x16,u,z,w,G,F,E,.tsl V (aZ C),j_ C.length,j_ i,I,y] S = .ret (.exit 4,[x0,Z,x2,Y,x4,x5,.map 0,x7,x8,.lb ((aJ x).map .iv),x10,j_ d,s,x13,x14,x15,x16,u,z,w,G,F,E,.tsl V (aZ C),j_ C.length,j_ C.length,o,n],S')/\MpP S' 0 l' c'/\(∀p,eF l' p=true↔eF l p=true\/aUh x d (C.drop i) p)/\l'.length<=l.length+k/\bL [0] S S'
 |0,i,S,l,c,x12,I,y,h,hm=>by
  obtain rfl:i=C.length:=A_;refine⟨S,l,c,x12,z_,y,aE K _ _ t34L0.eq_1 ?_,hm,fun p=>?_,by omega,bL.refl _ _⟩;.simp(disch:=omega)only[go_sem]
  .rw[D7];exact⟨.inl,fun h=>by rcases h with h|⟨r,hr,_⟩;exact h;cases hr⟩
 |k+1,i,S,l,c,x12,I,y,h,hm=>by
  have Q:i<C.length:=A_;have v:=bK4 (j:=V) Q;have h4:=sU Q;generalize C.getD i 0=r at *
  have c1:=aQb d r;have c2:=aQb x.a x.d;have e1:((i+1:Nat):Int)=(i:Int)+1:=A_;have A:=bWd (prP d r) (prP x.a x.d);rw[aY]at *
  have H:∀(p:Int×Int),aUh x d (C.drop i) p↔(r≠d/\¬mvP x (prP d r)/\p=prP d r)\/aUh x d (C.drop (i+1)) p:=fun p=>by
   rw[h4];constructor
   .rintro⟨q,R,f⟩;rcases J_.1 R with rfl|R;.exact .inl f
    .exact .inr ⟨q,R,f⟩
   .rintro(f|⟨q,R,f⟩);.exact⟨r,by simp,f⟩
    .exact⟨q,by simp[R],f⟩
  by_cases hskip:r=d\/mvP x (prP d r)
  .obtain⟨S',l',c',s,o,n,t,N,J,h3,hK⟩:=aJf (x:=x) hC d V x0 Z x2 Y x4 x5 x7 x8 x10 x13 x14 x15 x16 u z w G F E k (i+1) S l c (j_ r) e_ e_ A_ hm;rw[e1,aY]at t;refine⟨S',l',c',s,o,n,aE K _ _ t34L0.eq_1 ?_,N,fun p=>?_,by omega,hK⟩
   .by_cases m:r=d;.simp(disch:=omega)only[go_sem,v,m,aC];rw[m]at t;exact X_ er t
    .have D:=hskip.resolve_left m;obtain⟨g,P⟩:=D;rw[V_ P]at A;simp(disch:=omega)only[go_sem,v,m,g,aD c1,aD c2,A,aC];rw[g]at t;exact X_ er t
   .rw[J,H];constructor
    .rintro(f|f);.exact .inl f
     .exact .inr (.inr f)
    .rintro(f|⟨f,h2,_⟩|f);.exact .inl f
     .exact absurd hskip (by simp[f,h2])
     .exact .inr f
  .have m:r≠d:=fun e=>hskip (.inl e);have D:¬mvP x (prP d r):=fun e=>hskip (.inr e);obtain⟨L,ho⟩:=hm;have W:=aN L;have U:=es2 ho (aAr l c (prP d r)) ;have g1:∀b,(S.set 0 b)[0]?=some b:=fun b=>aM W b;have h0:MpP ((S.set 0 (.mp (mpK en2 qT (fU l c (prP d r) (zD l (prP d r)))) (aAr l c (prP d r)))).set 0 (.mp (mpK en2 qT (fU l c (prP d r) (IntKind.i64.wrap (zD l (prP d r)+1)))) (aAr l c (prP d r)))) 0 (fU l c (prP d r) (IntKind.i64.wrap (zD l (prP d r)+1))) (aAr l c (prP d r)):=⟨aM (by simpa using W) _,ho.put _ _⟩
   obtain⟨S',l',c',s,o,n,t,N,J,h3,hK⟩:=aJf (x:=x) hC d V x0 Z x2 Y x4 x5 x7 x8 x10 x13 x14 x15 x16 u z w G F E k (i+1) _ _ _ (j_ r) e_ z_ A_ h0;rw[e1,aY]at t;refine⟨S',l',c',s,o,n,aE K _ _ t34L0.eq_1 ?_,N,fun p=>?_,by have:=aBz l c (prP d r) (IntKind.i64.wrap (zD l (prP d r)+1));omega,((bL.set S B_ _).trans (bL.set _ B_ _)).trans hK⟩
   .have P:x.op=64->¬prP d r=prP x.a x.d:=fun g e=>D ⟨g,e⟩;have T:=aG9 l c (prP d r) (zD l (prP d r));generalize prP d r=pd at *
    generalize prP x.a x.d=qd at *
    obtain⟨pa,pb⟩:=pd;dsimp only at *
    by_cases g:x.op=64;.rw[Z_ (P g)]at A;simp(disch:=omega)only[go_sem,v,m,g,aD c1,aD c2,A,L,g1,U,T,aC];rw[g]at t;exact X_ er t
    .simp(disch:=omega)only[go_sem,v,m,g,aD c1,L,g1,U,T,aC];exact X_ er t
   .rw[J,H,aPn,D3,p_];constructor
    .rintro((f|f)|f);.exact .inr (.inl ⟨m,D,f.symm⟩)
     .exact .inl f
     .exact .inr (.inr f)
    .rintro(f|⟨_,_,f⟩|f);.exact .inl (.inr f)
     .exact .inl (.inl f.symm)
     .exact .inr f
structure Slc (S:aA) (v:TV) (C:List Int):Prop where
 len:sI .sl S v=some (.iv (.int .i64 C.length))
 frm:(∃a,v=.iv a)\/(∃j l,v=.tsl j l)\/∃a b c d e f,v=.msl a b c d e f
 ix:∀i:Nat,i<C.length->∃a,indexAddrS 1 v (i:Int)=some a/\∀env,bQ env S a 1=some [.iv (.int .i64 (C.getD i 0))]
theorem Slc.loc{S:aA}{v:TV}{C:Ta_}(h:Slc S v C)(q:Nat):mZ q v=v:=by rcases h.frm with⟨a,rfl⟩|⟨j,l,rfl⟩|⟨a,b,c,d,e,f,rfl⟩<;>rfl
theorem Slc.nlp{S:aA}{v:TV}{C:Ta_}(h:Slc S v C):bY v=false:=by rcases h.frm with⟨a,rfl⟩|⟨j,l,rfl⟩|⟨a,b,c,d,e,f,rfl⟩<;>rfl
theorem Slc.wb{S0:aA}{v:TV}{C:Ta_}(h:Slc S0 v C)(j:Nat)(ops:List aK)(i:Nat)(M:To_)(n:Nat)(g:List TM.Fr)(env:Env)(S:aA):aAm K (lim K) v j ops i M n g env S=sJ K (lim K) ops (i+1) M n g (env.set j v) S:=by
 rcases h.frm with⟨a,rfl⟩|⟨j,l,rfl⟩|⟨a,b,c,d,e,f,rfl⟩;.exact aCt ..
 .exact aFi ..
 .exact aOu ..
theorem Slc.iv(S:aA)(t:Tag)(C:Ta_):Slc S (.iv (.sl t (TM.one (.int .i64) C))) C :=
 ⟨by rw[aWa,TM.lR],.inl ⟨_,rfl⟩,fun i a=>⟨_,pO (f:=IV.int .i64) (t:=t) (l:=C) (i:=(i:Int)) A_,fun env=>by rw[Int.toNat_natCast];rfl⟩⟩
theorem Slc.tsl(S:aA)(j:Nat)(C:Ta_):Slc S (.tsl j (aZ C)) C :=
 ⟨by rw[aNw,eG],.inr (.inl ⟨_,_,rfl⟩),fun i a=>⟨_,bK4 a,fun env=>rfl⟩⟩
theorem Slc.msl{S:aA}{j v cap:Nat}{b:Bool}{C:Ta_}{J:Tn_}(h:S[j]?=some (.cells v b (C.map vI++J))):Slc S (.msl j v 0 C.length cap 1) C :=
 ⟨rfl,.inr (.inr ⟨_,_,_,_,_,_,rfl⟩),fun i a=>⟨_,jK a,fun env=>by simp only[bQ,h,↓reduceIte];exact pE a⟩⟩
def bC1(p:Int->Bool)(C:List Int):Int:=if C.any p then(C.findIdx p:Nat)else -1
theorem aUi{S:aA}{v:TV}{C:Ta_}(h:Slc S v C)(E:C.length<=9000000)(g:Nat)(cap:Tn_){b:Bool}(o:cap.all kQ=b)(p:Int->Bool) (w:∀x∈C,cvA (lim K) b S g (j_ x::cap)=.ret (.iv (.bool (p x)),S)):∀(k i:Nat) (x2 f x6 x7:TV),i+k=C.length->(∀x∈C.take i,p x=false) ->∃(e:aV) (l s t u n:TV),lp' (lim K) t50L0 [v,.fn g [] cap,x2,f,j_ C.length,j_ i,x6,x7] S = .ret (e,[v,.fn g [] cap,l,s,j_ C.length,t,u,n],S) /\(e=.exit 0/\C.any p=false\/e=.ret/\C.any p=true/\l=j_ (C.findIdx p:Nat))
 |0,i,x2,f,x6,x7,hk,hq=>by
  obtain rfl:i=C.length:=A_;rw[C5]at hq;have m:=h.loc;refine⟨.exit 0,x2,f,j_ C.length,z_,x7,aE K _ _ t50L0.eq_1 ?_,.inl ⟨rfl,?_⟩⟩;.simp(disch:=omega)only[go_sem,m]
  .rw[q_];intro x d;rw[hq x d];simp
 |k+1,i,x2,f,x6,x7,hk,hq=>by
  have c:i<C.length:=A_;obtain⟨a,z,y⟩:=h.ix i c;have m:=h.loc;have j:=w (C.getD i 0) (nY c);have r:=iV c;cases hd:p (C.getD i 0)with
  |true =>
   rw[hd]at j;have q:C.findIdx p=i:=by
    have G:C=C.take i++C.getD i 0::C.drop (i+1):=by rw[<-sU c,F3]
    rw[G,List.findIdx_append,I_ (by rw[X6];rintro⟨x,d,A⟩;rw[hq x d]at A;cases A),List.findIdx_cons,hd];simp;omega
   refine⟨.ret,j_ i,j_ i,j_ i,e_,e_,aE K _ _ t50L0.eq_1 ?_,.inr ⟨rfl,E5.2 ⟨_,nY c,hd⟩,by rw[q]⟩⟩;simp(disch:=omega)only[go_sem,m,z,y,o,j]
  |false =>
   rw[hd]at j;obtain⟨e,l,s,t,u,n,D,F⟩:=aUi h E g cap o p w k (i+1) x2 (j_ i) e_ z_ A_ (fun x d=>by
    rw[r,U_,S_]at d;rcases d with d|rfl;.exact hq x d
    .exact hd)
   rw[show((i+1:Nat):Int)=(i:Int)+1 by omega]at D;refine⟨e,l,s,t,u,n,aE K _ _ t50L0.eq_1 ?_,F⟩;simp(disch:=omega)only[go_sem,m,z,y,o,j,aC];exact X_ er D
theorem aJg{S:aA}{v:TV}{C:Ta_}(h:Slc S v C)(f:C.length<=9000000)(g:Nat)(cap:Tn_){b:Bool}(i:cap.all kQ=b)(p:Int->Bool) (j:∀x∈C,cvA (lim K) b S g (j_ x::cap)=.ret (.iv (.bool (p x)),S)):(lim K).call 50 [v,.fn g [] cap] S=.ret (j_ (bC1 p C),S):=by
 obtain⟨o,l,m,n,q,k,c,a⟩:=aUi h f g cap i p j C.length 0 (j_ 0) u_ u_ u_ A_ B_;rw[n0_]at c;have e:=h.loc;have d:=h.len;unfold bC1;rcases a with⟨rfl,a⟩|⟨rfl,a,rfl⟩;.rw[a,I_ C_];refine aI K S (fn:=t50) rfl rfl ?_;simp(disch:=omega)only[t50,go_sem,e,d];rw[c];simp(disch:=omega)only[go_sem]
 .rw[a,K_ rfl];refine aI K S (fn:=t50) rfl rfl ?_;simp(disch:=omega)only[t50,go_sem,e,d];rw[c];simp(disch:=omega)only[go_sem]
theorem xM{S:aA}{v:TV}{C:Ta_}(h:Slc S v C)(f:C.length<=9000000)(g:Nat)(cap:Tn_){b:Bool}(i:cap.all kQ=b)(e:cap.any bY=false)(p:Int->Bool) (j:∀x∈C,cvA (lim K) b S g (j_ x::cap)=.ret (.iv (.bool (p x)),S)):(lim K).call 22 [v,.fn g [] cap] S=.ret (.iv (.bool (C.any p)),S):=by
 have a:=aJg h f g cap i p j;have d:=h.loc;have c:=h.nlp;unfold bC1 at a;cases ha:C.any p with
 |true =>rw[ha,K_ rfl]at a;refine aI K S (fn:=t22) rfl rfl ?_;simp(disch:=omega)only[t22,go_sem,d,c,e,a]
 |false =>rw[ha,I_ C_]at a;refine aI K S (fn:=t22) rfl rfl ?_;simp(disch:=omega)only[t22,go_sem,d,c,e,a]
def flp(p:Int->Bool)(C:List Int):List Int:=C.filter fun n=>!p n
theorem aUj{p:Int->Bool}{C:Ta_}(h:∀x∈C,p x=false):flp p C=C:=R8.2 fun a b=>by rw[h a b];rfl
theorem aMb{p:Int->Bool}{C:Ta_}{i:Nat}(h:i<C.length):flp p (C.take (i+1))=if p (C.getD i 0)then flp p (C.take i)else flp p (C.take i)++[C.getD i 0]:=by rw[iV h];unfold flp;rw[H5];generalize C.getD i 0=x;cases hp:p x<;>simp[hp]
theorem aJh(p:Int->Bool)(C:Ta_):(flp p C).length<=C.length:=E0 _ _
theorem aJi{S:aA}{j v:Nat}{b:Bool}{C:Ta_}{J:Tn_}(u:j<S.length)(E:C.length<=9000000)(g:Nat)(cap:Tn_){bb:Bool}(o:cap.all kQ=bb)(p:Int->Bool) (s:∀(B:aG) (x:Int),cvA (lim K) bb (S.set j B) g (j_ x::cap)=.ret (.iv (.bool (p x)),S.set j B)) (cp:Nat) (x2 x6:TV):∀(k i:Nat) (x5 x7 x8:TV),i+k=C.length ->∃n c l,lp' (lim K) t40L0 [.msl j v 0 C.length cp 1,.fn g [] cap,x2,.iv (.int .i64 ((flp p (C.take i)).length:Nat)),j_ i,x5,x6,x7,x8] (S.set j (.cells v b ((flp p (C.take i)++C.drop (flp p (C.take i)).length).map vI++J))) = .ret (.exit 0,[.msl j v 0 C.length cp 1,.fn g [] cap,x2,j_ ((flp p C).length:Nat),j_ C.length,n,x6,c,l],S.set j (.cells v b ((flp p C++C.drop (flp p C).length).map vI++J)))
 |0,i,x5,x7,x8,hk=>by obtain rfl:i=C.length:=A_;rw[C5];refine⟨x5,z_,x8,aE K _ _ t40L0.eq_1 ?_⟩;simp(disch:=omega)only[go_sem]
 |k+1,i,x5,x7,x8,hk=>by
  have d:i<C.length:=A_;have t:(flp p (C.take i)).length<=i:=C0 (aJh _ _) (by simp;omega);have f:=uL (D:=flp p (C.take i)) (C:=C) A_;have z:=jK (j:=j) (v:=v) (cap:=cp) d;have q:=pE (C:=flp p (C.take i)++C.drop (flp p (C.take i)).length) (J:=J) (i:=i) A_;rw[aIq t]at q;have e:=s (.cells v b ((flp p (C.take i)++C.drop (flp p (C.take i)).length).map vI++J)) (C.getD i 0);have a:=aMb (p:=p) d;have r:=aM u (.cells v b ((flp p (C.take i)++C.drop (flp p (C.take i)).length).map vI++J));simp only[vI]at r q e;cases hd:p (C.getD i 0)with
  |true =>
   rw[hd]at e;rw[hd,K_ rfl]at a;obtain⟨n,c,l,m⟩:=aJi (v:=v) (b:=b) (J:=J) u E g cap o p s cp x2 x6 k (i+1) (j_ (C.getD i 0)) e_ z_ A_;rw[a,show((i+1:Nat):Int)=(i:Int)+1 by omega]at m;refine⟨n,c,l,aE K _ _ t40L0.eq_1 ?_⟩;generalize hS1:S.set j (.cells v b ((flp p (C.take i)++C.drop (flp p (C.take i)).length).map vI++J))=S1 at *
   simp(disch:=omega)only[go_sem,z,r,q,o,e,aC];exact X_ er m
  |false =>
   rw[hd]at e;rw[hd,I_ C_]at a;have A:(flp p (C.take i)).length<C.length:=A_;have G:=jK (j:=j) (v:=v) (cap:=cp) A;have w:=aIo (C:=flp p (C.take i)++C.drop (flp p (C.take i)).length) (J:=J) (i:=(flp p (C.take i)).length) (C.getD i 0) A_;rw[aIp _ _ _ A]at w;have y:(flp p (C.take i)).length+1<=((flp p (C.take i)++C.drop (flp p (C.take i)).length).map vI++J).length:=by rw[H_,P_,f];omega
   obtain⟨n,c,l,m⟩:=aJi (v:=v) (b:=b) (J:=J) u E g cap o p s cp x2 x6 k (i+1) (j_ (C.getD i 0)) e_ e_ A_;rw[a,show((i+1:Nat):Int)=(i:Int)+1 by omega,H_,List.length_singleton,show(((flp p (C.take i)).length+1:Nat):Int)=((flp p (C.take i)).length:Int)+1 by omega]at m;have F:∀B,(S.set j (.cells v b ((flp p (C.take i)++C.drop (flp p (C.take i)).length).map vI++J))).set j B=S.set j B:=fun B=>H1 ..;simp only[vI]at w;refine⟨n,c,l,aE K _ _ t40L0.eq_1 ?_⟩;generalize hS1:S.set j (.cells v b ((flp p (C.take i)++C.drop (flp p (C.take i)).length).map vI++J))=S1 at *
   simp(disch:=omega)only[go_sem,z,G,r,q,o,e,aC,y,w,F];exact X_ er m
theorem aUk{S:aA}{j v:Nat}{b:Bool}{C:Ta_}{J:Tn_}(h:S[j]?=some (.cells v b (C.map vI++J)))(N:C.length<=9000000){cp:Nat}(T:C.length<=cp)(g:Nat)(cap:Tn_){bb:Bool}(E:cap.all kQ=bb)(e:cap.any bY=false)(p:Int->Bool) (G:∀(B:aG) (x:Int),cvA (lim K) bb (S.set j B) g (j_ x::cap)=.ret (.iv (.bool (p x)),S.set j B)): ∃J',(lim K).call 40 [.msl j v 0 C.length cp 1,.fn g [] cap] S=.ret (.msl j v 0 (flp p C).length cp 1,S.set j (.cells v b ((flp p C).map vI++J'))):=by
 have y:=aN h;have c:=aJg (Slc.msl h (cap:=cp)) N g cap E p (fun x _=>by have:=G (.cells v b (C.map vI++J)) x;rw[jX h]at this;exact this);unfold bC1 at c;cases ha:C.any p with
 |false =>
  rw[ha,I_ C_]at c;have o:∀x∈C,p x=false:=fun x s=>by simpa using q_.1 ha x s
  rw[aUj o];refine⟨J,aI K _ (fn:=t40) rfl rfl ?_⟩;rw[jX h];simp(disch:=omega)only[t40,go_sem,e,c]
 |true =>
  rw[ha,K_ rfl]at c;have L:C.findIdx p<C.length:=X6.2 (E5.1 ha);generalize hqq:C.findIdx p=q at *
  have d:∀x∈C.take q,p x=false:=fun x s=>by
   obtain⟨i,Q,rfl⟩:=H3 s;have R:i<q:=by simp at Q;omega
   rw[List.getElem_take];have:=List.not_of_lt_findIdx (p:=p) (xs:=C) (i:=i) A_;simpa using this
  have z:flp p (C.take q)=C.take q:=aUj d;have A:p (C.getD q 0)=true:=by have:=List.findIdx_getElem (p:=p) (xs:=C) (w:=A_);subst hqq;simpa[List.getD,D_ L] using this
  have k:flp p (C.take (q+1))=C.take q:=by rw[aMb L,A,K_ rfl,z]
  have t:(C.take q).length=q:=by simp;omega
  obtain⟨W,U,V,H⟩:=aJi (v:=v) (b:=b) (J:=J) y N g cap E p G cp k_ z_ (C.length-(q+1)) (q+1) u_ u_ u_ A_;rw[k,t,show((q+1:Nat):Int)=(q:Int)+1 by omega,F3,jX h]at H;have f:(S.set j (.cells v b ((flp p C++C.drop (flp p C).length).map vI++J)))[j]?=some _:=aM y _;have n:=aJh p C;have l:=uL (D:=flp p C) (C:=C) n;have P:=wG f _ _ _ (pV (m:=C.length) (cap:=cp) (a:=(flp p C).length) T n);obtain⟨J',F⟩:=aPp (cap:=cp) f (i:=(flp p C).length) A_ A_ (cp-(flp p C).length);rw[l,K1,H1]at F;.have u:(S.set j (.cells v b ((flp p C).map vI++J')))[j]?=some _:=aM y _;have I:=wG u _ _ _ (uK (m:=C.length) (cap:=cp) (b:=(flp p C).length) A_);rw[show(if cp=0 then 0 else 0+0*1)=0 by split<;>rfl,Nat.sub_zero,Nat.sub_zero]at I;have r:¬(q:Int) = -1:=A_;refine⟨J',aI K _ (fn:=t40) rfl rfl ?_⟩;simp(disch:=omega)only[t40,go_sem,e,c,r,aC];rw[H];simp(disch:=omega)only[go_sem,P,fun env=>aLp _ env _ _ _ F,I]
  .rfl
theorem xN{g:Nat}{x:Int}{v:TV}(h:TM.Pure K g [j_ x] v)(S:aA):cvA (lim K) true S g [j_ x]=.ret (v,S):=by simp only[go_sem,aD h]
theorem bRc(x:Int):TM.Pure K 53 [j_ x] (.iv (.bool (decide (24<x)))):=by refine aT t53 rfl rfl ?_;simp(disch:=omega)only[t53,go_sem]
def p24(x:Int):Bool:=decide (24<x)
def crM(l:List Int):Bool:=decide (16<(flp p24 l).length)
theorem bRd(t:Tag)(l:Ta_)(h:cY t l)(e:l.length<=1000000):TM.Pure K 26 [.iv (.sl t (TM.one (.int .i64) l))] (.iv (.bool (crM l))):=by
 have c:∀(S:aA) (x:Int),cvA (lim K) true S 53 [j_ x]=.ret (.iv (.bool (p24 x)),S):=fun S x=>xN (bRc x) S;unfold crM;rcases aP0 t l h e []with⟨rfl,t',_,c44⟩|⟨h0,c44⟩
 .have b:=aJg (S:=[]) (Slc.iv [] t' []) B_ 53 [] rfl p24 (fun x d=>by cases d);rw[show bC1 p24 [] = -1 from rfl,qU]at b;have a:(lim K).call 40 [.iv (.sl t' []),.fn 53 [] []] []=.ret (.iv (.sl t' []),[]):=by refine aI K _ (fn:=t40) rfl rfl ?_;simp(disch:=omega)only[t40,go_sem,b]
  rw[qU]at *
  refine TM.gO (S:=[]) (r:=.iv (.bool (decide (16<(flp p24 []).length)))) (aI K _ (fn:=t26) rfl rfl ?_) (by rw[oN]);rw[show flp p24 []=[] from rfl];simp(disch:=omega)only[t26,go_sem,c44,a]
 .have f:([.cells 0 true (l.map vI)]:aA)[0]?=some (.cells 0 true (l.map vI++[])):=by rw[A0];rfl
  obtain⟨J',a⟩:=aUk f A_ (L_ _) 53 [] rfl rfl p24 (fun B x=>c _ x);simp only[List.nil_append,List.length_nil]at c44;have g:((16:Int)<((flp p24 l).length:Int))↔16<(flp p24 l).length:=A_;simp only[List.set_cons_zero]at a;refine TM.gO (S:=[aG.cells 0 true ((flp p24 l).map vI++J')]) (r:=.iv (.bool (decide (16<(flp p24 l).length)))) (aI K _ (fn:=t26) rfl rfl ?_) (by rw[oN]);simp(disch:=omega)only[t26,go_sem,c44,a,g]
theorem aUl{S:aA}{j:Nat}{l A:M_}{t:Tag}(a:jL 1 l)(c:jL 1 A)(h:S[j]?=some (.tok l.length 1 26))(d:l.length+A.length<=2000000):bA false 1 24 26 S (.tsl j l) (.iv (.sl t A))=some (.tsl j (l++A),S.set j (.tok (l.length+A.length) 1 26)) :=
 aFn (b:=24) (qQ.sl ..) c a h (bR A_)
theorem bRe(n:Nat)(h:0<n/\n<=2000000)(S:aA):(lim K).call 52 [k_,j_ n] S=.ret (.tsl S.length [],S++[.tok 0 1 26]):=by
 have f:dY n 24=true:=bR A_;have c:¬(n:Int)<=0:=A_;have e:rF 1 24 26 S k_ (n:Int)=some (.rsv S.length [] n,S++[.tok 0 1 26]):=by simp[rF,oR,f,c,Int.toNat_natCast,show ¬n=0 by omega]
 have b:∀n:Int,n-(0-((0:Nat):Int))=n:=fun n=>A_;have d:aYs (aA0 k_)=some (j_ 0):=id rfl;have e2:∀S:aA,fA S (.sl 1) k_ none (some 0) none=some k_:=fun S=>rfl;have e3:∀(S:aA) (i n:Nat),fA S (.sl 1) (.rsv i [] n) none (some 0) none=some (.tsl i []):=fun S i n=>rfl;have a:∀(S:aA) (i n:Nat),fA S (.sl 1) (.rsv i [] n) none (some ((0:Nat):Int)) none=some (.tsl i []):=fun S i n=>rfl;refine aI K S (fn:=t52) rfl rfl ?_;simp(disch:=omega)only[t52,go_sem,d,e2,e3,a,aC,b,fun env=>bJk (env:=env) e]
theorem bC2(I O:Te_){n:Nat}(C:0<n/\n<=100000)(f d:Tag)(S:aA): (lim K).call 25 [.iv (.sl .full [[.sl f (bF I n)],[.sl d (bF O n)]])] S=.ret (.tsl S.length (bF I n++bF O n),S++[.tok (n+n) 1 26]):=by
 have k:=pW I n;have r:=pW O n;have p:=aC9 I n;have x:=aC9 O n;have g:=bRe (n+n) A_ S;have u:∀b,(S++[b])[S.length]?=some b:=fun b=>cM S b;have w:=aUl (S:=S++[.tok 0 1 26]) (j:=S.length) (l:=[]) (A:=bF I n) (t:=f) (by intro c o;cases o) p (u _) (by simp;omega);have st:∀b c:aG,(S++[b]).set S.length c=S++[c]:=fun b c=>B_;rw[List.nil_append,List.length_nil,A9,k,st]at w;have a2:=aUl (S:=S++[.tok n 1 26]) (j:=S.length) (l:=bF I n) (A:=bF O n) (t:=d) p x (by rw[k];exact u _) A_;rw[k,r,st]at a2;have x0:indexAddrS 1 (.iv (.sl .full [[.sl f (bF I n)],[.sl d (bF O n)]])) 0=some (.iv (.cp [.sl f (bF I n)])):=rfl;have s:indexAddrS 1 (.iv (.sl .full [[.sl f (bF I n)],[.sl d (bF O n)]])) 1=some (.iv (.cp [.sl d (bF O n)])):=rfl;have o:((n+n:Nat):Int)=(n:Int)+n:=A_;rw[o]at g;generalize bF I n=A at *
 generalize bF O n=B at *
 generalize hX:(TV.iv (.sl .full [[.sl f A],[.sl d B]]))=X at *
 have a:∀q,mZ q X=X:=fun q=>by rw[<-hX];rfl
 have h:∀S,sI .sl S X=some (j_ 2):=fun S=>by rw[<-hX];rfl
 have z:bY X=false:=by rw[<-hX];rfl
 have v:∀(j:Nat) ops i M n m env S,aAm K (lim K) X j ops i M n m env S=sJ K (lim K) ops (i+1) M n m (env.set j X) S:=fun j ops i M n m env S=>by rw[<-hX];exact aCt ..
 have L2:∀(e x9 x10:TV),lp' (lim K) t25L1 [X,k_,j_ ((n:Int)+n),e,u_,u_,X,j_ 2,j_ 2,x9,x10,u_,u_,u_,u_] S=.ret (.exit 0,[X,k_,j_ ((n:Int)+n),e,u_,u_,X,j_ 2,j_ 2,z_,x10,u_,u_,u_,u_],S):=fun e x9 x10=>aE K _ _ t25L1.eq_1 (by simp(disch:=omega)only[go_sem,a]);have L1:∀(e x9 x10:TV),lp' (lim K) t25L1 [X,k_,j_ (n:Int),e,u_,u_,X,j_ 2,j_ 1,x9,x10,u_,u_,u_,u_] S=.ret (.exit 0,[X,k_,j_ ((n:Int)+n),.iv (.sl d B),u_,u_,X,j_ 2,j_ 2,z_,z_,u_,u_,u_,u_],S):=fun e x9 x10=>aE K _ _ t25L1.eq_1 (by simp(disch:=omega)only[go_sem,a,s,r,aC];exact X_ er (L2 ..));have L0:∀(e x9 x10:TV),lp' (lim K) t25L1 [X,k_,j_ 0,e,u_,u_,X,j_ 2,j_ 0,x9,x10,u_,u_,u_,u_] S=.ret (.exit 0,[X,k_,j_ ((n:Int)+n),.iv (.sl d B),u_,u_,X,j_ 2,j_ 2,z_,z_,u_,u_,u_,u_],S):=fun e x9 x10=>aE K _ _ t25L1.eq_1 (by simp(disch:=omega)only[go_sem,a,x0,k,aC,Int.zero_add];exact X_ er (L1 ..));have M2:∀(x5 x14 y:TV),lp' (lim K) t25L0 [X,k_,j_ ((n:Int)+n),y,.tsl S.length (A++B),x5,X,j_ 2,j_ 2,z_,z_,X,j_ 2,j_ 2,x14] (S++[.tok (n+n) 1 26])=.ret (.exit 2,[X,k_,j_ ((n:Int)+n),y,.tsl S.length (A++B),x5,X,j_ 2,j_ 2,z_,z_,X,j_ 2,j_ 2,z_],S++[.tok (n+n) 1 26]):=fun x5 x14 y=>aE K _ _ t25L0.eq_1 (by simp(disch:=omega)only[go_sem,a]);have M1:∀(x5 x14 y:TV),lp' (lim K) t25L0 [X,k_,j_ ((n:Int)+n),y,.tsl S.length A,x5,X,j_ 2,j_ 2,z_,z_,X,j_ 2,j_ 1,x14] (S++[.tok n 1 26])=.ret (.exit 2,[X,k_,j_ ((n:Int)+n),y,.tsl S.length (A++B),.iv (.sl d B),X,j_ 2,j_ 2,z_,z_,X,j_ 2,j_ 2,z_],S++[.tok (n+n) 1 26]):=fun x5 x14 y=>aE K _ _ t25L0.eq_1 (by simp(disch:=omega)only[go_sem,a,s,a2,aC];exact X_ er (M2 ..));have M0:∀(x5 x14 y:TV),lp' (lim K) t25L0 [X,k_,j_ ((n:Int)+n),y,.tsl S.length [],x5,X,j_ 2,j_ 2,z_,z_,X,j_ 2,j_ 0,x14] (S++[.tok 0 1 26])=.ret (.exit 2,[X,k_,j_ ((n:Int)+n),y,.tsl S.length (A++B),.iv (.sl d B),X,j_ 2,j_ 2,z_,z_,X,j_ 2,j_ 2,z_],S++[.tok (n+n) 1 26]):=fun x5 x14 y=>aE K _ _ t25L0.eq_1 (by simp(disch:=omega)only[go_sem,a,x0,w,aC];exact X_ er (M1 ..));refine aI K S (fn:=t25) rfl rfl ?_;simp(disch:=omega)only[t25,go_sem,a,h,v];rw[L0];simp(disch:=omega)only[go_sem,g,a,h,v];rw[M0];simp(disch:=omega)only[go_sem]
theorem wJ(x:Int):TM.Pure K 23 [j_ x] (.iv (.bool (decide (32<=x)))):=by refine aT t23 rfl rfl ?_;simp(disch:=omega)only[t23,go_sem]
def bC3(x:Int):Bool:=decide (x<25\/x=26\/x=31\/32<=x)
theorem bRf(x:Int):TM.Pure K 30 [j_ x] (.iv (.bool (bC3 x))):=by
 unfold bC3;refine aT t30 rfl rfl ?_;rcases(by omega:x<25\/(25<=x/\x=26)\/(25<=x/\x≠26/\x=31)\/(25<=x/\x≠26/\x≠31/\32<=x)\/(25<=x/\x≠26/\x≠31/\x<32))with h|h|h|h|h;.rw[V_ (.inl h)];simp(disch:=omega)only[t30,go_sem]
 .rw[V_ (.inr (.inl h.2))];simp(disch:=omega)only[t30,go_sem]
 .rw[V_ (.inr (.inr (.inl h.2.2)))];simp(disch:=omega)only[t30,go_sem]
 .rw[V_ (.inr (.inr (.inr h.2.2.2)))];simp(disch:=omega)only[t30,go_sem]
 .rw[Z_ A_];simp(disch:=omega)only[t30,go_sem]
theorem bRg(x:Int):TM.Pure K 29 [j_ x] (.iv (.bool (!bC3 x))):=by have c:=bRf x;refine aT t29 rfl rfl ?_;simp(disch:=omega)only[t29,go_sem,aD c]
def p32(x:Int):Bool:=decide (32<=x)
def bLk(x:Int):Bool:=!bC3 x
def b28(x:VI):Bool:=(x.us.any p32||decide (x.op=67/\32<=x.d))||(decide (x.op=73)||(decide (x.op=74)||(decide (0<x.mp.length)||(x.d::x.a::x.b::x.us).any bLk)))
theorem bC4(d a b:Int)(t:Tag)(us:Ta_)(c:us.length<=1000000)(S:aA):∃w S',bA false 1 8 3 S (.iv (.sl .full [[.int .i64 d],[.int .i64 a],[.int .i64 b]])) (.iv (.sl t (TM.one (.int .i64) us)))=some (w,S')/\Slc S' w (d::a::b::us):=by
 by_cases h0:us=[]
 .subst h0;exact⟨_,S,aS9 rfl (qQ.sl S t []),Slc.iv S .full [d,a,b]⟩
 .have:=aLg (w:=1) (b:=8) (el:=3) (S:=S) (t:=.full) (l:=aZ [d,a,b]) C_ (qQ.sl S t (aZ us)) (nF us) (nF _) (fun h=>h0 (aLu.1 h)) (bR (by rw[eG,eG];simp;omega));exact⟨_,_,this,Slc.tsl _ _ (d::a::b::us)⟩
theorem bRh(x:VI)(o:x.us.length<=1000000):TM.Pure K 28 [.iv (.agg (aJ x))] (.iv (.bool (b28 x))):=by
 obtain⟨op,d,a,b,n,lb,tu,us,tm,mp⟩:=x;dsimp only at o;have f:(TM.one (IV.int .i64) mp).length=mp.length:=TM.lR ..;have g:=xM (S:=[]) (Slc.iv [] tu us) A_ 23 [] rfl rfl p32 (fun x _=>xN (wJ x) []);have l:=wJ d;obtain⟨w,S',k,m⟩:=bC4 d a b tu us o [];have p:=xM m (by simp;omega) 29 [] rfl rfl bLk (fun x _=>xN (bRg x) S');have j:=m.loc;have l2:=m.nlp;have i:=m.wb;have e:((mp.length:Int)>0)↔0<mp.length:=A_;unfold b28;dsimp only;generalize (d::a::b::us).any bLk=q3 at *
 generalize us.any p32=q1 at *
 unfold aJ;generalize TM.one (IV.int .i64) us=U at *
 generalize hM:TM.one (IV.int .i64) mp=M at *
 have fin:∀(v:Bool) (S:aA),(lim K).call 28 [.iv (.agg [.int .i64 op,.int .i64 d,.int .i64 a,.int .i64 b,.int .i64 n,.int .i64 lb,.sl tu U,.sl tm M])] []=.ret (.iv (.bool v),S)->TM.Pure K 28 [.iv (.agg [.int .i64 op,.int .i64 d,.int .i64 a,.int .i64 b,.int .i64 n,.int .i64 lb,.sl tu U,.sl tm M])] (.iv (.bool v)):=fun v S h=>TM.gO h (by rw[oN]);cases q1 with
 |true =>refine fin _ [] (aI K _ (fn:=t28) rfl rfl ?_);simp(disch:=omega)only[t28,go_sem,g,F4]
 |false =>
  by_cases h1:op=67
  .subst h1;by_cases h2:32<=d;.rw[V_ h2]at l;refine fin _ [] (aI K _ (fn:=t28) rfl rfl ?_);rw[V_ ⟨rfl,h2⟩];simp(disch:=omega)only[t28,go_sem,g,aD l,F4,K9]
   .rw[Z_ h2]at l;refine fin _ S' (aI K _ (fn:=t28) rfl rfl ?_);rw[Z_ (fun h=>h2 h.2)];cases hm:decide (0<mp.length)with
    |true =>have c:0<mp.length:=I6 hm;simp(disch:=omega)only[t28,go_sem,g,aD l,k,i,j,l2,f,e,c,G0,F4]
    |false =>have c:¬0<mp.length:=U5 hm;simp(disch:=omega)only[t28,go_sem,g,aD l,k,i,j,l2,f,e,c,p,G0,F4]
  .refine fin _ S' (aI K _ (fn:=t28) rfl rfl ?_);rw[Z_ (fun h:op=67/\32<=d=>h1 h.1)];by_cases h3:op=73;.rw[V_ h3];simp(disch:=omega)only[t28,go_sem,g,k,i,j,l2,h3,G0,F4]
   .rw[Z_ h3];by_cases h4:op=74;.rw[V_ h4];simp(disch:=omega)only[t28,go_sem,g,k,i,j,l2,h4,G0,F4]
    .rw[Z_ h4];cases hm:decide (0<mp.length)with
     |true =>have c:0<mp.length:=I6 hm;simp(disch:=omega)only[t28,go_sem,g,k,i,j,l2,h1,h3,h4,f,e,c,G0,F4]
     |false =>have c:¬0<mp.length:=U5 hm;simp(disch:=omega)only[t28,go_sem,g,k,i,j,l2,h1,h3,h4,f,e,c,p,G0,F4]
end Go.Proofs.YtehlgnfhkidgoaaGreatDoor
