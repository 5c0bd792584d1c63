/- A part of the evaluator TM, and of the proof that what it computes the model does. Condition: none. -/
import Derived.Test.YtehlgnfhkidgoaaGreatDoorTmA
import Derived.MapKept
import Derived.Laws.MakeOwn
import Derived.Laws.Tables
import Derived.Laws.AppendOwn
import Derived.Laws.IdiomStrings
import Derived.WideKeyRuns
namespace Go.TM
open Go
section
variable {P:Program}{O:dH}{K:TM.bD}
variable {M:Mem}{J:aF}{L:List (Option Nat)}{S S':aA}{env env':Env}{w:World}
def At(w:World)(M:Mem)(J:aF)(b o:Nat)(xs:List TV):Prop:=∀(k:Nat) (x:TV),xs[k]?=some x->∃u,w.cell? ⟨b,o+k,none⟩=some u/\VR M J [] x u
def AtI(w:World)(M:Mem)(b o:Nat)(xs:List IV):Prop:=∀(k:Nat) (x:IV),xs[k]?=some x->∃u,w.cell? ⟨b,o+k,none⟩=some u/\IR M x u
theorem vP{n k:Nat}{α:Type}(f:Nat->α){u:α}(h:((List.range n).map f)[k]?=some u):k<n/\u=f k:=by
 simp only[p_,G_]at h;obtain⟨k',a,rfl⟩:=h;have b:k<n:=by
  rcases D2 k n with c|c;.exact c
  .rw[B5 (by simpa using c)]at a;simp at a
 rw[F0 b]at a;simp at a;subst a;exact⟨b,rfl⟩
theorem At.vals{b o:Nat}{xs:Tn_}(h:At w M J b o xs):∃vs,VRs M J [] xs vs/\∀(i:Nat) (v:Value),vs[i]?=some v->w.cell? ⟨b,o+i,none⟩=some v:=by
 refine⟨(List.range xs.length).map fun k=>(w.cell? ⟨b,o+k,none⟩).getD Go.undef,⟨by simp,fun i x v e a=>?_⟩,fun i v a=>?_⟩;.obtain⟨d,rfl⟩:=vP _ a;obtain⟨u,c,h3⟩:=h i x e;rw[c];exact h3
 .obtain⟨d,rfl⟩:=vP _ a;obtain⟨u,c,h3⟩:=h i _ (D_ d);rw[c];rfl
theorem AtI.at{b o:Nat}{xs:Tq_}(h:AtI w M b o xs):At w M J b o (xs.map .iv):=by intro k x c;simp only[p_,G_]at c;obtain⟨a,e,rfl⟩:=c;obtain⟨u,d,f⟩:=h k a e;exact⟨u,d,.iv _ f⟩
theorem xX{α:Type}{es:Nat}:∀ {l:List (List α)},(∀c∈l,c.length=es)->∀ {k:Nat} {x:α},(bC l)[k]?=some x->∃(i:Nat) (c:List α) (j:Nat),l[i]?=some c/\c[j]?=some x/\k=i*es+j
 |[],_,k,x,h=>by simp[bC]at h
 |a::r,hl,k,x,h=>by
  simp only[bC]at h;have f:=hl a B_;rw[F7]at h;split at h;.exact⟨0,a,k,rfl,h,by simp⟩
  .rename_i hk;obtain⟨i,c,j,b,e,h3⟩:=xX (fun c d=>hl c (by simp[d])) h;exact⟨i+1,c,j,by simpa using b,e,by rw[E2];omega⟩
theorem dG{α:Type}{es:Nat}:∀ {l:List (List α)},(∀c∈l,c.length=es)->(bC l).length=l.length*es
 |[],_=>by simp[bC]
 |a::r,hl=>by simp only[bC,H_,List.length_cons];rw[dG (fun c b=>hl c (by simp[b])),hl a B_,E2];omega
theorem oU{α:Type}(es:Nat):∀(n:Nat) (cs:List α),cs.length=n*es->bC (cP es n cs)=cs
 |0,cs,h=>by simp at h;subst h;rfl
 |n+1,cs,h=>by simp only[cP,bC];rw[oU es n (cs.drop es) (by simp;rw[E2]at h;omega)];simp
theorem oV{α:Type}:∀(a b:List (List α)),bC (a++b)=bC a++bC b
 |[],b=>rfl
 |x::a,b=>by simp[bC,oV a b]
theorem IR.sl_at(u:∀b o v,M b o=some v->w.cell? ⟨b,o,none⟩=some v){t:Tag}{l:Tp_}{v:Value}(h:IR M (.sl t l) v):(v=.slice none 0 0/\l=[]/\t=.nil) \/(∃b o c es,v=.slice (some ⟨b,o,none⟩) l.length c/\l.length<=c/\(∀c∈l,c.length=es)/\AtI w M b o (bC l)/\t≠.nil)\/∃a,v=.slice (some a) 0 0/\l=[]/\t≠.nil:=by
 rcases h.sl_any with⟨rfl,rfl,rfl⟩|⟨b,off,cap,es,vals,rfl,d,e,f,g,r,m⟩|⟨q,rfl,rfl,d⟩;case inr.inr=>exact .inr (.inr ⟨q,rfl,rfl,d⟩)
 .exact .inl ⟨rfl,rfl,rfl⟩
 .refine .inr (.inl ⟨b,off,cap,es,rfl,f,e,fun k x s=>?_,d⟩);obtain⟨i,c,j,p,n,h3⟩:=xX e s;refine⟨_,u _ _ _ ?_,m i c j x p n⟩;rw[h3,<-G3];exact r i c j x p n
theorem qC{x:TV}{a:IV}{v:Value}(h:oQ x=some a)(d:VR M J L x v):IR M a v:=by
 unfold oQ at h;split at h;.simp at h;subst h;exact d.iv_inv
 .simp at h;subst h;cases d with
  |tsl L i es l b o c h hl d ha hr=>exact hr
 .simp at h
theorem iK:∀ {xs:Tn_} {l:Tq_},toIVs xs=some l->l.length=xs.length/\∀(i:Nat) (a:IV),l[i]?=some a->∃x,xs[i]?=some x/\oQ x=some a
 |[],l,h=>by simp[toIVs]at h;subst h;exact⟨rfl,fun i a h=>by simp at h⟩
 |x::r,l,h=>by
  simp only[toIVs]at h;split at h
  .rename_i a l' h1 h2;simp at h;subst h;obtain⟨h3,d⟩:=iK h2;refine⟨by simp[h3],fun i b c=>?_⟩;cases i with
   |zero=>simp at c;subst c;exact⟨x,rfl,h1⟩
   |succ i=>simpa using d i b (by simpa using c)
  .simp at h
theorem xY{x:TV}{a:IV}{v:Value}(h:lH x=some a)(c:VR M J L x v):IR M a v:=by
 unfold lH at h;split at h
 .simp only[G_]at h;obtain⟨l,d,rfl⟩:=h;obtain⟨j,h3⟩:=iK d;cases c with
  |agg L cs vs hs c =>refine .agg _ _ (by rw[hs,j]) fun i b u k g=>?_;obtain⟨x,f,e⟩:=h3 i b k;exact qC e (c i x u f g)
 .exact qC h c
theorem bE1{b o:Nat}{xs:Tn_}{l:Tq_}(h:toIVs xs=some l)(g:At w M J b o xs):AtI w M b o l:=by intro k a f;obtain⟨x,e,d⟩:=(iK h).2 k a f;obtain⟨u,c,i⟩:=g k x e;exact⟨u,c,qC d i⟩
theorem aQ5(h:MS P O K M J L S env w){i ver off f cap es:Nat}{v:Value}(z:VR M J L (.msl i ver off f cap es) v){n:Nat}(A:n<=cap):∃b o c,v=.slice (some ⟨b,o,none⟩) f c/\f<=cap /\(∀lo cs xs,S[i]?=some (.cells ver lo cs)->sub cs off (n*es)=some xs->cap<=c/\At w M J b o xs)/\∀cs xs,S[i]?=some (.frz ver cs)->sub cs off (n*es)=some xs->cap<=c/\AtI w M b o xs:=by
 cases z with
 |msl L i ver off f cap es l b o c hJ hv ha hl hlc =>
  refine⟨b,o,c,rfl,hl,fun lo cs xs r d=>?_,fun cs xs r d=>?_⟩
  .have g:=h.wr.blk i l _ hJ r;cases g with
   |cells loose cs cs' e fz hlo hb hsz hfit hvals hfz hm =>
    obtain⟨rfl,q,m,_,_⟩:=ha rfl;refine⟨m,fun k x j=>?_⟩;have a:=(iF d).2.2;have y:=(E_.1 j).1;have s:n≠0:=by rintro rfl;simp at a;subst a;simp at j
    obtain⟨u,t,p⟩:=hvals _ _ (uW d j);refine⟨u,?_,p⟩;rw[dX hb,q A_,G3];exact t
  .have g:=h.wr.blk i l _ hJ r;cases g with
   |frz cs hvals =>
    obtain⟨rfl,q,m,_,_⟩:=ha rfl;refine⟨m,fun k x j=>?_⟩;have a:=(iF d).2.2;have y:=(E_.1 j).1;have s:n≠0:=by rintro rfl;simp at a;subst a;simp at j
    obtain⟨u,t,p⟩:=hvals _ _ (uW d j);refine⟨u,h.wr.imm _ _ _ ?_,p⟩;rw[q A_,G3];exact t
theorem aMz(h:MS P O K M J L S env w){x:TV}{v:Value}(g:VR M J L x v){xs:Tn_}(a:dU S x=some xs): (∃s:List UInt8,v=.string ⟨s.toArray⟩/\xs=s.map (fun b=>.iv (.int .u8 b.toNat))/\lenOf S x=some s.length)\/(∃p,v=.slice p 0 0/\xs=[]/\lenOf S x=some 0) \/∃b o d c,v=.slice (some ⟨b,o,none⟩) d c/\At w M J b o xs/\lenOf S x=some d/\d<=c:=by
 unfold dU at a;split at a
 .simp at a;subst a;rcases g.iv_inv.sl_at h.wr.imm with⟨rfl,rfl,_⟩|⟨b,o,c,es,rfl,f,j,h3,_⟩|⟨m,rfl,rfl,_⟩;case inr.inr=>exact .inr (.inl ⟨some m,rfl,rfl,rfl⟩)
  .exact .inr (.inl ⟨none,rfl,rfl,rfl⟩)
  .exact .inr (.inr ⟨b,o,_,c,rfl,h3.at,rfl,f⟩)
 .simp at a;subst a;cases g with
  |tsl L i es l b o c hJ hl hv ha hr =>
   rcases hr.sl_at h.wr.imm with⟨e,_,_⟩|⟨u,o',c',es',e,f,j,h3,_⟩|⟨m,e,r,_⟩;case inr.inr=>subst r;simp at e;obtain⟨rfl,rfl⟩:=e;exact .inr (.inl ⟨_,rfl,rfl,rfl⟩)
   .simp at e
   .simp at e;obtain⟨⟨rfl,rfl⟩,rfl⟩:=e;exact .inr (.inr ⟨b,o,_,c,rfl,h3.at,rfl,f⟩)
 .rename_i s;simp at a;subst a;exact .inl ⟨s,g.str_inv,rfl,rfl⟩
 .rename_i i ver off d cap es;obtain⟨b,o,c,rfl,t,f,j⟩:=aQ5 (n:=d) h g (by cases g;assumption);split at a
  .rename_i v' lo cs hs;split at a;.rename_i hvv;subst hvv;obtain⟨h3,k⟩:=f lo cs xs hs a;exact .inr (.inr ⟨b,o,d,c,rfl,k,rfl,by omega⟩)
   .simp at a
  .rename_i v' cs hs;split at a;.rename_i hvv;subst hvv;simp only[G_]at a;obtain⟨ys,q,rfl⟩:=a;obtain⟨h3,k⟩:=j cs ys hs q;exact .inr (.inr ⟨b,o,d,c,rfl,k.at,rfl,by omega⟩)
   .simp at a
  .simp at a
 .simp at a
theorem fO(h:MS P O K M J L S env w){x:TV}{v:Value}(d:VR M J L x v){xs:Tn_}(C:dU S x=some xs){m:Nat}(f:lenOf S x=some m){es:Nat}(p:xs.length=m*es){n:Nat}(E:n<=m): (Builtin.lenOf v).run P w=.ok m w/\∃vs,VRs M J [] (xs.take (n*es)) vs/\(Builtin.firstCells es n v).run P w=.ok vs.toArray w:=by
 rcases aMz h d C with⟨s,rfl,rfl,l⟩|⟨A,rfl,rfl,l⟩|⟨b,o,a,c,rfl,r,l,D⟩
 .obtain rfl:s.length=m:=by rw[l]at f;simpa using f
  simp at p;refine⟨by simp[Builtin.lenOf,oS],(s.take n).map (fun b=>Value.int .u8 b.toNat),⟨?_,?_⟩,?_⟩
  .have:n*es=n\/(n=0):=by
    rcases U3 s.length with g|g;.exact .inr A_
    .left;have:es=1:=by have:s.length*1=s.length*es:=A_;exact(Nat.eq_of_mul_eq_mul_left g this).symm
     subst this;omega
   rcases this with g|g;.rw[g];simp
   .subst g;simp
  .intro i x u d k;simp only[D9,p_]at d k;split at d
   .split at k;.simp only[G_]at d k;obtain⟨b,z,rfl⟩:=d;obtain⟨F,e,rfl⟩:=k;rw[z]at e;simp at e;subst e;exact .iv _ (.int _ _)
    .simp at k
   .simp at d
  .simp only[Builtin.firstCells,Sem.run_pure];congr 1;have:(⟨s.toArray⟩:ByteArray).extract 0 n=⟨(s.take n).toArray⟩:=by have:=aD4 s 0 n;simpa using this
   rw[this];apply N0;simp
 .obtain rfl:0=m:=by rw[l]at f;simpa using f
  obtain rfl:n=0:=A_;refine⟨by simp[Builtin.lenOf],[],?_,by cases A<;>simp[Builtin.firstCells,loadCells,loadCellsFrom]⟩;simpa using VRs.nil
 .obtain rfl:a=m:=by rw[l]at f;simpa using f
  obtain⟨vs,t,y⟩:=r.vals;refine⟨by simp[Builtin.lenOf],vs.take (n*es),t.take _,?_⟩;refine run_firstCells_some (P:=P) w es n ⟨b,o,none⟩ a c (vs.take (n*es)) ?_ fun j u q=>?_;.rw[K0,t.1,p];have:n*es<=a*es:=D4 _ E;omega
  .rw[iW];rw[D9]at q;split at q;.exact y j u q
   .simp at q
theorem aA1(h:MS P O K M J L S env w){x:TV}{v:Value}(m:VR M J L x v){l:Tp_}(a:cH S x=some l):(∃p,v=.slice p 0 0/\l=[]) \/∃b o c es,v=.slice (some ⟨b,o,none⟩) l.length c/\l.length<=c/\(∀c∈l,c.length=es)/\AtI w M b o (bC l):=by
 unfold cH at a;split at a
 .simp at a;subst a;rcases m.iv_inv.sl_at h.wr.imm with⟨rfl,rfl,_⟩|⟨b,o,c,es,rfl,k,g,h3,_⟩|⟨r,rfl,rfl,_⟩;case inr.inr=>exact .inl ⟨_,rfl,rfl⟩
  .exact .inl ⟨_,rfl,rfl⟩
  .exact .inr ⟨b,o,c,es,rfl,k,g,h3⟩
 .simp at a;subst a;cases m with
  |tsl L i es l b o c hJ hl hv ha hr =>
   rcases hr.sl_at h.wr.imm with⟨f,_,_⟩|⟨u,o',c',es',f,k,g,h3,_⟩|⟨r,f,s,_⟩;case inr.inr=>subst s;simp at f;obtain⟨rfl,rfl⟩:=f;exact .inl ⟨_,rfl,rfl⟩
   .simp at f
   .simp at f;obtain⟨⟨rfl,rfl⟩,rfl⟩:=f;exact .inr ⟨b,o,c,es',rfl,k,g,h3⟩
 .rename_i i ver off len cap es;obtain⟨b,o,c,rfl,t,k,g⟩:=aQ5 (n:=len) h m (by cases m;assumption);split at a
  .rename_i v' lo cs hs;split at a;.simp at a
   .rename_i e;have e:v'=ver:=A_;subst e;split at a
    .rename_i xs hsub;simp only[G_]at a;obtain⟨ys,j,rfl⟩:=a;obtain⟨h3,q⟩:=k lo cs xs hs hsub;have d:ys.length=len*es:=by rw[(iK j).1,(iF hsub).2.2]
     refine .inr ⟨b,o,c,es,by rw[gB],by rw[gB];omega,rF es len ys A_,?_⟩;rw[oU es len ys d];exact bE1 j q
    .simp at a
  .rename_i v' cs hs;split at a;.simp at a
   .rename_i e;have e:v'=ver:=A_;subst e;simp only[G_]at a;obtain⟨ys,j,rfl⟩:=a;obtain⟨h3,q⟩:=g cs ys hs j;have d:ys.length=len*es:=(iF j).2.2;refine .inr ⟨b,o,c,es,by rw[gB],by rw[gB];omega,rF es len ys A_,?_⟩;rw[oU es len ys d];exact q
  .simp at a
 .simp at a
theorem bE2{i:Nat}{l:Loc}(h:WR P O M J S w)(c:J.at i l){es:Tr_}{a:Nat}(b:S[i]?=some (.mp es a)):∃es',w.heap[l.cb]?=some (.map es' a)/\es'.size=es.length /\(∀(k:Nat) (x:Nat×IV×TV) (y:MapEntry),es[k]?=some x->es'[k]?=some y->y.born=x.1/\IR M x.2.1 y.key/\VR M J [] x.2.2 y.val)/\l.loose=false:=by
 have:=h.blk i l _ c b;cases this with
 |mp es a es' c hb b hv=>exact⟨es',hb,b,hv,c⟩
theorem cM{r:Nat}{a:Obj}(h:w.heap[r]?=some a)(b:∀c e f,a≠.cells c e f):(getObj r).run P w=.ok a w:=by cases a<;>simp_all[getObj,Sem.run]
theorem bMj(h:MS P O K M J L S env w){x:TV}{v:Value}(g:VR M J L x v){n:Nat}(a:lenOf S x=some n){t ty:TypeId} (d:match zM x with | .str=>P.underlying t=some .string | .sl=>∃e,P.underlying t=some (.slice e) | .mp=>∃k e,P.underlying t=some (.map k e)):(Builtin.len_ #[t] ty #[v]).run P w=.ok (.int .i64 n) w:=by
 unfold lenOf at a;split at a;.simp at a;subst a;simp only[zM]at d;rw[g.str_inv];simp[Builtin.len_,und d,goInt,oS]
 .simp at a;subst a;simp only[zM]at d;obtain⟨e,f⟩:=d;rcases g.iv_inv.sl_at h.wr.imm with⟨rfl,rfl,_⟩|⟨b,o,c,es,rfl,_⟩|⟨p,rfl,rfl,_⟩<;>simp[Builtin.len_,und f,goInt]
 .simp at a;subst a;simp only[zM]at d;obtain⟨e,f⟩:=d;cases g with
  |tsl L i es l b o c hJ hl hv ha hr=>simp[Builtin.len_,und f,goInt]
 .simp at a;subst a;simp only[zM]at d;obtain⟨e,f⟩:=d;cases g with
  |msl L i ver off len cap es l b o c hJ hv ha hl hlc=>simp[Builtin.len_,und f,goInt]
 .simp at a;subst a;simp only[zM]at d;obtain⟨k,e,f⟩:=d;cases g.iv_inv
  simp[Builtin.len_,und f,goInt]
 .split at a
  .rename_i es cl hs;simp at a;subst a;simp only[zM]at d;obtain⟨k,e,f⟩:=d;cases g with
   |map L i l hJ hlo =>obtain⟨es',m,j,_⟩:=bE2 h.wr hJ hs;simp[Builtin.len_,und f,goInt,cM m,j]
  .simp at a
 .simp at a
theorem bMk{x:TV}{v:Value}(h:VR M J L x v){n:Nat}(d:aAu x=some n){t ty e:TypeId}(f:P.underlying t=some (.slice e)):(Builtin.cap_ #[t] ty #[v]).run P w=.ok (.int .i64 n) w:=by
 unfold aAu at d;split at d
 .simp at d;subst d;rcases h.iv_inv.sl_any with⟨_,rfl,rfl⟩|⟨b,off,cap,es,vals,rfl,a,_⟩|⟨i,rfl,rfl,a⟩;.simp[Builtin.cap_,und f,goInt]
  .exact absurd rfl a
  .exact absurd rfl a
 .simp at d;subst d;rcases h.iv_inv.sl_any with⟨k,_⟩|⟨b,off,cap,es,vals,rfl,a,j,g,c,_⟩|⟨i,rfl,rfl,a⟩;.simp at k
  .simp[Builtin.cap_,und f,goInt,c rfl]
  .simp[Builtin.cap_,und f,goInt]
 .simp at d
theorem wO(d:Bool):∀ {xs:Tn_} {vs:List Value} {a:IV} {v:Value} {r:IV},minmax d a xs=some r->IR M a v->VRs M J L xs vs ->∃u,(vs.foldlM (if d then Builtin.max2 else Builtin.min2) v).run P w=.ok u w/\IR M r u
 |[],vs,a,v,r,h,ha,hv=>by rw[hv.nil_inv];simp[minmax]at h;subst h;exact⟨v,by simp,ha⟩
 |x::xs,vs,a,v,r,h,ha,hv=>by
  obtain⟨u,us,rfl,e,g⟩:=hv.cons_inv;cases x with
  |iv b =>
   simp only[minmax]at h;split at h
   .rename_i c hc;unfold min2 at hc;split at hc
    .split at hc
     .rename_i hk;subst hk;simp at hc;subst hc;cases ha
      cases e.iv_inv
      obtain⟨z,h3,f⟩:=wO d h (.int _ _) g;refine⟨z,?_,f⟩;rw[<-h3];cases d<;>simp[Builtin.min2,Builtin.max2]
     .simp at hc
    .simp at hc
   .simp at h
  |_=>simp[minmax]at h
theorem aM0{o:Oper}{t:TypeId}{x:Operand}(j:o.op=.load t x){n:Nat}{k:Bool}(g:isAgg? P t=some k)(s:sizeOf? P t=some n)(a:Act)(h:MS P O K M J L S env w){e r:TV}(z:VR M J L e (a.eval x)) {cs:Tn_} (l:bP env S e (if k then n else 1)=some cs) (f:gL k cs=some r) {top:TOp} (d:aP top=none):cK P O K top M J L S env w (execOp a.eval o) r env S:=by
 obtain⟨b,off,vs,q,i,m,p⟩:=xU h l z;cases k with
 |true =>simp[gL]at f;subst f;simp only[N8]at m l;refine .pure d h (v':=.agg vs.toArray) ?_ (xT i);have:=oA (P:=P) b off vs p;rw[m]at this;simp[execOp,j,q,Go.Instr.loadAt,Go.Instr.sureAddr,loadVar,isAgg?_run g,run_size? s,this]
 |false =>
  simp only[gL,b_,J3]at f m l;split at f;.rename_i c;simp at f;subst f;obtain⟨u,us,rfl,y,A⟩:=i.cons_inv;refine .pure d h (v':=u) ?_ y.ofNil;have:=p 0 u rfl;simp at this;simp[execOp,j,q,Go.Instr.loadAt,Go.Instr.sureAddr,loadVar,isAgg?_run g,run_load,this]
  .simp at f
theorem xZ:∀ {l:Tp_} {b:List UInt8},oR l=some b->∃ns:List Int,bC l=ns.map (IV.int .u8)/\b=ns.map (fun n=>UInt8.ofNat n.toNat)/\ns.length=l.length
 |[],b,h=>by simp[oR]at h;subst h;exact⟨[],rfl,rfl,rfl⟩
 |c::r,b,h=>by
  simp only[oR]at h;split at h
  .rename_i b1 l1 h1 h2;simp at h;subst h;obtain⟨ns,a,e2,e3⟩:=xZ h2;unfold bEv at h1;split at h1;.rename_i n;simp at h1;subst h1;exact⟨n::ns,by simp[bC,a],by simp[e2],by simp[e3]⟩
   .simp at h1
  .simp at h
theorem aD5:∀(ns:Ta_) (acc:List UInt8),(ns.foldl (fun r n=>r.push (UInt8.ofNat n.toNat)) (⟨acc.toArray⟩:ByteArray))=⟨(acc++ns.map (fun n=>UInt8.ofNat n.toNat)).toArray⟩
 |[],acc=>B_
 |n::ns,acc=>by
  simp only[List.foldl_cons];have:(⟨acc.toArray⟩:ByteArray).push (UInt8.ofNat n.toNat)=⟨(acc++[UInt8.ofNat n.toNat]).toArray⟩:=by apply Z3;simp
  rw[this,aD5 ns];simp
theorem aKd{o:Oper}{s d e:TypeId}{x:Operand}(k:o.op=.convert s d x)(z:P.underlying s=some (.slice e))(t:P.underlying d=some .string)(A:P.underlying e=some (.int .u8))(a:Act)(h:MS P O K M J L S env w) {ex:TV} (Q:VR M J L ex (a.eval x)) {l:Tp_} (H:cH S ex=some l) {b:List UInt8} (y:oR l=some b) {top:TOp} (g:aP top=none): cK P O K top M J L S env w (execOp a.eval o) (.iv (.str b)) env S:=by
 rcases aA1 h Q H with⟨G,r,rfl⟩|⟨j,off,c,es,r,I,E,C⟩
 .simp[oR]at y;subst y;refine .pure g h (v':=.string ⟨([]:List UInt8).toArray⟩) ?_ (.iv _ (.str _));cases G with
  |none=>simp only[execOp,k,r,Sem.run_bind,run_convert_bytes_string w s d e none 0 0 z A t];rfl
  |some a0=>simp only[execOp,k,r,Sem.run_bind,run_convert_bytes_string w s d e (some a0) 0 0 z A t];rfl
 .obtain⟨ns,R,rfl,e3⟩:=xZ y;refine .pure g h (v':=.string _) ?_ (.iv _ (.str _));have f:(loadCells ⟨j,off,none⟩ l.length).run P w=.ok (ns.map (Value.int .u8)).toArray w:=by
   have:=oA (P:=P) (w:=w) j off (ns.map (Value.int .u8)) (fun i v q=>by
    simp only[p_,G_]at q;obtain⟨n,N,rfl⟩:=q;obtain⟨u,F,D⟩:=C i (.int .u8 n) (by rw[R];simp[N]);cases D
    exact F)
   simpa[e3] using this
  have:=run_bytesToString (P:=P) w ⟨j,off,none⟩ l.length c ns f;have m:=aD5 ns [];simp only[List.nil_append]at m;have p:(⟨([]:List UInt8).toArray⟩:ByteArray)=ByteArray.empty:=rfl;rw[p]at m;rw[m]at this;simp only[execOp,k,r,Sem.run_bind,run_convert_bytes_string w s d e _ _ _ z A t,this];rfl
def bMl(P:Program)(t:TypeId):SK->Prop
 |.str=>P.underlying t=some .string
 |.sl n=>∃el,P.underlying t=some (.slice el)/\sizeOf? P el=some n
 |.arr n k=>(∃el,P.underlying t=some (.array n el)/\sizeOf? P el=some k)\/∃a el,P.underlying t=some (.pointer a)/\P.underlying a=some (.array n el)/\sizeOf? P el=some k
theorem vQ{t:TypeId}{n k:Nat}(j:(∃el,P.underlying t=some (.array n el)/\sizeOf? P el=some k)\/∃a el,P.underlying t=some (.pointer a)/\P.underlying a=some (.array n el)/\sizeOf? P el=some k) {b o l h m:Nat} {lv f i:Option Value} (g:(Instr.sliceBounds false n n lv f i).run P w=.ok (l,h,m) w): (Instr.sliceAt t (.pointer (some ⟨b,o,none⟩)) lv f i).run P w=.ok (.slice (some ⟨b,if m=l then o else o+l*k,none⟩) (h-l) (m-l)) w:=by
 have c:(if m=l then(⟨b,o,none⟩:Addr)else⟨b,o+l*k,none⟩)=⟨b,if m=l then o else o+l*k,none⟩:=by split<;>rfl
 rcases j with⟨el,e,d⟩|⟨a,el,e,d,h3⟩;.simp[Instr.sliceAt,und e,Instr.sureAddr,g,run_size? d,iW,c]
 .simp[Instr.sliceAt,und e,Instr.slice,asAddr,und d,g,run_size? h3,iW,c]
theorem bE3(h:WR P O M J S w){b v:Nat}{l:Loc}(c:J.at b l)(a:rU S b v=true):v=l.ver:=by
 unfold rU at a;split at a
 .rename_i v' lo cs hs;have:=h.blk b l _ c hs;cases this
  exact(by simpa using a:l.ver=v).symm
 .rename_i v' cs hs;have:=h.blk b l _ c hs;cases this
  exact(by simpa using a:l.ver=v).symm
 .simp at a
theorem bE4(h:MS P O K M J L S env w){t:TypeId}{k:SK}(f:bMl P t k){x r:TV}{v:Value}(g:VR M J L x v){lo hi D:Option Int}(d:fQ S k x lo hi D=some r){lv V mv:Option Value}(I:OI lo lv)(H:OI hi V) (h3:OI D mv):∃u,(Instr.sliceAt t v lv V mv).run P w=.ok u w/\VR M J L r u:=by
 have F:∀ {el:TypeId} (_:P.underlying t=some (.slice el)) (v:Value),(Instr.sliceAt t v lv V mv).run P w=(Instr.slice t v lv V mv).run P w:=by intro el he v;simp[Instr.sliceAt,und he]
 unfold fQ at d;split at d
 .rename_i s;simp only[bMl]at f;split at d;.simp at d
  .split at d
   .rename_i a b m E;simp at d;subst d;obtain⟨p,_⟩:=gA (P:=P) (w:=w) (isS:=false) E (O_ _) I H h3;have h7:mv=none:=by unfold OI at h3;split at h3<;>simp_all
    subst h7;simp at p;refine⟨.string ⟨((s.drop a).take (b-a)).toArray⟩,?_,.iv _ (.str _)⟩;rw[g.str_inv];simp[Instr.sliceAt,und f,Instr.slice,oS,p,aD4]
   .simp at d
 .rename_i es tg l;obtain⟨el,f,N⟩:=f;split at d;.rename_i hf;simp only[G_]at d;obtain⟨r',y,rfl⟩:=d;obtain⟨u,p,e2⟩:=aA0 (P:=P) (w:=w) g.iv_inv hf y f N I H h3;exact⟨u,by rw[F f];exact p,.iv _ e2⟩
  .simp at d
 .rename_i es i l n;obtain⟨el,f,N⟩:=f;split at d
  .rename_i G;obtain⟨rfl,rfl,rfl⟩:=G;simp at d;subst d;cases g with
   |rsv L i es n loc b o c hJ hl hv' ha G y =>
    have E:fN (l.length+n) c none (some (l.length:Int)) none=some (0,l.length,c):=by have:(l.length:Int)<=c:=A_;simp[fN,pY,this]
    obtain⟨p,_⟩:=gA (P:=P) (w:=w) (isS:=true) E (O_ _) I H h3;simp at p;refine⟨.slice (some ⟨b,o,none⟩) l.length c,?_,.tsl _ _ _ loc b o c hJ hl hv' ha y⟩;rw[F f];simp[Instr.slice,und f,p,run_size? N,iW]
  .simp at d
 .rename_i es i l;obtain⟨el,f,N⟩:=f;split at d
  .rename_i hf;simp only[G_]at d;obtain⟨r',y,rfl⟩:=d;cases g with
   |tsl L i es l b o c hJ hl hv' ha hrr =>obtain⟨u,p,e2⟩:=aA0 (P:=P) (w:=w) hrr hf y f N I H h3;exact⟨u,by rw[F f];exact p,.iv _ e2⟩
  .simp at d
 .rename_i es b0 v0 off len cap e;obtain⟨el,f,N⟩:=f;split at d;.simp at d
  rename_i A;rw[H2]at A;obtain⟨A,C⟩:=A;have A:e=es:=A_;subst A;have C:rU S b0 v0=true:=by simpa using C
  split at d
  .rename_i l h' m E;simp at d;subst d;cases g with
   |msl L i ver off len cap es loc b o c hJ hv' ha hl hlc =>
    rw[F f];obtain⟨a1,a2,a3,a4,a5⟩:=ha (bE3 h.wr hJ C);obtain⟨p,e2,e3,e4,Y,e6⟩:=gA (P:=P) (w:=w) (isS:=true) E a3 I H h3;have Z:=Y (.inr hl);refine⟨.slice (some ⟨b,if(if D=none then c else m)=l then o else o+l*e,none⟩) (h'-l) ((if D=none then c else m)-l),?_,.msl _ _ _ _ _ _ _ loc b _ _ hJ hv' (fun V=>⟨a1,fun h9=>?_,?_,fun U=>?_,?_⟩) A_ ?_⟩;.simp only[Instr.slice,Sem.run_bind,und f,Result.andThen_ok,p,run_size? N];simp only[Sem.run_pure,Option.map_some,iW];generalize (if D=none then c else m)=q;split<;>rfl
    .have Q:m≠l:=A_;have h6:cap≠0:=A_;have z:(if D=none then c else m)≠l:=by
      split;.rename_i hx';have:=e3 hx';omega
      .exact Q
     rw[I_ z,I_ Q,a2 h6];omega
    .split;.rename_i hx';have:=e3 hx';omega
     .exact O_ _
    .split;.rename_i hx';have:=e3 hx';have:=a4 U;omega
     .rfl
    .have R:(if D=none then c else m)<=c:=by split<;>omega
     have T:l<=(if D=none then c else m):=by
      split;.rename_i hx';have:=e3 hx';omega
      .omega
     generalize (if D=none then c else m)=q at R T;have h4:q*e<=c*e:=D4 _ R;split;.rename_i hq;subst hq;simp;omega
     .have:l*e+(q-l)*e=q*e:=by rw[<-E2];congr 1;omega
      omega
    .split;.rename_i hx';have:=e3 hx';omega
     .omega
  .simp at d
 .rename_i n e;simp only[bMl]at f;split at d
  .rename_i b0 v0 off;split at d
   .rename_i v' lo' cs hs;split at d
    .rename_i G;obtain⟨rfl,h8⟩:=G;split at d
     .rename_i l h' m E;simp at d;subst d;cases g with
      |ptr L i ver off loc b o hJ hv' ha =>
       have h0:=h.wr.blk b0 loc _ hJ hs;cases h0 with
       |cells loose cs cs' ee fz U hbb hsz hfit' hvals hfz hm =>
        obtain⟨rfl,rfl⟩:=ha rfl;obtain⟨p,e2,e3,e4,Y,e6⟩:=gA (P:=P) (w:=w) (isS:=false) E (O_ _) I H h3;have z:(if D=none then n else m)=m:=by
         split;.rename_i hx';exact(e3 hx').symm
         .rfl
        rw[z]at p;have Z:=Y (.inr (O_ _));refine⟨_,vQ f p,.msl _ _ _ _ _ _ _ loc _ _ _ hJ hv' (fun _=>⟨rfl,fun _=>by split<;>omega,O_ _,fun _=>rfl,?_⟩) A_ A_⟩;have h4:m*e<=n*e:=D4 _ e2;split;.rename_i hq;subst hq;simp;omega
        .have:l*e+(m-l)*e=m*e:=by rw[<-E2];congr 1;omega
         omega
     .simp at d
    .simp at d
   .simp at d
  .rename_i cs;split at d;.simp at d
   rename_i hlen;split at d
   .rename_i l h' m E;simp at d;subst d;obtain⟨p,e2,e3,e4,Y,e6⟩:=gA (P:=P) (w:=w) (isS:=false) E (O_ _) I H h3;have z:(if D=none then n else m)=m:=by
     split;.rename_i hx';exact(e3 hx').symm
     .rfl
    rw[z]at p;have Z:=Y (.inr (O_ _));have h5:=g.iv_inv;cases h5 with
    |cp cs b off vals hm hvv =>
     refine⟨_,vQ f p,.iv _ ?_⟩;have W:=rF e n cs A_;have T:=gB e n cs;refine aCn (es:=e) (es':=e) (off:=off) (vals:=fun i j=>vals (i*e+j)) W (bMi W) (fun i c j x G g=>?_) (fun i c j x G g=>?_) (by split<;>simp) e4 A_ A_ (fun q=>?_) (fun q=>I_ A_)
     .obtain⟨q1,rfl⟩:=rC e n cs A_ i c G;rw[D9]at g;split at g;.rw[G3];exact hm _ _ (by simpa using g)
      .simp at g
     .obtain⟨q1,rfl⟩:=rC e n cs A_ i c G;rw[D9]at g;split at g;.exact hvv _ _ (by simpa using g)
      .simp at g
     .split at q;.rename_i hq;rw[hq]
      .simp at q
   .simp at d
  .simp at d
 .simp at d
theorem cK.mk0{top:TOp}(e:aP top=none){M':Mem}{J':aF}{w':World}{s:Sem Next}{v:TV}{r:Next}(a:s.run P w=.ok r w')(d:bP0 M' J' L r v)(c:MS P O K M' J' L S' env' w') (f:Tr (cS L) M J S w M' J' S' w') (b:uX env env'):cK P O K top M J L S env w s v env' S' :=
 ⟨M',J',L,w',r,a,d,c,f,by rw[e];exact⟨rfl,b⟩⟩
theorem aX9{o:Oper}{t:TypeId}{x y:Operand}(j:o.op=.store t x y){n:Nat}(v:sizeOf? P t=some n)(a:Act)(h:MS P O K M J L S env w){m e2:TV}(z:VR M J L m (a.eval x))(u:VR M J L e2 (a.eval y)) (p:(cellsOf e2).length=n) (f:setCells env S m (cellsOf e2)=some (env',S')) {top:TOp} (c:aP top=none):cK P O K top M J L S env w (execOp a.eval o) undef env' S':=by
 have e:(cellsOf e2).any bJ=false:=by
  unfold setCells at f;split at f;.simp at f
  .rename_i q;simpa using q
 have l:=tA u e;obtain⟨b,off,w',s,d,k,A,g⟩:=nK h f z l;refine .mk0 c (r:=.skip) ?_ (.inr ⟨rfl,rfl⟩) k A g;have i:(a.eval y).cells.size=n:=by rw[<-p];simpa using l.1
 simp[execOp,j,s,Go.Instr.storeAt,Go.Instr.sureAddr,storeVar,run_size? v,i,d]
theorem iC{t:TypeId}{z:Tq_}(h:eX P t=some z):∃i a,P.info? t=some i/\i.zero=some a/\i.size=z.length/\a.cells.size=z.length/\(∀w,(zeroValue t).run P w=.ok a w) /\∀(M:Mem) (k:Nat) (x:IV) (u:Value),z[k]?=some x->a.cells[k]?=some u->IR M x u:=by
 unfold eX at h;split at h
 .rename_i i hi;split at h
  .rename_i a hz;split at h
   .rename_i hs;have e:=(xV (M:=fun _ _=>none) h).1;have b:a.cells.size=z.length:=by simpa using e.symm
    refine⟨i,a,hi,hz,by omega,b,fun w=>?_,fun M k x u d c=>(xV (M:=M) h).2 k x u d (by simpa using c)⟩;simp[zeroValue,typeInfo,hi,hz]
   .simp at h
  .simp at h
 .simp at h
theorem aQ6{v:Value}{a:IV}(h:aHe v=some a):bJ (.iv a)=false:=by unfold aHe at h;split at h<;>simp at h<;>subst h<;>rfl
theorem aD6:∀ {vs:List Value} {l:Tq_},xR vs=some l->(l.map TV.iv).any bJ=false
 |[],l,h=>by simp[xR]at h;subst h;rfl
 |v::r,l,h=>by
  simp only[xR]at h;split at h;.rename_i a l' h1 h2;simp at h;subst h;have:=aD6 h2;simp[aQ6 h1]at this |-;exact this
  .simp at h
theorem aM1{t:TypeId}{z:Tq_}(h:eX P t=some z):(z.map TV.iv).any bJ=false:=by
 unfold eX at h;split at h
 .split at h
  .split at h;.exact aD6 h
   .simp at h
  .simp at h
 .simp at h
theorem aD7{z:Tq_}{a:Value}(b:a.cells.size=z.length)(e:∀(M:Mem) (k:Nat) (x:IV) (u:Value),z[k]?=some x->a.cells[k]?=some u->IR M x u):VRs M J L (z.map .iv) a.cells.toList :=
 .ofIVs (by simpa using b) fun i x u c d=>e M i x u c (by simpa using d)
theorem MS.step'{M':Mem}{J':aF}{w':World}(h:MS P O K M J L S env w)(b:WR P O M' J' S' w')(t:Tr (fun _=>False) M J S w M' J' S' w'): MS P O K M' J' L S' env w'/\Tr (cS L) M J S w M' J' S' w' :=
 ⟨h.step b t (fun _ _ a=>a),t.weaken (fun _ a=>a.elim)⟩
theorem aQ7(h:MS P O K M J L S env w){xs:Tn_}{cs:Array Value}(e:TypeId)(g:xs.length<=cs.size)(i:∀(k:Nat) (x:TV),xs[k]?=some x->∃u,cs[k]?=some u/\VR M J [] x u)(loose:Bool)(cap es:Nat): let l:Loc:={cb:=w.heap.size,d:=0,ver:=0,cap:=cap,es:=es,size:=cs.size,loose:=loose}
  MS P O K M (J++[some l]) L (S++[.cells 0 loose xs]) env (w.alloc (.cells cs e))/\Tr (cS L) M J S w M (J++[some l]) (S++[.cells 0 loose xs]) (w.alloc (.cells cs e)) /\
   aF.at (J++[some l]) S.length l:=by
 intro l;have f:M.ext w.heap.size (fun _=>none)=M:=tB h.wr.none_at;have c:=h.wr.push (fun _=>False) (.cells cs e) (fun _=>none) l (.cells l.ver loose xs) rfl (fun o v n=>by simp at n) (by
  rw[f];refine .cells loose xs cs e (0,0) rfl (dA w _) rfl (by show 0+xs.length<=cs.size;omega) (fun k x p=>?_) (fun o r=>?_) (fun o=>h.wr.none_at o) (fun _ q=>absurd rfl q);.obtain⟨u,m,j⟩:=i k x p;exact⟨u,by show cs[0+k]?=_;rw[A7];exact m,j.mono (.refl _) (.push _ _)⟩
  .exact World.frozen?_alloc_new w cs e o)
 rw[f]at c;obtain⟨a,b⟩:=h.step' c.1 c.2;refine⟨a,b,?_⟩;unfold aF.at
 rw[<-h.wr.len];simp
theorem VRs.ex{xs:Tn_}{cs:Array Value}(d:VRs M J [] xs cs.toList):xs.length<=cs.size/\∀(k:Nat) (x:TV),xs[k]?=some x->∃u,cs[k]?=some u/\VR M J [] x u:=by
 have b:cs.size=xs.length:=by simpa using d.1
 refine⟨by omega,fun k x c=>?_⟩;have a:k<cs.size:=by rw[b];exact(E_.1 c).1
 exact⟨cs[k],A8 a,d.2 k x _ c (by simp[a])⟩
theorem wP{α:Type}{l:List α}{i j:Nat}{x:α}(h:j≠i):(l.set i x)[j]?=l[j]? := by rw[B3 A_]
theorem aD8(h:MS P O K M J L S env w){xs:Tn_}{cs:Array Value}(e:TypeId)(I:VRs M J [] xs cs.toList){j:Nat}(C:j<env.length){top:TOp}(g:aP top=some j){s:Sem Next} (p:s.run P w=.ok (.value (.pointer (some ⟨w.heap.size,0,none⟩))) (w.alloc (.cells cs e))):cK P O K top M J L S env w s (.lp j 0) (env.set j (.lb xs)) S:=by
 have E:M.ext w.heap.size (fun _=>none)=M:=tB h.wr.none_at;have x:=h.wr.alloc (fun _=>False) (.cells cs e) (fun _=>none) (fun o v z=>by simp at z);rw[E]at x;obtain⟨a,b⟩:=h.step' x.1 x.2;have u:j<L.length:=by rw[h.lb.len];exact C
 have t:(L.set j (some w.heap.size))[j]?=some (some w.heap.size):=C7 u;have y:¬J.has w.heap.size:=fun q=>absurd (h.wr.has_lt q) A_;refine⟨M,J,L.set j (some w.heap.size),w.alloc (.cells cs e),_,p,.inl ⟨_,rfl,.lp _ _ _ _ t⟩,⟨a.wr,⟨by simp[h.lb.len],fun k ys f=>?_,fun k k' ys A cb f n r c=>?_⟩,h.gl⟩,b,?_⟩
 .by_cases hkj:k=j;.subst hkj;rw[C7 C]at f;simp at f;subst f;exact⟨_,t,y,h.wr.none_at,cs,e,(0,0),dA w _,I,fun o _=>World.frozen?_alloc_new w cs e o⟩
  .rw[wP hkj]at f;obtain⟨cb,l,i⟩:=a.lb.box k ys f;exact⟨cb,by rw[wP hkj];exact l,i⟩
 .have d:∀ {m:Nat} {ys:Tn_} {cb:Nat},m≠j->(env.set j (TV.lb xs))[m]?=some (TV.lb ys)->(L.set j (some w.heap.size))[m]?=some (some cb)->env[m]?=some (TV.lb ys)/\L[m]?=some (some cb)/\cb<w.heap.size:=by intro m ys cb z l i;rw[wP z]at l i;obtain⟨F,h3,D⟩:=h.lb.box m ys l;rw[i]at h3;simp at h3;subst h3;exact⟨l,i,D.lt⟩
  by_cases hkj:k=j
  .by_cases hkj':k'=j;.omega
   .subst hkj;obtain⟨_,_,q⟩:=d hkj' n c;rw[t]at r;simp at r;omega
  .by_cases hkj':k'=j;.subst hkj';obtain⟨_,_,q⟩:=d hkj f r;rw[t]at c;simp at c;omega
   .obtain⟨G,p2,_⟩:=d hkj f r;obtain⟨N,H,_⟩:=d hkj' n c;exact h.lb.inj k k' ys A cb G N p2 H
 .rw[g];exact⟨xs,w.heap.size,rfl,rfl,O_ _⟩
theorem aHi{o:Oper}{t:TypeId}(b:o.op=.alloc t){c:Value}(d:∀w,(zeroValue t).run P w=.ok c w)(a:Act): (execOp a.eval o).run P w=.ok (.value (.pointer (some ⟨w.heap.size,0,none⟩))) (w.alloc (.cells c.cells t)):=by simp[execOp,b,Go.Instr.alloc,d,newVar,newRow]
theorem aVs{o:Oper}{t:TypeId}{x:Operand}(b:o.op=.box t x)(a:Act): (execOp a.eval o).run P w=.ok (.value (.pointer (some ⟨w.heap.size,0,none⟩))) (w.alloc (.cells (a.eval x).cells t)):=by simp[execOp,b,Go.Instr.box,newVar,newRow]
theorem aD9{n bytes:Nat}(h:eA n bytes=true):n*bytes<=35184372088832/\bytes<=1048576/\n<=35184372088832:=by unfold eA at h;simp at h;exact⟨h.1.1,h.1.2,h.2⟩
theorem aF8{z:Array Value}{n k:Nat}(a:k<n):(madeCells z n)[k]?=some (z[k % z.size]!):=by simp[madeCells,a]
theorem kR{z:Tq_}{n k:Nat}{x:TV}(h:(bC (List.replicate n (z.map TV.iv)))[k]?=some x):k<n*z.length/\∃y,z[k % z.length]?=some y/\x=.iv y:=by
 obtain⟨i,c,j,b,d,h3⟩:=xX (es:=z.length) (fun c g=>by rw[K1 g];simp) h;have a:i<n:=by have:=(E_.1 b).1;simpa using this
 rw[I7]at b;simp[a]at b;subst b;simp only[p_,G_]at d;obtain⟨y,e,rfl⟩:=d;have f:=(E_.1 e).1;have:(i+1)*z.length<=n*z.length:=D4 _ a;rw[E2]at this;refine⟨by omega,y,?_,rfl⟩;rw[h3,Nat.mul_comm,Nat.mul_add_mod,Nat.mod_eq_of_lt f];exact e
theorem aKe{z:Tq_}{a:Array Value}(c:a.size=z.length)(e:∀(k:Nat) (x:IV) (u:Value),z[k]?=some x->a[k]?=some u->IR M x u){k:Nat}{y:IV}(d:z[k % z.length]?=some y):IR M y (a[k % a.size]!):=by
 have b:k % z.length<a.size:=by rw[c];exact(E_.1 d).1
 rw[c,getElem!_pos a _ b];exact e _ y _ d (A8 b)
theorem zS{J:aF}{i:Nat}{l':Loc}(b:i<J.length){k:Nat}{a:Loc}(h:aF.at (J.set i (some l')) k a):(k=i/\a=l')\/(k≠i/\J.at k a):=by
 unfold aF.at at h |-;by_cases hk:k=i;.subst hk;rw[C7 b]at h;simp at h;exact .inl ⟨rfl,h.symm⟩
 .rw[B3 A_]at h;exact .inr ⟨hk,h⟩
theorem gY{J:aF}{i:Nat}{l':Loc}(a:i<J.length):aF.at (J.set i (some l')) i l':=by
 unfold aF.at
 rw[C7 a]
theorem WR.turn(h:WR P O M J S w){i:Nat}{l l':Loc}(g:J.at i l)(I:l.loose=true)(y:l'.loose=true)(z:l.ver<l'.ver){M':Mem}{w':World}{s':aG}(T:MLe M M')(r:∀b o,b≠l'.cb->M' b o=M b o) (t:∀b,b≠l'.cb->b<w.heap.size->w'.heap[b]?=w.heap[b]?) (Q:w.heap.size<=w'.heap.size) (G:l'.cb<w'.heap.size) (m:l'.cb=l.cb\/w.heap.size<=l'.cb) (C:∀o v,M' l'.cb o=some v->w'.cell? ⟨l'.cb,o,none⟩=some v) (p:w'.os=w.os/\w'.tape=w.tape/\w'.output=w.output) (H:BR P O M' (J.set i (some l')) w' l' s'): WR P O M' (J.set i (some l')) (S.set i s') w'/\Tr (fun _=>False) M J S w M' (J.set i (some l')) (S.set i s') w':=by
 have q:i<J.length:=(E_.1 g).1;have U:JLe J (J.set i (some l')):=by
  refine⟨by simp,fun k d a=>?_⟩;by_cases c:k=i
  .subst c;obtain rfl:d=l:=by unfold aF.at at a g;rw[g]at a;simpa using a.symm
   exact⟨l',gY q,.inr ⟨I,y,z⟩⟩
  .refine⟨d,?_,.inl rfl⟩;unfold aF.at at a |-;rw[B3 A_];exact a
 have j:∀ {k:Nat} {d:Loc},k≠i->J.at k d->d.cb≠l'.cb:=by
  intro k d a A e;rcases m with f|f;.exact a (h.inj k i d l A g (e.trans f))
  .have:=h.lt k d A;omega
 refine⟨h.step (by simp[h.len]) T U (fun b o v F=>?_) (fun k d s a x=>?_) (fun k k' d N a L e=>?_) (fun k d a=>?_),?_⟩
 .by_cases u:b=l'.cb;.subst u;exact C o v F
  .rw[r b o u]at F;rw[dR (t b u (h.mlt F))];exact h.imm b o v F
 .rcases zS q a with⟨rfl,rfl⟩|⟨c,a⟩;.left;rw[C7 (by rw[<-h.len];exact q)]at x;simp at x;subst x;exact H
  .right;rw[B3 A_]at x;exact⟨a,x,t _ (j c a) (h.lt k d a),fun o=>r _ _ (j c a)⟩
 .rcases zS q a with⟨rfl,rfl⟩|⟨c,E⟩<;>rcases zS q L with⟨rfl,rfl⟩|⟨D,n⟩;.rfl
  .exact absurd e.symm (j D n)
  .exact absurd e (j c E)
  .exact h.inj k k' d N E n e
 .rcases zS q a with⟨rfl,rfl⟩|⟨c,a⟩;.exact G
  .have:=h.lt k d a;omega
 .refine⟨p.1,p.2.1,p.2.2,Q,T,fun b o u R=>r b o (fun e=>?_),U,fun k d a=>?_,fun k a=>?_,fun b u R _=>t b (fun e=>?_) u⟩
  .rcases m with f|f;.exact R ⟨i,l,g,by omega⟩
   .omega
  .rcases zS q a with⟨rfl,rfl⟩|⟨c,a⟩
   .rcases m with f|f;.exact .inr ⟨l,g,f.symm⟩
    .exact .inl f
   .exact .inr ⟨d,a,rfl⟩
  .have c:k≠i:=by rintro rfl;unfold aF.at at g;rw[g]at a;simp at a
   rw[B3 A_,B3 A_];exact⟨a,rfl⟩
  .rcases m with f|f;.exact R ⟨i,l,g,by omega⟩
   .omega
theorem MS.drew(h:MS P O K M J L S env w):MS P O K M J L S env w.drew/\Tr (fun _=>False) M J S w M J S w.drew:=by obtain⟨a,b⟩:=h.wr.drew (fun _=>False);exact⟨(h.step' a b).1,b⟩
structure aVt (P:Program) (w:World) (M:Mem) (J:aF) (es sLen sCap n:Nat) (base:Option Addr) (xv:Value) (os ns:List TV):Prop where
 lenX:(Builtin.lenOf xv).run P w=.ok n w
 newX:∃vs,VRs M J [] ns vs/\(Builtin.firstCells es n xv).run P w=.ok vs.toArray w
 old:∃vs,VRs M J [] os vs/\(Builtin.firstCells es sLen (.slice base sLen sCap)).run P w=.ok vs.toArray w
 olen:os.length=sLen*es
 nlen:ns.length=n*es
theorem bE5{t u el:TypeId}{ty:TypeId}{ts:Array TypeId}(V:ts[0]?=some t)(h1:ts[1]?=some u)(U:P.underlying t=some (.slice el))(Z:(∃e,P.underlying u=some (.slice e))\/P.underlying u=some .string) {z:Tq_} (hz:eX P el=some z) {bytes:Nat} (g:bytesOf? P el=some bytes) (Y:bytes≠0) {a b n:Nat} {base:Option Addr} {s:Value} {os ns:Tn_} (c:aVt P w.drew M J z.length a b n base s os ns) (h:(Builtin.lenOf s).run P w=.ok n w) (hg:b<a+n) (hr:eA (a+n) bytes=true): ∃cs cap,(Builtin.append_ ts ty #[.slice base a b,s]).run P w=.ok (.slice (some ⟨w.heap.size,0,none⟩) (a+n) cap) (w.drew.alloc (.cells cs el))/\a+n<=cap/\cs.size=cap*z.length /\∀(k:Nat) (x:TV),(os++ns)[k]?=some x->∃v,cs[k]?=some v/\VR M J [] x v:=by
 obtain⟨i,A,I,p,r,o,T,R⟩:=iC hz;obtain⟨r1,r2,r3⟩:=aD9 hr;have Q:i.bytes=bytes:=by unfold bytesOf? at g;rw[I]at g;simpa using g
 obtain⟨d,D,C⟩:=c.newX;obtain⟨f,G,L⟩:=c.old;have H:=growslice_fits (bytes:=bytes) hg A_;have hn:¬(a+n<=b):=A_;have j:¬(281474976710656<Builtin.nextslicecap (a+n) b*i.bytes):=by rw[Q];omega
 have q:¬(i.bytes=0):=A_;have m:=grownCap_ge w (a+n) b el;refine⟨f.toArray++d.toArray++Builtin.zeroCells A.cells (grownCap w (a+n) b el-(a+n)),grownCap w (a+n) b el,?_,m,?_,fun k x N=>?_⟩
 .rw[<-r]at C L;have y:f.toArray++d.toArray++Builtin.zeroCells A.cells (grownCap w (a+n) b el-(a+n))=(f++d).toArray++Builtin.zeroCells A.cells (grownCap w (a+n) b el-(a+n)):=B_;rw[y];rcases Z with⟨e,E⟩|E <;>
  .simp[Builtin.append_,V,h1,und U,und E,sizeOf,typeInfo,zeroValue,I,p,h,hn,q,j,Question.forced,C,L,newRow,grownCap];congr 2;apply N0;simp
 .have W:f.length=a*z.length:=by rw[G.1,c.olen]
  have e2:d.length=n*z.length:=by rw[D.1,c.nlen]
  simp only[L7,I9,size_zeroCells,o,W,e2,<-E2];congr 1;omega
 .have F:=G.append D;have l:k<(f++d).length:=by rw[F.1];exact(E_.1 N).1
  refine⟨(f++d)[k],?_,F.2 k x _ N (D_ l)⟩;have:(f.toArray++d.toArray:Array Value)=(f++d).toArray:=B_;rw[this,H5 (by simpa using l)];simp
theorem yA{t u el:TypeId}{ty:TypeId}{ts:Array TypeId}(r:ts[0]?=some t)(q:ts[1]?=some u)(l:P.underlying t=some (.slice el))(k:(∃e,P.underlying u=some (.slice e))\/P.underlying u=some .string) {es:Nat} (g:sizeOf? P el=some es) {a c n:Nat} {b o:Nat} {h:Value} {vs:List Value} (f:(Builtin.lenOf h).run P w=.ok n w) (d:(Builtin.firstCells es n h).run P w=.ok vs.toArray w) (m:a+n<=c) {w':World} (i:(storeCells ⟨b,o+a*es,none⟩ vs).run P w=.ok () w'): (Builtin.append_ ts ty #[.slice (some ⟨b,o,none⟩) a c,h]).run P w=.ok (.slice (some ⟨b,o,none⟩) (a+n) c) w':=by
 have p:=run_size? g w;rcases k with⟨e,j⟩|j <;>
 .simp[Builtin.append_,r,q,und l,und j,p,f,m,d,iW,i]
theorem bE6(d:Option Addr){t u el:TypeId}{ty:TypeId}{ts:Array TypeId}(l:ts[0]?=some t)(k:ts[1]?=some u)(i:P.underlying t=some (.slice el))(h:(∃e,P.underlying u=some (.slice e))\/P.underlying u=some .string) {es:Nat} (c:sizeOf? P el=some es) {f:Value} (b:(Builtin.lenOf f).run P w=.ok 0 w) (a:(Builtin.firstCells es 0 f).run P w=.ok #[] w): (Builtin.append_ ts ty #[.slice d 0 0,f]).run P w=.ok (.slice d 0 0) w:=by
 have j:=run_size? c w;cases d<;>rcases h with⟨e,g⟩|g <;>
 .simp[Builtin.append_,l,k,und i,und g,j,b,a,storeCells]
theorem aA2{t:TypeId}{z:Tq_}(h:eX P t=some z):sizeOf? P t=some z.length:=by obtain⟨i,c,b,_,a,_⟩:=iC h;simp[sizeOf?,b,a]
theorem bMm{s:TV}{v:Value}(f:aQz s=true)(e:VR M J L s v):(∃p,v=.slice p 0 0)\/∃b o n c,v=.slice (some ⟨b,o,none⟩) n c/\n<=c:=by
 cases e with
 |iv L h =>
  cases h with
  |slNil=>exact .inl ⟨_,rfl⟩
  |slE t a ht=>exact .inl ⟨_,rfl⟩
  |sl t l b off cap es vals ht hes hcap hfull hm e=>exact .inr ⟨b,off,_,cap,rfl,hcap⟩
  |_=>simp[aQz]at f
 |msl L i ver off len cap es l b o c h e ha hl hlc=>exact .inr ⟨b,o,_,c,rfl,hlc⟩
 |tsl L i es l b o c h hl e ha hr =>
  rcases hr.sl_any with⟨d,_⟩|⟨k,o',c',es',vals,d,_,_,h3,_⟩|⟨j,d,g,_⟩;case inr.inr=>subst g;simp at d;obtain⟨rfl,rfl⟩:=d;exact .inl ⟨_,rfl⟩
  .simp at d
  .simp at d;obtain⟨_,rfl⟩:=d;exact .inr ⟨b,o,_,c,rfl,h3⟩
 |_=>simp[aQz]at f
theorem uL{α:Type}{es:Nat}:∀ {l:List (List α)},(∀c∈l,c.length=es)->∀ {i:Nat} {c:List α} {j:Nat} {x:α},l[i]?=some c->c[j]?=some x->(bC l)[i*es+j]?=some x
 |[],_,i,c,j,x,h,_=>by simp at h
 |a::r,hl,i,c,j,x,h,hx=>by
  have d:=hl a B_;simp only[bC];cases i with
  |zero =>simp at h;subst h;have:=(E_.1 hx).1;rw[Y_ A_];simpa using hx
  |succ i =>have b:∀c∈r,c.length=es:=fun c e=>hl c (by simp[e]);have:=uL b (by simpa using h) hx;rw[r_ (by rw[E2];omega),d];rw[show(i+1)*es+j-es=i*es+j by rw[E2];omega];exact this
theorem aM2{M:Mem}{t:Tag}{l:Tp_}{b o c es:Nat}(n:t≠.nil)(e:∀c∈l,c.length=es)(p:l.length<=c)(d:t=.full->c=l.length)(h:∀(k:Nat) (a:IV),(bC l)[k]?=some a->∃u,M b (o+k)=some u/\IR M a u): IR M (.sl t l) (.slice (some ⟨b,o,none⟩) l.length c):=by
 refine .sl t l b o c es (fun i j=>(M b (o+(i*es+j))).getD Go.undef) n e p d (fun i c j x g f=>?_) (fun i c j x g f=>?_);.obtain⟨u,h3,m⟩:=h _ _ (uL e g f);rw[G3,h3];rfl
 .obtain⟨u,h3,m⟩:=h _ _ (uL e g f);rw[h3];exact m
theorem aYa(l:Tq_):toIVs (l.map .iv)=some l:=by
 induction l with
 |nil=>rfl
 |cons a r ih=>simp[toIVs,oQ,ih]
theorem yB:∀ {a b:Tn_} {x y:Tq_},toIVs a=some x->toIVs b=some y->toIVs (a++b)=some (x++y)
 |[],b,x,y,h,k=>by simp[toIVs]at h;subst h;simpa using k
 |v::r,b,x,y,h,k=>by
  simp only[toIVs]at h;split at h;.rename_i a l h1 h2;simp at h;subst h;simp[toIVs,h1,yB h2 k]
  .simp at h
def Mem.put(M:Mem)(b o:Nat)(vs:List Value):Mem:=fun b' o'=>if b'=b/\o<=o'/\o'<o+vs.length then vs[o'-o]? else M b' o'
theorem Mem.put_le{M:Mem}{b o:Nat}{vs:List Value}(h:∀o',o<=o'->o'<o+vs.length->M b o'=none):MLe M (M.put b o vs):=by
 intro e o' v a;unfold Mem.put;split;.rename_i hc;obtain⟨rfl,c,d⟩:=hc;rw[h o' c d]at a;simp at a
 .exact a
theorem JLe.turn{J:aF}{i:Nat}{l l':Loc}(e:J.at i l)(d:l.loose=true)(c:l'.loose=true)(b:l.ver<l'.ver):JLe J (J.set i (some l')):=by
 have g:i<J.length:=(E_.1 e).1;refine⟨by simp,fun k f a=>?_⟩;by_cases hki:k=i
 .subst hki;obtain rfl:f=l:=by unfold aF.at at a e;rw[e]at a;simpa using a.symm
  exact⟨l',gY g,.inr ⟨d,c,b⟩⟩
 .refine⟨f,?_,.inl rfl⟩;unfold aF.at at a |-;rw[B3 A_];exact a
theorem aEa(h:MS P O K M J L S env w){i:Nat}{l:Loc}(g:J.at i l)(f:l.loose=true){xs:Tn_}{cs:Array Value}(e:TypeId)(m:xs.length<=cs.size) (p:∀(k:Nat) (x:TV),xs[k]?=some x->∃u,cs[k]?=some u/\VR M J [] x u): let l':Loc:={cb:=w.heap.size,d:=0,ver:=l.ver+1,cap:=0,es:=0,size:=cs.size,loose:=true}
  MS P O K M (J.set i (some l')) L (S.set i (.cells (l.ver+1) true xs)) env (w.alloc (.cells cs e))/\Tr (cS L) M J S w M (J.set i (some l')) (S.set i (.cells (l.ver+1) true xs)) (w.alloc (.cells cs e)) /\
   aF.at (J.set i (some l')) i l':=by
 intro l';have z:i<J.length:=(E_.1 g).1;have A:JLe J (J.set i (some l')):=.turn g f rfl (Q6 _);obtain⟨a,b⟩:=h.wr.turn g f (l':=l') rfl (Q6 _) (M':=M) (w':=w.alloc (.cells cs e)) (s':=.cells l'.ver true xs) (.refl _) (fun _ _ _=>rfl) (fun b C n=>cT w _ A_) B_ (by show w.heap.size<_;simp)
  (.inr (O_ _)) (fun o v j=>by rw[h.wr.none_at]at j;simp at j) ⟨rfl,rfl,rfl⟩
  (.cells true xs cs e (0,0) rfl (dA w _) rfl (by show 0+xs.length<=cs.size;omega) (fun k x y=>by obtain⟨u,t,r⟩:=p k x y;exact⟨u,by show cs[0+k]?=_;rw[A7];exact t,r.mono (.refl _) A⟩) (fun o _=>World.frozen?_alloc_new w cs e o) (fun o=>h.wr.none_at o) (fun q=>by simp[l']at q))
 obtain⟨c,d⟩:=h.step' a b;exact⟨c,d,gY z⟩
theorem aF9(h:MS P O K M J L S env w){i:Nat}{l:Loc}(E:J.at i l)(f:l.loose=true){A:Tn_}(T:S[i]?=some (.cells l.ver true A)){o:Nat}{os ns:Tn_}{vs:List Value} (H:At w M J l.cb o os) (j:VRs M J [] ns vs) (R:o+os.length+ns.length<=l.size) (U:ns.any bJ=false): let l':Loc:={l with d:=o,ver:=l.ver+1}
  ∃w',(storeCells ⟨l.cb,o+os.length,none⟩ vs).run P w=.ok () w'/\MS P O K M (J.set i (some l')) L (S.set i (.cells (l.ver+1) true (os++ns))) env w' /\
   Tr (cS L) M J S w M (J.set i (some l')) (S.set i (.cells (l.ver+1) true (os++ns))) w'/\aF.at (J.set i (some l')) i l':=by
 intro l';have V:i<J.length:=(E_.1 E).1;have p:=h.wr.blk i l _ E T;generalize hb0:aG.cells l.ver true A=s0 at p;cases p with
 |cells loose cs cs' e fz hlo' n hsz hfit' hvals hfz hm htt =>
  have Q:JLe J (J.set i (some l')):=.turn E f f (Q6 _);have y:=nJ (P:=P) (o:=o+os.length) (vs:=vs) n (by rw[j.1];omega) (fun k _ r=>hfz k (by rw[j.1]at r;omega)) (j.oneCell U);have D:∀b,b≠l.cb->(w.setCells l.cb (o+os.length) vs).heap[b]?=w.heap[b]? := fun b I=>iX l.cb vs _ w b I;have m:=iI l.cb vs (o+os.length) w;have G:=fZ n;have z:=jR l.cb vs (o+os.length) w cs' e fz n;obtain⟨a,b⟩:=h.wr.turn E f (l':=l') f (Q6 _) (M':=M) (w':=w.setCells l.cb (o+os.length) vs) (s':=.cells l'.ver true (os++ns)) (.refl _) (fun _ _ _=>rfl) (fun b n _=>D b n) A_ (by rw[m];exact G)
   (.inl rfl) (fun o v t=>by rw[show M l'.cb o=none from hm o]at t;simp at t) (mI _ _ _ _)
   (.cells true (os++ns) (rY cs' (o+os.length) vs) e fz f z (by rw[eT];exact hsz) (by rw[eT,H_];show o+_<=_;omega) (fun k x C=>by
    show ∃u,(rY cs' (o+os.length) vs)[o+k]?=some u/\_;rw[sZ _ _ _ _ (by rw[j.1];omega)];rw[F7]at C;split at C;.rename_i r;rw[I_ A_];obtain⟨u,N,h3⟩:=H k x C;rw[dX n]at N;exact⟨u,N,h3.mono (.refl _) Q⟩
    .rename_i r;have F:=(E_.1 C).1;rw[K_ (by rw[j.1];omega),show o+k-(o+os.length)=k-os.length by omega];have g:k-os.length<vs.length:=by rw[j.1];exact F
     exact⟨vs[k-os.length],D_ g,(j.2 _ x _ C (D_ g)).mono (.refl _) Q⟩)
    (fun k r=>by rw[World.frozen?_setCells];exact hfz k (by rwa [eT]at r)) hm (fun q=>by rw[show l'.loose=true from f]at q;simp at q))
  obtain⟨c,d⟩:=h.step' a b;exact⟨_,y,c,d,gY V⟩
 |_=>simp at hb0
def oB(cs:Array Value)(n:Nat):Nat->Option Value:=fun o=>if o<n then cs[o]? else none
theorem aKf{w:World}(cs:Array Value)(n:Nat)(e:TypeId):∀o v,oB cs n o=some v->(w.alloc (.cells cs e)).cell? ⟨w.heap.size,o,none⟩=some v:=by
 intro o v a;unfold oB at a;split at a;.rw[World.cell?_alloc_new];exact a
 .simp at a
theorem bE7{M:Mem}{n:Nat}{l:Tp_}{es c:Nat}{cs:Array Value}(i:∀o,M n o=oB cs (l.length*es) o)(b:∀c∈l,c.length=es)(e:l.length<=c)(h:∀(k:Nat) (a:IV),(bC l)[k]?=some a->∃u,cs[k]?=some u/\IR M a u): IR M (.sl .no l) (.slice (some ⟨n,0,none⟩) l.length c):=by refine aM2 B_ b e B_ fun k a d=>?_;obtain⟨u,g,f⟩:=h k a d;refine⟨u,?_,f⟩;rw[i,A7];unfold oB;have:=(E_.1 d).1;rw[dG b]at this;rw[K_ this];exact g
theorem aM3(h:MS P O K M J L S env w){l:Tp_}{es cap:Nat}{cs:Array Value}(e:TypeId)(i:0<es)(f:∀c∈l,c.length=es)(n:l.length<=cap)(r:cs.size=cap*es) (q:∀(k:Nat) (a:IV),(bC l)[k]?=some a->∃u,cs[k]?=some u/\IR M a u): ∃M' J',MS P O K M' J' L (S++[.tok l.length es e]) env (w.alloc (.cells cs e))/\Tr (cS L) M J S w M' J' (S++[.tok l.length es e]) (w.alloc (.cells cs e)) /\VR M' J' L (.tsl S.length l) (.slice (some ⟨w.heap.size,0,none⟩) l.length cap):=by
 let l':Loc:={cb:=w.heap.size,d:=0,ver:=l.length,cap:=cap,es:=es,size:=cs.size,loose:=true,ty:=e}
 have m:=h.wr.mle_ext (oB cs (l.length*es));have g:∀o,(M.ext w.heap.size (oB cs (l.length*es))) w.heap.size o=oB cs (l.length*es) o:=fun o=>by simp[Mem.ext]
 obtain⟨a,b⟩:=h.wr.push (fun _=>False) (.cells cs e) (oB cs (l.length*es)) l' (.tok l.length es e) rfl (aKf cs _ e)
  (.tok l.length cs e (0,0) rfl rfl (dA w _) rfl n i (by show 0+cap*es<=cs.size;omega) (fun o p _=>by rw[g];unfold oB;have p:0+l.length*es<=o:=p;rw[I_ A_]) (fun o _ _=>World.frozen?_alloc_new w cs e o) ⟨rfl,rfl,I3 _⟩)
 obtain⟨c,d⟩:=h.step' a b;have j:aF.at (J++[some l']) S.length l':=by unfold aF.at;rw[<-h.wr.len];simp
 refine⟨_,_,c,d,.tsl _ _ _ l' _ _ _ j rfl (O_ _) (fun _=>⟨rfl,rfl,rfl,f⟩) ?_⟩;exact bE7 g f n fun k a s=>let ⟨u,h1,h2⟩:=q k a s;⟨u,h1,h2.mono m⟩
theorem aKg(h:MS P O K M J L S env w){i:Nat}{loc:Loc}(t:J.at i loc)(p:loc.loose=true){l:Tp_}(j:loc.ver<l.length){es cap:Nat}{cs:Array Value}(e:TypeId)(n:0<es)(g:∀c∈l,c.length=es) (q:l.length<=cap) (E:cs.size=cap*es) (D:∀(k:Nat) (a:IV),(bC l)[k]?=some a->∃u,cs[k]?=some u/\IR M a u): ∃M' J',MS P O K M' J' L (S.set i (.tok l.length es e)) env (w.alloc (.cells cs e))/\Tr (cS L) M J S w M' J' (S.set i (.tok l.length es e)) (w.alloc (.cells cs e)) /\VR M' J' L (.tsl i l) (.slice (some ⟨w.heap.size,0,none⟩) l.length cap):=by
 let l':Loc:={cb:=w.heap.size,d:=0,ver:=l.length,cap:=cap,es:=es,size:=cs.size,loose:=true,ty:=e}
 have C:i<J.length:=(E_.1 t).1;have m:=h.wr.mle_ext (oB cs (l.length*es));have f:∀o,(M.ext w.heap.size (oB cs (l.length*es))) w.heap.size o=oB cs (l.length*es) o:=fun o=>by simp[Mem.ext]
 obtain⟨a,b⟩:=h.wr.turn t p (l':=l') rfl j (M':=M.ext w.heap.size (oB cs (l.length*es))) (w':=w.alloc (.cells cs e)) (s':=.tok l.length es e) m (fun b o r=>by unfold Mem.ext;rw[I_ r])
  (fun b r y=>cT w _ A_) B_ (by show w.heap.size<_;simp) (.inr (O_ _)) (fun o v z=>aKf cs _ e o v (by rw[<-f];exact z)) ⟨rfl,rfl,rfl⟩
  (.tok l.length cs e (0,0) rfl rfl (dA w _) rfl q n (by show 0+cap*es<=cs.size;omega) (fun o x _=>by rw[f];unfold oB;have x:0+l.length*es<=o:=x;rw[I_ A_]) (fun o _ _=>World.frozen?_alloc_new w cs e o) ⟨rfl,rfl,I3 _⟩)
 obtain⟨c,d⟩:=h.step' a b;refine⟨_,_,c,d,.tsl _ _ _ l' _ _ _ (gY C) rfl (O_ _) (fun _=>⟨rfl,rfl,rfl,g⟩) ?_⟩;exact bE7 f g q fun k a A=>let ⟨u,h1,h2⟩:=D k a A;⟨u,h1,h2.mono m⟩
theorem aM4(h:MS P O K M J L S env w){i:Nat}{loc:Loc}(hl:J.at i loc){n:Nat}(hs:S[i]?=some (.tok n loc.es loc.ty)){l l2:Tp_}(E:l.length=n)(h7:0<l2.length)(m:∀c∈l++l2,c.length=loc.es) (hr:IR M (.sl .no l) (.slice (some ⟨loc.cb,loc.d,none⟩) l.length loc.cap)) (g:n+l2.length<=loc.cap) {ns:Tn_} {vs:List Value} (Y:VRs M J [] ns vs) (Q:toIVs ns=some (bC l2)) (h1:ns.any bJ=false): ∃w' M' J',(storeCells ⟨loc.cb,loc.d+l.length*loc.es,none⟩ vs).run P w=.ok () w'/\MS P O K M' J' L (S.set i (.tok (l++l2).length loc.es loc.ty)) env w'/\Tr (cS L) M J S w M' J' (S.set i (.tok (l++l2).length loc.es loc.ty)) w' /\VR M' J' L (.tsl i (l++l2)) (.slice (some ⟨loc.cb,loc.d,none⟩) (l++l2).length loc.cap):=by
 let l':Loc:={loc with ver:=(l++l2).length}
 have hi:i<J.length:=(E_.1 hl).1;have R:=h.wr.blk i loc _ hl hs;have F:∀c∈l,c.length=loc.es:=fun c W=>m c (by simp[W]);have U:∀c∈l2,c.length=loc.es:=fun c W=>m c (by simp[W]);generalize hs0:aG.tok n loc.es loc.ty=s0 at R;cases R with
 |tok n' cs' e fz hlo hnv u hsz W hes0 hfit hsp hfz htt =>
  obtain rfl:n=n':=by simpa using hs0
  have hd:vs.length=l2.length*loc.es:=by rw[Y.1,<-(iK Q).1,dG U]
  have h6:n*loc.es+l2.length*loc.es<=loc.cap*loc.es:=by rw[<-E2];exact D4 _ g
  have ho:loc.d+l.length*loc.es=loc.d+n*loc.es:=by rw[E]
  have T:=nJ (P:=P) (o:=loc.d+l.length*loc.es) (vs:=vs) u A_ (fun k D h8=>hfz k A_ A_) (Y.oneCell h1);have V:∀b,b≠loc.cb->(w.setCells loc.cb (loc.d+l.length*loc.es) vs).heap[b]?=w.heap[b]? := fun b Z=>iX loc.cb vs _ w b Z;have C:=iI loc.cb vs (loc.d+l.length*loc.es) w;have h5:=fZ u;have A:=jR loc.cb vs (loc.d+l.length*loc.es) w cs' e fz u;have r:∀o,(w.setCells loc.cb (loc.d+l.length*loc.es) vs).cell? ⟨loc.cb,o,none⟩=if loc.d+l.length*loc.es<=o/\o<loc.d+l.length*loc.es+vs.length then vs[o-(loc.d+l.length*loc.es)]? else cs'[o]? := by intro o;rw[dX A,sZ _ _ _ _ A_]
  have p:MLe M (M.put loc.cb (loc.d+l.length*loc.es) vs):=Mem.put_le fun o' t h3=>hsp o' A_ A_;have f:(l++l2).length=n+l2.length:=by simp[E]
  obtain⟨a,b⟩:=h.wr.turn hl hlo (l':=l') hlo (by show loc.ver<(l++l2).length;omega) (M':=M.put loc.cb (loc.d+l.length*loc.es) vs) (w':=w.setCells loc.cb (loc.d+l.length*loc.es) vs) (s':=.tok (l++l2).length loc.es loc.ty) p
   (fun b o u=>by unfold Mem.put;rw[I_ (by intro q;exact u q.1)]) (fun b u _=>V b u) A_ (by rw[C];exact h5) (.inl rfl) (fun o v y=>by
    show(w.setCells loc.cb (loc.d+l.length*loc.es) vs).cell? ⟨loc.cb,o,none⟩=some v;rw[r];have y:(M.put loc.cb (loc.d+l.length*loc.es) vs) loc.cb o=some v:=y;unfold Mem.put at y;split at y;.rename_i q;rw[K_ q.2];exact y
    .rename_i q;rw[I_ (by intro q';exact q ⟨rfl,q'⟩),<-dX u];exact h.wr.imm _ _ _ y) (mI _ _ _ _)
   (.tok _ (rY cs' (loc.d+l.length*loc.es) vs) e fz hlo rfl A (by rw[eT];exact hsz) (by rw[f];exact g) hes0 (by rw[eT];exact hfit) (fun o t h3=>by
    have t:loc.d+(l++l2).length*loc.es<=o:=t;rw[f,E2]at t;rw[eT]at h3;show(M.put loc.cb (loc.d+l.length*loc.es) vs) loc.cb o=none;unfold Mem.put;rw[I_ A_];exact hsp o A_ h3) (fun o t h3=>by
    have t:loc.d+(l++l2).length*loc.es<=o:=t;rw[f,E2]at t;rw[eT]at h3;rw[World.frozen?_setCells];exact hfz o A_ h3) ⟨htt.1,htt.2.1,C0 htt.2.2 (D4 _ (by rw[f];omega))⟩)
  obtain⟨c,d⟩:=h.step' a b;refine⟨_,_,_,T,c,d,.tsl _ _ _ l' _ _ _ (gY hi) hlo (O_ _) (fun _=>⟨rfl,rfl,rfl,m⟩) ?_⟩;refine aM2 B_ m (by rw[f];exact g) B_ fun k x D=>?_;rw[oV,F7]at D;have ha:=dG F;split at D
  .rename_i hkl;rcases hr.sl_any with⟨N,_⟩|⟨b',o',c',es',vals,N,_,G,_,_,y,h4⟩|⟨a0,N,h9,_⟩;case inr.inr=>subst h9;simp[bC]at D
   .simp at N
   .simp at N;obtain⟨⟨rfl,rfl⟩,rfl⟩:=N;obtain⟨i',c',j',e1,e2,e3⟩:=xX G D;refine⟨vals i' j',p _ _ _ ?_,(h4 _ _ _ _ e1 e2).mono p⟩;rw[e3,<-G3];exact y _ _ _ _ e1 e2
  .rename_i hkl;obtain⟨x',I,H⟩:=(iK Q).2 _ _ D;have z:k-(bC l).length<vs.length:=by rw[Y.1];exact(E_.1 I).1
   refine⟨vs[k-(bC l).length],?_,(qC H (Y.2 _ _ _ I (D_ z))).mono p⟩;unfold Mem.put;rw[K_ A_,show loc.d+k-(loc.d+l.length*loc.es)=k-(bC l).length by omega];exact D_ z
 |_=>simp at hs0
theorem tF{es m:Nat}{ys:Tq_}(h:ys.length=m*es):bC (cP es m ys)=ys/\(∀c∈cP es m ys,c.length=es)/\(cP es m ys).length=m :=
 ⟨oU es m ys h,rF es m ys A_,gB es m ys⟩
theorem aA3{os:Tq_}{ns:Tn_}{ys:Tq_}(c:toIVs ns=some ys){cs:Array Value}(h:∀(k:Nat) (x:TV),(os.map .iv++ns)[k]?=some x->∃v,cs[k]?=some v/\VR M J [] x v): ∀(k:Nat) (a:IV),(os++ys)[k]?=some a->∃u,cs[k]?=some u/\IR M a u:=by intro k a g;obtain⟨x,f,b⟩:=(iK (yB (aYa os) c)).2 k a g;obtain⟨v,e,d⟩:=h k x f;exact⟨v,e,qC b d⟩
theorem aHj(h:MS P O K M J L S env w){t u el ty:TypeId}{ts:Array TypeId}(h0:ts[0]?=some t)(h1:ts[1]?=some u)(ht:P.underlying t=some (.slice el))(hu:(∃e,P.underlying u=some (.slice e))\/P.underlying u=some .string) {z:Tq_} (hz:eX P el=some z) (gc:z.length≠0) {bytes:Nat} (hy:bytesOf? P el=some bytes) (g8:bytes≠0) {mu:Bool} {s x r:TV} {sv xv:Value} (hs:VR M J L s sv) (hx:VR M J L x xv) (f:bA mu z.length bytes el S s x=some (r,S')): ∃rv w' M' J',(Builtin.append_ ts ty #[sv,xv]).run P w=.ok rv w'/\VR M' J' L r rv/\MS P O K M' J' L S' env w'/\Tr (cS L) M J S w M' J' S' w':=by
 unfold bA at f;split at f;case h_2=>simp at f
 rename_i xs m hxs hm;split at f;.simp at f
 rename_i g;rw[H2]at g;obtain⟨g,H⟩:=g;have g:xs.length=m*z.length:=A_;have H:xs.any bJ=false:=by simpa using H
 have W:=aA2 hz;obtain⟨f1,vs,f2,f3⟩:=fO h hx hxs hm g (O_ m);rw[<-g,B9]at f2;obtain⟨hd,g7⟩:=h.drew;have td:=g7.weaken (own':=cS L) (fun _ hf=>hf.elim);obtain⟨g1,g9,g2,g3⟩:=fO hd hx hxs hm g (O_ m);rw[<-g,B9]at g2;have Z:∀ {os:Tn_} {n:Nat} {base:Option Addr} {cap:Nat},sv=.slice base n cap->dU S s=some os->lenOf S s=some n->os.length=n*z.length->aVt P w.drew M J z.length n cap m base xv os xs:=by intro os n base cap p he hl N;obtain⟨_,ov,T,k3⟩:=fO hd hs he hl N (O_ n);rw[<-N,B9]at T;subst p;exact⟨g1,⟨g9,g2,g3⟩,⟨ov,T,k3⟩,N,g⟩
 split at f
 .rename_i hm0;subst hm0;split at f
  .rename_i hsl;simp at f;obtain⟨rfl,rfl⟩:=f;have g4:vs=[]:=by have:=f2.1;rw[g]at this;exact Z_ (by simpa using this)
   subst g4;rcases bMm hsl hs with⟨p0,rfl⟩|⟨b,o,n,c,rfl,y⟩;.exact⟨_,w,M,J,bE6 p0 h0 h1 ht hu W f1 f3,hs,h,.refl _ _ _ _ _⟩
   .refine⟨_,w,M,J,yA (b:=b) (o:=o) h0 h1 ht hu W f1 f3 A_ (w':=w) ?_,hs,h,.refl _ _ _ _ _⟩;simp[storeCells]
  .simp at f
 rename_i hm0;have E:∀ {os:Tn_} {n:Nat} {base:Option Addr} {cap:Nat},aVt P w.drew M J z.length n cap m base xv os xs->sv=.slice base n cap->cap<n+m->eA (n+m) bytes=true ->
   ∃cs c,(Builtin.append_ ts ty #[sv,xv]).run P w=.ok (.slice (some ⟨w.drew.heap.size,0,none⟩) (n+m) c) (w.drew.alloc (.cells cs el))/\n+m<=c/\cs.size=c*z.length /\
    ∀(k:Nat) (x:TV),(os++xs)[k]?=some x->∃v,cs[k]?=some v/\VR M J [] x v:=by
  intro os n base cap j p y h7
  subst p
  exact bE5 h0 h1 ht hu hz hy g8 j f1 y h7
 have F:∀ {os:Tn_} {n:Nat} {base:Option Addr} {cap:Nat},aVt P w.drew M J z.length n cap m base xv os xs->sv=.slice base n cap->cap<n+m->eA (n+m) bytes=true ->
   ∃rv w' M' J',(Builtin.append_ ts ty #[sv,xv]).run P w=.ok rv w'/\VR M' J' L (.msl S.length 0 0 (n+m) (n+m) z.length) rv/\MS P O K M' J' L (S++[.cells 0 true (os++xs)]) env w' /\
    Tr (cS L) M J S w M' J' (S++[.cells 0 true (os++xs)]) w':=by
  intro os n base cap j p y h7
  obtain⟨cs,c,C,A,Y,hv⟩:=E j p y h7
  have h2:(os++xs).length<=cs.size:=by rw[H_,j.olen,g,<-E2,Y];exact D4 _ A
  obtain⟨p1,p2,p3⟩:=aQ7 hd el h2 hv true 0 0
  refine⟨_,_,M,_,C,.msl _ _ _ _ _ _ _ _ _ _ c p3 (O_ _) (fun _=>⟨rfl,fun _=>rfl,A,fun q=>by simp at q,?_⟩) (O_ _) A,p1,td.trans p2 (fun b hb=>.inl hb)⟩
  show 0+c*z.length<=cs.size
  omega
 split at f
 .rename_i tg l;split at f;.simp at f
  rename_i hnf;simp at hnf;obtain⟨gb,D⟩:=hnf;split at f;.simp at f
  rename_i a;have a:eA (l.length+m) bytes=true:=by simpa using a
  have p:∃base cap,sv=.slice base l.length cap/\cap=l.length:=by
   rcases hs.iv_inv.sl_any with⟨rfl,rfl,rfl⟩|⟨b,off,cap,es,vals,rfl,hg,G,hn,h5,_⟩|⟨a0,rfl,rfl,hg⟩;case inr.inr=>exact⟨some a0,0,rfl,rfl⟩
   .exact⟨none,0,rfl,rfl⟩
   .exact⟨_,cap,rfl,h5 (by cases tg<;>simp_all)⟩
  obtain⟨base,cap,p,h6⟩:=p;subst h6;have G:∀c∈l,c.length=z.length:=by
   rcases hs.iv_inv.sl_any with⟨rfl,rfl,rfl⟩|⟨b,off,cap,es,vals,_,hg,G,hn,h5,_⟩|⟨a0,_,rfl,hg⟩;case inr.inr=>intro c y;simp at y
   .intro c y;simp at y
   .exact aKc D G
  have j:=Z (os:=(bC l).map .iv) p rfl rfl (by rw[L_,dG G]);split at f;.simp at f;obtain⟨rfl,rfl⟩:=f;exact F j p A_ a
  .split at f
   .rename_i ys hys;simp at f;obtain⟨rfl,rfl⟩:=f;obtain⟨cs,c,C,A,Y,hv⟩:=E j p A_ a;have hh:ys.length=m*z.length:=by rw[(iK hys).1,g]
    obtain⟨q1,q2,q3⟩:=tF hh;have Q:∀c∈l++cP z.length m ys,c.length=z.length:=by
     intro c y;rcases a_.1 y with y|y;.exact G c y
     .exact q2 c y
    have I:(l++cP z.length m ys).length=l.length+m:=by rw[H_,q3]
    obtain⟨M',J',p1,p2,p3⟩:=aM3 hd (l:=l++cP z.length m ys) (es:=z.length) (cap:=c) (cs:=cs) el A_ Q (by rw[I];exact A) Y (by rw[oV,q1];exact aA3 hys hv);rw[I]at p1 p2 p3;exact⟨_,_,M',J',C,p3,p1,td.trans p2 (fun b hb=>.inl hb)⟩
   .split at f;.rename_i hl0;subst hl0;simp at f;obtain⟨rfl,rfl⟩:=f;have:=F j p A_ a;simpa[bC] using this
    .simp at f
 .rename_i i l;split at f
  .rename_i n e te ys hSi hys;split at f
   .rename_i y;simp at y;obtain⟨⟨⟨⟨rfl,rfl⟩,rfl⟩,D⟩,a⟩:=y;simp at f;obtain⟨rfl,rfl⟩:=f;have hp:=hs;cases hs with
    |tsl L i es loc b o c hJ hlo hv ha hrr =>
     have h4:=h.wr.blk i loc _ hJ hSi;generalize hsi0:aG.tok l.length z.length te=s0 at h4;cases h4 with
     |tok n' cs' e' fz hlo' hnv hb Y y hes0 h2 hsp hfz htt =>
      simp at hsi0;obtain⟨gd,U,hq⟩:=hsi0;obtain⟨rfl,rfl,rfl,G⟩:=ha A_;have hh:ys.length=m*z.length:=by rw[(iK hys).1,g]
      obtain⟨q1,q2,q3⟩:=tF hh;have Q:∀c∈l++cP z.length m ys,c.length=z.length:=by
       intro c y;rcases a_.1 y with y|y;.rw[U];exact G c y
       .exact q2 c y
      have I:(l++cP z.length m ys).length=l.length+m:=by rw[H_,q3]
      by_cases hroomy:l.length+m<=loc.cap;.obtain⟨w',M',J',k1,T,k3,k4⟩:=aM4 h hJ (n:=l.length) (by rw[hSi,U,hq]) (l:=l) (l2:=cP z.length m ys) rfl (by rw[q3];omega) (by rw[<-U];exact Q) hrr (by rw[q3];exact hroomy) f2 (by rw[q1];exact hys) H;rw[I,<-U,<-hq]at T k3;rw[I]at k4;rw[<-U]at k1;exact⟨_,w',M',J',yA h0 h1 ht hu W f1 f3 hroomy k1,k4,T,k3⟩
      .have j:=Z (os:=(bC l).map .iv) (base:=some ⟨loc.cb,loc.d,none⟩) (cap:=loc.cap) rfl rfl rfl (by rw[L_,dG G,U]);obtain⟨cs,c,C,A,V,h9⟩:=E j rfl A_ a;obtain⟨M',J',p1,p2,p3⟩:=aKg hd hJ hlo (l:=l++cP z.length m ys) (by rw[I];omega) (es:=z.length) (cap:=c) (cs:=cs) te A_ Q (by rw[I];exact A) V (by rw[oV,q1];exact aA3 hys h9);rw[I]at p1 p2 p3;exact⟨_,_,M',J',C,p3,p1,td.trans p2 (fun b hb=>.inl hb)⟩
     |_=>simp at hsi0
   .simp at f
  .simp at f
 .rename_i b0 v off len cap e;split at f;case h_2=>simp at f
  rename_i v' loose cs hSi;split at f;.simp at f
  rename_i hev;rw[H2]at hev;obtain⟨he,hv⟩:=hev;have he:e=z.length:=A_;have hv:v'=v:=A_;subst he;subst hv;have hp:=hs;cases hs with
  |msl L i ver off len cap es loc b o c hJ hvv ha hl hlc =>
   have h4:=h.wr.blk b0 loc _ hJ hSi;generalize hsi0:aG.cells v' loose cs=s0 at h4;cases h4 with
   |cells loose' cs2 cs' ee fz hlo hb Y h2 hvals hfz hmm =>
    simp at hsi0;obtain⟨R,rfl,rfl⟩:=hsi0;obtain⟨rfl,ho,g6,h6,hk⟩:=ha R;split at f
    .rename_i hroomy;split at f
     .rename_i D;simp at f;obtain⟨rfl,rfl⟩:=f;have ho:=ho A_;have hw:setCells env S (.ptr b0 v' (off+len*z.length)) xs=some (env,S.set b0 (.cells v' loose (put cs (off+len*z.length) xs))):=by rw[E2]at D;have:off+len*z.length+xs.length<=cs.length:=A_;simp only[setCells,H,hSi,this];simp
      obtain⟨b',o',w',e1,e2,e3,e4,_⟩:=nK h hw (va:=.pointer (some ⟨loc.cb,o+len*z.length,none⟩)) (.ptr _ _ _ _ loc _ _ hJ hvv (fun _=>⟨rfl,by omega⟩)) f2;simp at e1;obtain⟨rfl,rfl⟩:=e1;exact⟨_,w',M,J,yA h0 h1 ht hu W f1 f3 A_ e2,.msl _ _ _ _ _ _ _ loc _ _ _ hJ hvv (fun _=>⟨rfl,fun _=>ho,g6,h6,hk⟩) hroomy A_,e3,e4⟩
     .simp at f
    .rename_i hroomy;split at f;.simp at f
     rename_i a;have a:eA (len+m) bytes=true:=by simpa using a
     split at f;case h_2=>simp at f
     rename_i old hsub;have N:=(iF hsub).2.2;have g5:At w M J loc.cb o old:=by obtain⟨b',o',c',k1,_,T,_⟩:=aQ5 (n:=len) h hp hl;simp at k1;obtain⟨⟨rfl,rfl⟩,rfl⟩:=k1;exact(T loose cs old hSi hsub).2
     have j:=Z (os:=old) (base:=some ⟨loc.cb,o,none⟩) (cap:=c) rfl (by simp[dU,hSi,hsub]) rfl N;split at f
     .rename_i hlt;simp at f;obtain⟨rfl,rfl⟩:=f;by_cases hroom2:len+m<=c;.have hi:(len+m)*z.length<=c*z.length:=D4 _ hroom2;rw[E2]at hi;obtain⟨w',k1,T,k3,k4⟩:=aF9 h hJ (by rw[hlo,hlt]) (by rw[hSi,R,hlt]) g5 f2 A_ H;rw[N]at k1;rw[<-R]at T k3 k4;exact⟨_,w',M,_,yA h0 h1 ht hu W f1 f3 hroom2 k1,.msl _ _ _ _ _ _ _ _ _ _ c k4 (O_ _) (fun _=>⟨rfl,fun _=>rfl,hroom2,fun q=>by simp[hlo,hlt]at q,hk⟩) (O_ _) hroom2,T,k3⟩
      .obtain⟨hj,c3,C,A,V,h9⟩:=E j rfl A_ a;have h8:(old++xs).length<=hj.size:=by rw[H_,N,g,<-E2,V];exact D4 _ A
       obtain⟨T,k3,k4⟩:=aEa hd hJ (by rw[hlo,hlt]) el h8 h9;rw[<-R]at T k3 k4;exact⟨_,_,M,_,C,.msl _ _ _ _ _ _ _ _ _ _ c3 k4 (O_ _) (fun _=>⟨rfl,fun _=>rfl,A,fun q=>by simp at q,by show 0+c3*z.length<=hj.size;omega⟩) (O_ _) A,T,td.trans k3 (fun b hb=>.inl hb)⟩
     .rename_i hlt;simp at f;obtain⟨rfl,rfl⟩:=f;have ga:=h6 (by rw[hlo];simpa using hlt);exact F j rfl A_ a
   |_=>simp at hsi0
 .simp at f
theorem aQ8{n:Int}(b:0<=n)(a:n<=35184372088832):IntKind.i64.wrap n=n:=by unfold IntKind.wrap;simp[IntKind.bits,IntKind.signed];omega
theorem bMn(h:MS P O K M J L S env w){t u el ty:TypeId}{ts:Array TypeId}(h0:ts[0]?=some t)(h1:ts[1]?=some u)(ht:P.underlying t=some (.slice el)){k:IntKind}(hu:P.underlying u=some (.int k)) {z:Tq_} (hz:eX P el=some z) (he:z.length≠0) {bytes:Nat} (j:bytesOf? P el=some bytes) (hl:bytes≠0) {s r:TV} {n:Int} {k':IntKind} {sv:Value} (U:VR M J L s sv) (f:qU z.length bytes el S s n=some (r,S')): ∃rv w' M' J',(Builtin.append_ ts ty #[sv,.int k' n]).run P w=.ok rv w'/\VR M' J' L r rv/\MS P O K M' J' L S' env w'/\Tr (cS L) M J S w M' J' S' w':=by
 unfold qU at f;split at f;case h_2=>simp at f
 rename_i tg l;split at f;.simp at f
 rename_i hnf;simp at hnf;obtain⟨⟨h7,p⟩,h8⟩:=hnf;split at f;case isFalse=>simp at f
 rename_i hroom;simp at f;obtain⟨rfl,rfl⟩:=f;obtain⟨i,Q,hi,Y,F,V,hj,hh⟩:=iC hz;obtain⟨r1,r2,r3⟩:=aD9 hroom;have N:i.bytes=bytes:=by unfold bytesOf? at j;rw[hi]at j;simpa using j
 have x:∃base cap,sv=.slice base l.length cap/\cap=l.length:=by
  rcases U.iv_inv.sl_any with⟨rfl,rfl,rfl⟩|⟨b,off,cap,es,vals,rfl,A,d,I,e,_⟩|⟨a0,rfl,rfl,A⟩;case inr.inr=>exact⟨some a0,0,rfl,rfl⟩
  .exact⟨none,0,rfl,rfl⟩
  .exact⟨_,cap,rfl,e (by cases tg<;>simp_all)⟩
 obtain⟨base,cap,x,v⟩:=x;subst v;have d:∀c∈l,c.length=z.length:=by
  rcases U.iv_inv.sl_any with⟨rfl,rfl,rfl⟩|⟨b,off,cap,es,vals,_,A,d,I,e,_⟩|⟨a0,_,rfl,A⟩;case inr.inr=>intro c T;simp at T
  .intro c T;simp at T
  .exact aKc p d
 obtain⟨hd,Z⟩:=h.drew;have td:=Z.weaken (own':=cS L) (fun _ hf=>hf.elim);have m:((bC l).map TV.iv).length=l.length*z.length:=by rw[L_,dG d]
 obtain⟨_,E,W,k3⟩:=fO hd U (xs:=(bC l).map .iv) rfl rfl m (O_ l.length);rw[<-m,B9]at W;subst x;have C:IntKind.i64.wrap n=n:=aQ8 A_ A_;have hg:l.length<l.length+n.toNat:=A_;have h6:=growslice_fits (bytes:=bytes) hg A_;have hn:¬(l.length+n.toNat<=l.length):=A_;have D:¬(281474976710656<Builtin.nextslicecap (l.length+n.toNat) l.length*i.bytes):=by rw[N];omega
 have h2:¬(i.bytes=0):=A_;have R:=grownCap_ge w (l.length+n.toNat) l.length el;have h4:¬(281474976710656<n*(i.bytes:Int)):=by have e1:(n.toNat:Int)=n:=A_;have:n.toNat*bytes<=35184372088832:=C0 (D4 _ A_) r1;have h9:((n.toNat*bytes:Nat):Int)<=((35184372088832:Nat):Int):=Int.ofNat_le.2 this;rw[Int.natCast_mul,e1]at h9;rw[N];omega
 have h5:¬(n.toNat*i.size=0):=by rw[F];intro q;rcases Nat.mul_eq_zero.1 q with q|q<;>omega
 have G:¬(n<0):=A_;rw[<-F]at k3;have H:(Builtin.append_ ts ty #[.slice base l.length l.length,.int k' n]).run P w=.ok (.slice (some ⟨w.heap.size,0,none⟩) (l.length+n.toNat) (grownCap w (l.length+n.toNat) l.length el))
   (w.drew.alloc (.cells (E.toArray++Builtin.zeroCells Q.cells n.toNat++Builtin.zeroCells Q.cells (grownCap w (l.length+n.toNat) l.length el-(l.length+n.toNat))) el)):=by
  simp[Builtin.append_,h0,h1,und ht,und hu,sizeOf,typeInfo,zeroValue,hi,Y,asInt,asIntOf,C,G,h4,hn,h2,D,h5,Question.forced,k3,newRow,grownCap]
  intro q
  have hm:max n 0=n:=A_
  exact absurd q A_
 have v:l.length<=grownCap w (l.length+n.toNat) l.length el:=A_;have g:E.length=l.length*z.length:=by rw[W.1,m]
 obtain⟨M',J',p1,p2,p3⟩:=aM3 hd (l:=l) (es:=z.length) (cap:=grownCap w (l.length+n.toNat) l.length el)
  (cs:=E.toArray++Builtin.zeroCells Q.cells n.toNat++Builtin.zeroCells Q.cells (grownCap w (l.length+n.toNat) l.length el-(l.length+n.toNat))) el A_ d v (by
   simp only[L7,I9,size_zeroCells,V,g,<-E2];congr 1;omega) (fun k a hk=>by
   have y:k<E.length:=by rw[g,<-dG d];exact(E_.1 hk).1
   refine⟨E[k],?_,?_⟩;.rw[Array.append_assoc,H5 (by simpa using y)];simp[y]
   .exact(W.2 k (.iv a) _ (by simp[hk]) (D_ y)).iv_inv)
 refine⟨_,_,M',J',H,?_,p1,td.trans p2 (fun b N=>.inl N)⟩;cases p3 with
 |tsl L i es loc b o c hJ hlo hv ha hrr=>exact .rsv _ _ _ _ loc _ _ _ hJ hlo hv ha R hrr
theorem bMo(h:MS P O K M J L S env w){t el ty:TypeId}{ts:Array TypeId}(y:ts[0]?=some t)(q:P.underlying t=some (.slice el)){es:Nat}(G:sizeOf? P el=some es) {d s r:TV} {T N:Value} (E:VR M J L d T) (H:VR M J L s N) (a:aJ7 es S d s=some (r,S')): ∃R w',(Builtin.copy_ ts ty #[T,N]).run P w=.ok R w'/\VR M J L r R/\MS P O K M J L S' env w'/\Tr (cS L) M J S w M J S' w':=by
 unfold aJ7 at a;have g:=run_size? G w;split at a
 .rename_i b v off len cap e xs m hxs hm;split at a;.simp at a
  rename_i hc;rw[H2]at hc;obtain⟨z,f⟩:=hc;have z:e=es:=A_;have f:xs.length=m*es:=A_;subst z;obtain⟨n,vs,u,k⟩:=fO h H hxs hm f (Nat.min_le_left m len);have Z:=E;cases E with
  |msl L i ver off len cap es loc b' o c hJ hvv ha hl hlc =>
   simp only at a;split at a
   .rename_i hn0;simp at a;obtain⟨rfl,rfl⟩:=a;have j:vs=[]:=by have:=u.1;rw[hn0]at this;exact Z_ (by simpa using this)
    subst j;refine⟨.int .i64 ((Nat.min m len:Nat):Int),w,?_,?_,h,.refl _ _ _ _ _⟩;.simp[Builtin.copy_,y,und q,n,g,Nat.min_def]at k |-;simp[k,storeCells,goInt]
    .have:Nat.min m len=0:=hn0;rw[this];exact .iv _ (.int _ _)
   .rename_i hn0;split at a;case h_2=>simp at a
    rename_i v' loose cs hSi;split at a;case isFalse=>simp at a
    rename_i hc;obtain⟨rfl,C,l⟩:=hc;simp at a;obtain⟨rfl,rfl⟩:=a;have I:=h.wr.blk b loc _ hJ hSi;have A:v'=loc.ver:=by cases I;rfl
    obtain⟨rfl,U,_⟩:=ha A;have U:=U A_;have V:min m len*e<=m*e:=D4 _ (Nat.min_le_left m len);have F:(xs.take (min m len*e)).length=min m len*e:=by simp;omega
    have p:(xs.take (min m len*e)).any bJ=false:=by rw[t_]at l |-;exact fun x hx=>l x (Y3 hx)
    have D:setCells env S (.ptr b v' off) (xs.take (min m len*e))=some (env,S.set b (.cells v' loose (put cs off (xs.take (min m len*e))))):=by simp only[setCells,p,hSi,F];simp[C]
    obtain⟨b',o',w',W,e2,e3,Y,_⟩:=nK h D (va:=.pointer (some ⟨loc.cb,o,none⟩)) (.ptr _ _ _ _ loc _ _ hJ hvv (fun _=>⟨rfl,by omega⟩)) u;simp at W;obtain⟨rfl,rfl⟩:=W;refine⟨.int .i64 ((Nat.min m len:Nat):Int),w',?_,.iv _ (.int _ _),e3,Y⟩;have Q:(Builtin.firstCells e (m.min len) N).run P w=.ok vs.toArray w:=k;simp[Builtin.copy_,y,und q,n,g,Q,e2,goInt]
 .rename_i tg xs m hxs hm;split at a;case isFalse=>simp at a
  rename_i f;simp at a;obtain⟨rfl,rfl⟩:=a;obtain⟨n,vs,u,k⟩:=fO h H hxs hm f (I3 m);have j:vs=[]:=Z_ (by have:=u.1;simpa using this);subst j;refine⟨.int .i64 0,w,?_,.iv _ (.int _ _),h,.refl _ _ _ _ _⟩;rcases E.iv_inv.sl_any with⟨_,_,rfl⟩|⟨b,off,cap,es',vals,rfl,_⟩|⟨a0,rfl,_,_⟩;case inr.inr=>simp[Builtin.copy_,y,und q,n,g,k,goInt,storeCells]
  .simp[Builtin.copy_,y,und q,n,g,k,goInt]
  .simp[Builtin.copy_,y,und q,n,g,k,goInt,storeCells]
 .rename_i ti xs m hxs hm;split at a;case isFalse=>simp at a
  rename_i f;simp at a;obtain⟨rfl,rfl⟩:=a;obtain⟨n,vs,u,k⟩:=fO h H hxs hm f (I3 m);have j:vs=[]:=Z_ (by have:=u.1;simpa using this);subst j;refine⟨.int .i64 0,w,?_,.iv _ (.int _ _),h,.refl _ _ _ _ _⟩;cases E with
  |tsl L i es loc b o c hJ hlo hv ha hrr=>simp[Builtin.copy_,y,und q,n,g,k,goInt,storeCells]
 .simp at a
theorem bE8(h:MS P O K M J L S env w){t el ty:TypeId}{ts:Array TypeId}(q:ts[0]?=some t)(m:P.underlying t=some (.slice el)){z:Tq_}(N:eX P el=some z){x:TV}{v:Value}(j:VR M J L x v) (d:lW z S x=some S'):∃w',(Builtin.clear_ ts ty #[v]).run P w=.ok (.tuple #[]) w'/\MS P O K M J L S' env w'/\Tr (cS L) M J S w M J S' w':=by
 obtain⟨i,G,hi,Z,V,f,F,E⟩:=iC N;unfold lW at d;split at d
 .simp at d;subst d;refine⟨w,?_,h,.refl _ _ _ _ _⟩;rcases j.iv_inv.sl_any with⟨_,_,rfl⟩|⟨b,off,cap,es',vals,rfl,_⟩|⟨a0,rfl,_,_⟩;case inr.inr=>simp[Builtin.clear_,q,und m]
  .simp[Builtin.clear_,q,und m]
  .simp[Builtin.clear_,q,und m]
 .rename_i b v0 off a cap e;have T:=j;cases j with
  |msl L i ver off a cap es loc b' o c hJ hvv ha hl hlc =>
   split at d;.rename_i hl0;subst hl0;simp at d;subst d;exact⟨w,by simp[Builtin.clear_,q,und m],h,.refl _ _ _ _ _⟩
   .rename_i hl0;split at d;case h_2=>simp at d
    rename_i v' loose cs hSi;split at d;case isFalse=>simp at d
    rename_i C;obtain⟨rfl,rfl,r⟩:=C;simp at d;subst d;have D:=h.wr.blk b loc _ hJ hSi;have l:v'=loc.ver:=by cases D;rfl
    obtain⟨rfl,Q,_⟩:=ha l;have Q:=Q A_;have g:(bC (List.replicate a (z.map TV.iv))).length=a*z.length:=by rw[dG (es:=z.length) (fun c C=>by rw[K1 C];simp)];simp
    have p:(bC (List.replicate a (z.map TV.iv))).any bJ=false:=by rw[t_];intro x j;obtain⟨k,W⟩:=I6 j;obtain⟨_,y,hy,rfl⟩:=kR W;have:=t_.1 (aM1 N) (.iv y) (A0.2 ⟨y,B4 hy,rfl⟩);exact this
    have s:setCells env S (.ptr b v' off) (bC (List.replicate a (z.map TV.iv)))=some (env,S.set b (.cells v' loose (put cs off (bC (List.replicate a (z.map TV.iv)))))):=by simp only[setCells,p,hSi,g];simp[r]
    have I:VRs M J [] (bC (List.replicate a (z.map TV.iv))) (Builtin.zeroCells G.cells a).toList:=by
     refine⟨by rw[g];simp[size_zeroCells,f],fun k x u j A=>?_⟩;obtain⟨Y,y,p2,rfl⟩:=kR j;have H:u=G.cells[k % G.cells.size]! := by simp only[Builtin.zeroCells,f]at A;have:k<a*z.length:=Y;simp[this]at A;rw[f];exact A.symm
     rw[H];exact .iv _ (aKe f (E M) p2)
    obtain⟨b',o',w',R,e2,e3,U,_⟩:=nK h s (va:=.pointer (some ⟨loc.cb,o,none⟩)) (.ptr _ _ _ _ loc _ _ hJ hvv (fun _=>⟨rfl,by omega⟩)) I;simp at R;obtain⟨rfl,rfl⟩:=R;refine⟨w',?_,e3,U⟩;obtain⟨n,rfl⟩:∃n,a=n+1:=⟨a-1,by omega⟩
    simp[Builtin.clear_,q,und m,F,e2]
 .simp at d
theorem yC:∀(s:List UInt8),bC (qT s)=s.map fun b=>IV.int .u8 b.toNat
 |[]=>rfl
 |b::r=>by have:=yC r;simp only[qT,Q_,bC]at this |-;rw[this];rfl
theorem aKh{o:Oper}{s d e:TypeId}{x:Operand}(t:o.op=.convert s d x)(D:P.underlying s=some .string)(C:P.underlying d=some (.slice e))(I:P.underlying e=some (.int .u8))(a:Act)(h:MS P O K M J L S env w) {ex:TV} (Q:VR M J L ex (a.eval x)) {r:IV} (j:dD .strBytes ex=some r) {top:TOp} (l:aP top=none):cK P O K top M J L S env w (execOp a.eval o) (.iv r) env S:=by
 unfold dD at j;split at j;case h_1=>simp_all
 case h_2=>simp_all
 case h_3=>simp_all
 case h_5=>simp at j
 rename_i str _;split at j;case isFalse=>simp at j
 simp at j;subst j;have f:=run_bytes_of_string (P:=P) w s d e ⟨str.toArray⟩ D C I;generalize hcap:grownCap w (⟨str.toArray⟩:ByteArray).size 0 e=cap at f;have A:str.length<=cap:=by have:=grownCap_ge w (⟨str.toArray⟩:ByteArray).size 0 e;rw[oS]at this hcap;omega
 generalize hrow:bytesRow ⟨str.toArray⟩ cap=row at f;have m:∀(k:Nat) (b:UInt8),str[k]?=some b->row[k]?=some (.int .u8 b.toNat):=by intro k b i;have g:=(E_.1 i).1;rw[<-hrow];unfold bytesRow;rw[H5 (by simpa using g)];simp[i]
 obtain⟨n,u⟩:=h.drew;have E:=u.weaken (own':=cS L) (fun _ F=>F.elim);have H:∀o v,oB row str.length o=some v->(w.drew.alloc (.cells row e (row.size,row.size+1))).cell? ⟨w.drew.heap.size,o,none⟩=some v:=by
  intro o v p;unfold oB at p;split at p;.rw[dX (dA w.drew _)];exact p
  .simp at p
 obtain⟨G,p2⟩:=n.wr.alloc (fun _=>False) (.cells row e (row.size,row.size+1)) (oB row str.length) H;obtain⟨R,N⟩:=n.step' G p2;refine .mk0 l (r:=.value (.slice (some ⟨w.heap.size,0,none⟩) (⟨str.toArray⟩:ByteArray).size cap)) ?_ (.inl ⟨_,rfl,.iv _ ?_⟩) R (E.trans N (fun b i=>.inl i)) (.refl _);.simp only[execOp,t,Q.str_inv,Sem.run_bind,f];rfl
 .have z:(qT str).length=str.length:=by simp[qT]
  rw[oS,<-z];refine aM2 (es:=1) B_ (fun c y=>?_) A_ B_ fun k a q=>?_;.simp only[qT,A0]at y;obtain⟨b,_,rfl⟩:=y;rfl
  .rw[yC]at q;simp only[p_,G_]at q;obtain⟨b,i,rfl⟩:=q;refine⟨_,?_,.int _ _⟩;have g:=(E_.1 i).1;show(M.ext w.drew.heap.size (oB row (qT str).length)) w.heap.size (0+k)=_;unfold Mem.ext oB;rw[z,K_ (show w.heap.size=w.drew.heap.size from rfl),A7,K_ g];exact m k b i
theorem aHk{x:TV}{v:Value}(h:VR M J L x v):VR M J L (mV x) v:=by
 unfold mV;split;.rename_i a ha;exact .iv _ (xY ha h)
 .exact h
theorem aEb:∀(vs:List Value) (off j:Nat) (cs:Array Value),(vs.zipIdx j).foldl (fun cs (c,j)=>cs.setIfInBounds (off+j) c) cs=rY cs (off+j) vs
 |[],_,_,_=>rfl
 |v::r,off,j,cs=>by simp only[List.zipIdx_cons,List.foldl_cons,rY];rw[aEb r off (j+1)];rfl
theorem aHl(a:Nat->Option (Nat×Nat)){i off n:Nat}{v:Value}{b:List (Nat×Value)}{cells:Array Value}(e:a i=some (off,n))(f:v.cells.size=n)(c:off+n<=cells.size): Instr.fill a cells ((i,v)::b)=Instr.fill a (rY cells off v.cells.toList) b:=by
 rw[Instr.fill,e];have d:(v.cells.size≠n||off+v.cells.size>cells.size)=false:=by simp[f];omega
 simp only[d,b_,J3];congr 1;have:=aEb v.cells.toList off 0 cells;simp only[Nat.add_zero]at this;rw[<-this,<-Array.foldl_toList];simp
theorem aM5{ev:aH->TV}(b:Nat->Option (Nat×Nat)):∀ {ps:List (Nat×Nat×aH)} {us:List (Nat×Value)} {cs out:Tn_} {cells:Array Value},us.length=ps.length ->(∀(k:Nat) (p:Nat×Nat×aH) (u:Nat×Value),ps[k]?=some p->us[k]?=some u->b u.1=some (p.1,p.2.1)/\VR M J L (ev p.2.2) u.2)->VRs M J [] cs cells.toList->fill cs ev ps=some out ->∃a,Instr.fill b cells us=some a/\VRs M J [] out a.toList
 |[],us,cs,out,cells,hl,hp,hc,hf=>by have:us=[]:=Z_ (by simpa using hl);subst this;simp[fill]at hf;subst hf;exact⟨cells,rfl,hc⟩
 |(off,n,x)::ps,us,cs,out,cells,hl,hp,hc,hf=>by
  cases us with
  |nil=>simp at hl
  |cons u us =>
   simp only[fill]at hf;split at hf;case isFalse=>simp at hf
   rename_i hcond;obtain⟨m,s,h3⟩:=hcond;obtain⟨q,i⟩:=hp 0 _ _ rfl rfl;have h:=tA (aHk i) h3;have l:u.2.cells.size=n:=by rw[<-m];simpa using h.1
   have j:cells.size=cs.length:=by simpa using hc.1
   have d:off+(cellsOf (mV (ev x))).length<=cs.length:=A_;have e:=hc.put h d;obtain⟨a,r,o⟩:=aM5 b (cells:=rY cells off u.2.cells.toList) (by simpa using hl) (fun k p u f g=>hp (k+1) p u (by simpa using f) (by simpa using g)) e hf;refine⟨a,?_,o⟩;rw[<-r];have c:off+n<=cells.size:=A_;exact aHl b q l c
theorem aM6{α:Type}{es:Nat}:∀ {l:List (List α)} {i:Nat} {c:List α},(∀c∈l,c.length=es)->c.length=es->i<l.length->bC (l.set i c)=put (bC l) (i*es) c
 |[],i,c,_,_,h=>by simp at h
 |a::r,i,c,hl,b,h=>by
  have e:=hl a B_;have d:∀c∈r,c.length=es:=fun c b=>hl c (by simp[b]);cases i with
  |zero =>simp only[List.set_cons_zero,bC,put,P8,List.take_zero,List.nil_append,A7,b];rw[K2 A_,<-e,E0,List.nil_append]
  |succ i =>
   simp only[List.set_cons_succ,bC];rw[aM6 d b (by simpa using h)];unfold put;have f:(i+1)*es=a.length+i*es:=by rw[e,E2];omega
   have e2:(i+1)*es+c.length=a.length+(i*es+c.length):=A_;rw[e2,f,List.take_length_add_append,List.drop_length_add_append];simp
theorem aEc{ev:aH->TV}{n:Nat}:∀ {ps:List (Nat×aH)} {us:List (Nat×Value)} {es out:List (List TV)} {cells:Array Value},us.length=ps.length ->(∀(k:Nat) (p:Nat×aH) (u:Nat×Value),ps[k]?=some p->us[k]?=some u->u.1=p.1/\VR M J L (ev p.2) u.2)->(∀c∈es,c.length=n)->VRs M J [] (bC es) cells.toList->dZ es n ev ps=some out ->∃a,Instr.fill (fun i=>some (i*n,n)) cells us=some a/\VRs M J [] (bC out) a.toList/\(∀c∈out,c.length=n)/\out.length=es.length
 |[],us,es,out,cells,hl,hp,hes,e,hf=>by have:us=[]:=Z_ (by simpa using hl);subst this;simp[dZ]at hf;subst hf;exact⟨cells,rfl,e,hes,rfl⟩
 |(i,x)::ps,us,es,out,cells,hl,hp,hes,e,hf=>by
  cases us with
  |nil=>simp at hl
  |cons u us =>
   simp only[dZ]at hf;split at hf;case isFalse=>simp at hf
   rename_i hcond;obtain⟨j,o,h3⟩:=hcond;obtain⟨C,t⟩:=hp 0 _ _ rfl rfl;have q:=tA (aHk t) h3;have w:u.2.cells.size=n:=by rw[<-j];simpa using q.1
   have z:=dG hes;have v:cells.size=(bC es).length:=by simpa using e.1
   have l:(i+1)*n<=es.length*n:=D4 _ o;rw[E2]at l;have d:i*n+(cellsOf (mV (ev x))).length<=(bC es).length:=A_;have b:=e.put q d;have f:∀c∈es.set i (cellsOf (mV (ev x))),c.length=n:=by
    intro c e;rcases V1 e with h|h;.exact hes c h
    .rw[h,j]
   rw[<-aM6 hes j o]at b;obtain⟨a,D,r,s,y⟩:=aEc (cells:=rY cells (i*n) u.2.cells.toList) (by simpa using hl) (fun k p u g m=>hp (k+1) p u (by simpa using g) (by simpa using m)) f b hf;refine⟨a,?_,r,s,by rw[y];simp⟩;rw[<-D];have A:(fun i=>some (i*n,n):Nat->Option (Nat×Nat)) u.1=some (i*n,n):=by show some (u.1*n,n)=_;rw[C]
   exact aHl _ A w A_
theorem aA4:∀ {es:List (List TV)} {l:Tp_},jY es=some l->es=l.map (·.map .iv)
 |[],l,h=>by simp[jY]at h;subst h;rfl
 |c::r,l,h=>by
  simp only[jY]at h;split at h;.rename_i a l' h1 h2;simp at h;subst h;rw[wM h1,aA4 h2];rfl
  .simp at h
theorem aA5:∀(l:Tp_),bC (l.map (·.map TV.iv))=(bC l).map .iv
 |[]=>rfl
 |a::r=>by simp[bC,aA5 r]
theorem bE9(h:MS P O K M J L S env w){n:Nat}{es:List (List TV)}{cells:Array Value}(el:TypeId)(f:∀c∈es,c.length=n)(e:VRs M J [] (bC es) cells.toList){l:Tp_}(x:jY es=some l): ∃M',VR M' J L (.iv (.sl .full l)) (.slice (some ⟨w.heap.size,0,none⟩) es.length es.length)/\MS P O K M' J L S env (w.alloc (.cells cells el))/\Tr (cS L) M J S w M' J S (w.alloc (.cells cells el)):=by
 have r:=dG f;have g:cells.size=(bC es).length:=by simpa using e.1
 have j:=aA4 x;subst j;have u:∀o v,oB cells cells.size o=some v->(w.alloc (.cells cells el)).cell? ⟨w.heap.size,o,none⟩=some v:=fun o v q=>aKf cells _ el o v q;obtain⟨s,p2⟩:=h.wr.alloc (fun _=>False) (.cells cells el) (oB cells cells.size) u;obtain⟨t,p⟩:=h.step' s p2;have d:=h.wr.mle_ext (oB cells cells.size);refine⟨_,.iv _ ?_,t,p⟩;rw[L_];have i:∀c∈l,c.length=n:=fun c e=>by have:=f (c.map .iv) (A0.2 ⟨c,e,rfl⟩);simpa using this
 refine aM2 (es:=n) B_ i (O_ _) (fun _=>rfl) fun k a m=>?_;rw[aA5]at e g;have b:k<cells.size:=by rw[g,L_];exact(E_.1 m).1
 refine⟨cells[k],?_,((e.2 k (.iv a) _ (by simp[m]) (by simp[b])).iv_inv).mono d⟩;unfold Mem.ext oB;rw[K_ rfl,A7,K_ b];exact A8 b
theorem rV:∀ {a:List Field} {b:List (Nat×Nat)},a.mapM (fun f=>(P.info? f.type).map fun i=>(f.offset,i.size))=some b->∀(i:Nat) (f:Field) (n:Nat),a[i]?=some f->sizeOf? P f.type=some n->b[i]?=some (f.offset,n)
 |[],b,h,i,f,n,hf,hn=>by simp at hf
 |g::a,b,h,i,f,n,hf,hn=>by
  simp only[List.mapM_cons,Option.bind_eq_bind,Option.pure_def]at h;cases hi:(P.info? g.type)with
  |none=>simp[hi]at h
  |some ti =>
   cases hr:a.mapM (fun f=>(P.info? f.type).map fun i=>(f.offset,i.size))with
   |none=>simp[hi,hr]at h
   |some pl' =>
    simp[hi,hr]at h;subst h;cases i with
    |zero =>simp at hf;subst hf;simp[sizeOf?,hi]at hn;simp[hn]
    |succ i=>simpa using rV hr i f n (by simpa using hf) hn
theorem aHm{o:Oper}{t:TypeId}{ps:Array (Nat×Operand)}(Q:o.op=.build t ps){z:Tq_}(hz:eX P t=some z){ev:aH->TV}{tps:List (Nat×Nat×aH)}(a:Act)(h:MS P O K M J L S env w) (hl:ps.size=tps.length) (m:∀(k:Nat) (p:Nat×Nat×aH) (u:Nat×Operand),tps[k]?=some p->ps[k]?=some u->VR M J L (ev p.2.2) (a.eval u.2) /\((∃j f,P.underlying t=some (.struct j)/\(aJ9 P j).isSome=true/\j[u.1]?=some f/\p.1=f.offset/\sizeOf? P f.type=some p.2.1)\/∃n e,P.underlying t=some (.array n e)/\sizeOf? P e=some p.2.1/\p.1=u.1*p.2.1)) (ht:(∃j,P.underlying t=some (.struct j)/\(aJ9 P j).isSome=true)\/∃n e s,P.underlying t=some (.array n e)/\sizeOf? P e=some s) {cs:Tn_} (hf:fill (z.map .iv) ev tps=some cs) {top:TOp} (C:aP top=none): cK P O K top M J L S env w (execOp a.eval o) (rT cs) env S:=by
 obtain⟨i,Z,Y,G,h0,R,h4,T⟩:=iC hz;have U:VRs M J [] (z.map .iv) Z.cells.toList:=aD7 R T;have key:∀(c:Nat->Option (Nat×Nat)),(∀(k:Nat) (p:Nat×Nat×aH) (u:Nat×Operand),tps[k]?=some p->ps[k]?=some u->c u.1=some (p.1,p.2.1)) ->
   ∃b,Instr.fill c Z.cells (ps.toList.map fun(i,x)=>(i,a.eval x))=some b/\VRs M J [] cs b.toList:=by
  intro c q
  refine aM5 (L:=L) c (by simpa using hl) (fun k p u A d=>?_) U hf
  simp only[p_,G_]at d
  obtain⟨I,g,rfl⟩:=d
  have g:ps[k]?=some I:=by simpa using g
  exact⟨q k p I A g,(m k p I A g).1⟩
 have fin:∀b,P.built t (ps.map fun(i,x)=>(i,a.eval x)).toList=some b->VRs M J [] cs b.toList->cK P O K top M J L S env w (execOp a.eval o) (rT cs) env S:=by
  intro b E D;have F:=run_build (P:=P) w t (ps.map fun(i,x)=>(i,a.eval x)) b E;refine .pure C h (v':=.agg b) ?_ ?_;.simp only[execOp,Q,Sem.run_bind];rw[F];rfl
  .have:=xT (L:=L) D;simpa using this
 rcases ht with⟨j,d,q⟩|⟨n,e,s,d,W⟩
 .obtain⟨V,l⟩:=O9.1 q;obtain⟨b,E,D⟩:=key (V.toArray[·]?) (fun k p u A y=>by
   rcases(m k p u A y).2 with⟨fs',f,q1,_,q2,q3,q4⟩|⟨n,e,q1,_⟩;.rw[d]at q1;simp at q1;subst q1;have:=rV l u.1 f p.2.1 (by simpa using q2) q4;simp[this,q3]
   .rw[d]at q1;simp at q1)
  refine fin b ?_ D;unfold Program.built;rw[Y,d];have r:(j.toList.mapM fun f=>(P.info? f.type).map fun i=>(f.offset,i.size))=some V:=l;simp only[G,r];simpa using E
 .obtain⟨b,E,D⟩:=key (fun i=>some (i*s,s)) (fun k p u A y=>by
   rcases(m k p u A y).2 with⟨fs',f,q1,_⟩|⟨n,e',q1,q2,q3⟩;.rw[d]at q1;simp at q1
   .rw[d]at q1;simp at q1;obtain⟨rfl,rfl⟩:=q1;rw[W]at q2;simp at q2;subst q2;simp[q3])
  obtain⟨_,ie,N,H⟩:=cellsOf_size? W;refine fin b ?_ D;unfold Program.built;rw[Y,d];simp only[G,N,H];simpa using E
theorem aVu{o:Oper}{t el:TypeId}{b:Nat}{ps:Array (Nat×Operand)}(n:o.op=.buildSlice t b ps)(U:P.underlying t=some (.slice el)){z:Tq_}(T:eX P el=some z)(h5:z.length≠0)(V:b*z.length<=16777216){ev:aH->TV} {tps:List (Nat×aH)} (a:Act) (hl:ps.size=tps.length) (C:∀(k:Nat) (p:Nat×aH) (u:Nat×Operand),tps[k]?=some p->ps[k]?=some u->u.1=p.1/\VR M J L (ev p.2) (a.eval u.2)) {es:List (List TV)} (hf:dZ (List.replicate b (z.map .iv)) z.length ev tps=some es): ∃cells,(∀c∈es,c.length=z.length)/\VRs M J [] (bC es) cells.toList/\es.length=b/\(execOp a.eval o).run P w=.ok (.value (.slice (some ⟨w.heap.size,0,none⟩) es.length es.length)) (w.alloc (.cells cells el)):=by
 obtain⟨i,j,hi,h6,h0,F,H,G⟩:=iC T;have g:∀c∈List.replicate b (z.map TV.iv),c.length=z.length:=fun c W=>by rw[K1 W];simp
 have r:(bC (List.replicate b (z.map TV.iv))).length=b*z.length:=by rw[dG g];simp
 let base:Array Value:=(Array.range (b*z.length)).map (fun k=>j.cells[k % j.cells.size]!);have R:VRs M J [] (bC (List.replicate b (z.map TV.iv))) base.toList:=by
  refine⟨by rw[r];simp[base],fun k x u hx l=>?_⟩;obtain⟨p1,y,p2,rfl⟩:=kR hx;have N:u=j.cells[k % j.cells.size]! := by simp[base,p1]at l;exact l.symm
  rw[N];exact .iv _ (aKe F (G M) p2)
 obtain⟨d,A,Y,h3,h4⟩:=aEc (L:=L) (us:=ps.toList.map fun(i,x)=>(i,a.eval x)) (by simpa using hl) (fun k p u hp l=>by simp only[p_,G_]at l;obtain⟨Z,D,rfl⟩:=l;exact C k p Z hp (by simpa using D)) g R hf;have m:es.length=b:=by rw[h4];simp
 refine⟨d,h3,Y,m,?_⟩;rw[m];have h:¬(16777216<b*z.length):=A_;have s:=run_size? (aA2 T) w;have e:Instr.fill (fun i=>some (i*z.length,z.length)) ((Array.range (b*z.length)).map (fun k=>j.cells[k % j.cells.size]!)) (ps.map fun(i,x)=>(i,a.eval x)).toList=some d:=by rw[<-A];simp[base]
 by_cases hln:b*z.length=0
 .have Q:b=0:=by rcases Nat.mul_eq_zero.1 hln with q|q<;>omega
  subst Q;have I:base=#[]:=by simp[base]
  rw[I]at A;have v:Instr.fill (fun i=>some (i*z.length,z.length)) #[] (ps.map fun(i,x)=>(i,a.eval x)).toList=some d:=by rw[<-A,Q4]
  simp only[execOp,n,Instr.buildSlice,Sem.run_bind,und U,s,newRow,Result.andThen_ok];simp only[Q4]at v;have E:∀f:Nat->Value,Array.map f (Array.range 0)=#[]:=fun f=>B_;simp[E,v]
 .simp[execOp,n,Instr.buildSlice,und U,s,h,hln,H,newRow]at e |-;simp[e]
theorem bFa(a b:List UInt8):((⟨a.toArray⟩:ByteArray)==⟨b.toArray⟩)=(a==b):=by have h:((⟨a.toArray⟩:ByteArray)==⟨b.toArray⟩)=(a.toArray==b.toArray):=rfl;rw[h];simp
theorem vS{a b:IV}(h:pX a b=true){u v:Value}(c:IR M a u)(d:IR M b v)(n:Nat):Instr.sameBits n u v=true:=by
 unfold pX at h;split at h
 .cases c;cases d
  cases n<;>simpa[Instr.sameBits] using h
 .cases c;cases d
  cases n<;>simpa[Instr.sameBits] using h
 .cases c;cases d
  cases n<;>(simp only[Instr.sameBits,bFa];exact h)
 .simp at h
theorem tG:∀ {cs ds:Tq_} {us vs:List Value},jX cs ds=true->us.length=cs.length->vs.length=ds.length->(∀(i:Nat) (x:IV) (u:Value),cs[i]?=some x->us[i]?=some u->IR M x u) ->(∀(i:Nat) (x:IV) (u:Value),ds[i]?=some x->vs[i]?=some u->IR M x u)->∀n,us.length=vs.length/\((us.zip vs).all fun(x,y)=>Instr.sameBits n x y)=true
 |[],ds,us,vs,h,h1,h2,hu,hv,n=>by
  cases ds with
  |nil =>have:us=[]:=Z_ (by simpa using h1);have:vs=[]:=Z_ (by simpa using h2);subst_vars;simp
  |cons d ds=>simp[jX]at h
 |c::cs,ds,us,vs,h,h1,h2,hu,hv,n=>by
  cases ds with
  |nil=>simp[jX]at h
  |cons d ds =>
   cases us with
   |nil=>simp at h1
   |cons u us =>
    cases vs with
    |nil=>simp at h2
    |cons v vs =>simp only[jX,P_]at h;obtain⟨f,e⟩:=tG h.2 (by simpa using h1) (by simpa using h2) (fun i x u b a=>hu (i+1) x u (by simpa using b) (by simpa using a)) (fun i x u b a=>hv (i+1) x u (by simpa using b) (by simpa using a)) n;refine⟨by simp[f],?_⟩;simp only[List.zip_cons_cons,List.all_cons,P_];exact⟨vS h.1 (hu 0 c u rfl rfl) (hv 0 d v rfl rfl) n,e⟩
theorem yD{a b:IV}(h:gZ a b=true){u v:Value}(c:IR M a u)(e:IR M b v):(Instr.keyThatStays u v).run P w=.ok v w:=by
 have j:Instr.sameBits 10000 u v=true:=by
  unfold gZ at h;split at h;.obtain⟨us,rfl,k,g⟩:=c.agg_inv;obtain⟨vs,rfl,h3,l⟩:=e.agg_inv;obtain⟨m,f⟩:=tG (M:=M) h (us:=us.toList) (vs:=vs.toList) (by simpa using k) (by simpa using h3) (fun i x u d c=>g i x u d (by simpa using c)) (fun i x u d c=>l i x u d (by simpa using c)) 9999;show Instr.sameBits (9999+1) (.agg us) (.agg vs)=true;simp only[Instr.sameBits,P_];exact⟨by simpa using m,f⟩
  .exact vS h c e 10000
 simp[Instr.keyThatStays,j]
def RF(M:Mem)(J:aF):Option (Nat×TV)->Option (Nat×Value)->Prop
 |none,none=>True
 |some (n,x),some (m,v)=>n=m/\VR M J [] x v
 |_,_=>False
def ER(M:Mem)(J:aF)(es:List (Nat×IV×TV))(l:List MapEntry):Prop :=
 l.length=es.length/\∀(k:Nat) (x:Nat×IV×TV) (y:MapEntry),es[k]?=some x->l[k]?=some y->y.born=x.1/\IR M x.2.1 y.key/\VR M J [] x.2.2 y.val
theorem ER.cons_inv{e:Nat×IV×TV}{es:Tr_}{l:List MapEntry}(h:ER M J (e::es) l):∃y l',l=y::l'/\y.born=e.1/\IR M e.2.1 y.key/\VR M J [] e.2.2 y.val/\ER M J es l':=by
 cases l with
 |nil=>simp[ER]at h
 |cons y l' =>obtain⟨a,c,h3⟩:=h.2 0 e y rfl rfl;exact⟨y,l',rfl,a,c,h3,by simpa using h.1,fun k x z b d=>h.2 (k+1) x z (by simpa using b) (by simpa using d)⟩
def aEd:LK->TypeDesc->Prop
 |.bool,d=>d=.bool
 |.int,d=>∃k,d=.int k
 |.str,d=>d=.string
theorem yE{g:LK}{d:TypeDesc}(c:aEd g d){a b:IV}{r:Bool}(h:gM g a b=some r){u v:Value}(e:IR M a u)(f:IR M b v):Instr.sameNow d u v=some r:=by
 unfold gM at h;split at h
 .cases e;cases f
  simp[aEd]at c;subst c;simpa[Instr.sameNow] using h
 .cases e;cases f
  obtain⟨k,rfl⟩:=c;split at h;.rename_i hk;subst hk;simpa[Instr.sameNow] using h
  .simp at h
 .cases e;cases f
  simp[aEd]at c;subst c;simp only[Instr.sameNow,bFa];exact h
 .simp at h
theorem yF{b:LK}{d:TypeDesc}(c:aEd b d){k:IV}{j:Value}(f:IR M k j):∀ {es:Tr_} {l:List MapEntry} {i:Nat} {r:Option (Nat×TV)},ER M J es l->findKey (.leaf b) k es i=some r ->∃a,Instr.findNow d j l i=some a/\RF M J r a
 |[],l,i,r,he,h=>by have:l=[]:=Z_ (by simpa using he.1);subst this;simp[findKey]at h;subst h;exact⟨none,rfl,trivial⟩
 |e::es,l,i,r,he,h=>by
  obtain⟨y,l',rfl,_,g,h3,n⟩:=he.cons_inv;simp only[findKey]at h;split at h;.rename_i hq;simp at h;subst h;exact⟨some (i,y.val),by simp[Instr.findNow,yE c (show gM b k e.2.1=some true from hq) f g],rfl,h3⟩
  .rename_i hq;obtain⟨a,o,m⟩:=yF c f n h;exact⟨a,by simp[Instr.findNow,yE c (show gM b k e.2.1=some false from hq) f g,o],m⟩
  .simp at h
theorem tH{t:TypeId}{cL:List (Nat×LK)}(g:mH P t=some cL){k:IV}{d:Value}(m:IR M k d):∀ {es:Tr_} {l:List MapEntry} {i:Nat} {r:Option (Nat×TV)},ER M J es l->findKey (.agg cL) k es i=some r ->∃a,(Instr.findAsking t d l i).run P w=.ok a w/\RF M J r a
 |[],l,i,r,he,h=>by have:l=[]:=Z_ (by simpa using he.1);subst this;simp[findKey]at h;subst h;exact⟨none,by simp[Instr.findAsking],trivial⟩
 |e::es,l,i,r,he,h=>by
  obtain⟨y,l',rfl,_,j,h3,p⟩:=he.cons_inv;have key:∀ {b:Bool},pW (.agg cL) k e.2.1=some b->(Go.Op.equal t d y.key).run P w=.ok b w:=by
   intro b c;simp only[pW]at c;split at c;.rename_i x z hz;obtain⟨us,rfl,q,p2⟩:=m.agg_inv;rw[hz]at j;obtain⟨vs,f,p3,o⟩:=j.agg_inv;rw[f];exact tC g q p2 p3 o c
   .simp at c
  simp only[findKey]at h;split at h;.rename_i hq;simp at h;subst h;exact⟨some (i,y.val),by simp[Instr.findAsking,key hq],rfl,h3⟩
  .rename_i hq;obtain⟨a,s,n⟩:=tH g m p h;exact⟨a,by simp[Instr.findAsking,key hq,s],n⟩
  .simp at h
theorem vT{t:TypeId}{kk:KK}(h:iB P t=some kk):(∃b d,kk=.leaf b/\P.underlying t=some d/\aEd b d) \/∃cL,kk=.agg cL/\mH P t=some cL/\(match P.underlying t with|some (.array _ _)|some (.struct _)=>true|_=>false)=true:=by
 unfold iB at h;split at h<;>try (simp at h;done)
 .rename_i k hk;simp at h;subst h;exact .inl ⟨_,_,rfl,hk,_,rfl⟩
 .rename_i hk;simp at h;subst h;exact .inl ⟨_,_,rfl,hk,rfl⟩
 .rename_i hk;simp at h;subst h;exact .inl ⟨_,_,rfl,hk,rfl⟩
 .rename_i hk;simp only[G_]at h;obtain⟨o,a,rfl⟩:=h;exact .inr ⟨o,rfl,a,by rw[hk]⟩
 .rename_i hk;simp only[G_]at h;obtain⟨o,a,rfl⟩:=h;exact .inr ⟨o,rfl,a,by rw[hk]⟩
theorem mK{t:TypeId}{kk:KK}(j:iB P t=some kk){k:IV}{f:Value}(g:IR M k f){es:Tr_}{l:List MapEntry}{r:Option (Nat×TV)}(e:ER M J es l)(h:findKey kk k es 0=some r): ∃a,(Instr.findKey t f l).run P w=.ok a w/\RF M J r a:=by
 rcases vT j with⟨p,d,rfl,i,o⟩|⟨cL,rfl,m,n⟩;.obtain⟨a,c,b⟩:=yF o g e h;exact⟨a,by simp[Instr.findKey,und i,c],b⟩
 .obtain⟨a,c,b⟩:=tH (P:=P) (w:=w) m g e h;exact⟨a,by rw[run_findKey_eq w n];exact c,b⟩
theorem vU{t:TypeId}{k:LK}(a:vN P t=some k)(b:Bool)(n:Nat)(v:Value):(Instr.checkKey b (n+1) t v).run P w=.ok () w:=by unfold vN at a;unfold Instr.checkKey;split at a<;>simp at a<;>(rename_i hd;simp only[Sem.run_bind,und hd w,Result.andThen_ok];rfl)
theorem rW(c:Bool)(n:Nat){vs:Array Value}:∀ {b:List Field} {cL:List (Nat×LK)},wJ P b=some cL->(∀o∈cL,o.1<vs.size)->∀ {f:Field->PUnit->Sem (ForInStep PUnit)},
  (∀ x, f x PUnit.unit = (if x.name ≠ "_" then (part x.type vs x.offset >>= fun u => Instr.checkKey c (n + 1) x.type u >>= fun _ => Pure.pure (ForInStep.yield PUnit.unit)) else Pure.pure (ForInStep.yield PUnit.unit))) →
  (forIn b PUnit.unit f).run P w=.ok PUnit.unit w
 |[],_,_,_,_,_=>B_
 |x::b,cL,h,ho,f,hf=>by
  simp only[wJ]at h;split at h
  .rename_i hn;split at h;.rename_i k l hk hl;simp at h;subst h;have a:x.offset<vs.size:=ho (x.offset,k) B_;have e:=iJ (P:=P) (w:=w) hk (A8 a);simp only[List.forIn_cons,hf,Sem.run_bind,K_ hn,e,Result.andThen_ok,vU hk c n,Sem.run_pure];exact rW c n hl (fun o d=>ho o (by simp[d])) hf
   .simp at h
  .simp at h
theorem kU{t:TypeId}{kk:KK}(z:iB P t=some kk){k:IV}{s:Value}(E:IR M k s)(r:gX kk k=true)(g:Bool):(Instr.checkKey g 10000 t s).run P w=.ok () w:=by
 show(Instr.checkKey g (9999+1) t s).run P w=.ok () w;rcases vT z with⟨p,d,rfl,v,h⟩|⟨cL,rfl,a,H⟩
 .unfold Instr.checkKey;simp only[Sem.run_bind,und v w,Result.andThen_ok];cases p with
  |bool=>simp only[aEd]at h;subst h;rfl
  |int=>obtain⟨q,rfl⟩:=h;rfl
  |str=>simp only[aEd]at h;subst h;rfl
 .have l:∃cs,k=.agg cs/\∀o∈cL,o.1<cs.length:=by
   cases k with
   |agg cs =>refine⟨cs,rfl,fun o D=>?_⟩;simp only[gX,C6,q_]at r;exact r o D
   |_=>simp[gX]at r
  obtain⟨cs,rfl,c⟩:=l;obtain⟨vs,rfl,A,G⟩:=E.agg_inv;rw[<-A]at c;unfold mH at a;split at a
  .rename_i fs hu;split at a;.simp at a
   .rw[Instr.checkKey];simp only[Sem.run_bind,und hu w,Result.andThen_ok];rw[<-Array.forIn_toList];rw[rW g 9998 a c (fun x=>by split<;>simp_all)];rfl
  .rename_i n e hu;split at a
   .rename_i p hlk;split at a
    .rename_i hsz;simp at a;subst a;rw[Instr.checkKey];simp only[Sem.run_bind,und hu w,Result.andThen_ok];simp only[Std.Legacy.Range.forIn_eq_forIn_range',Std.Legacy.Range.size,Nat.sub_zero,Nat.add_one_sub_one,Nat.div_one];have b:∀i∈List.range' 0 n,i<vs.size:=by
      intro i u;have u:i<n:=by simpa using u
      exact c (i,p) (A0.2 ⟨i,C5.2 u,rfl⟩)
     generalize List.range' 0 n=f at b;have:∀(f:Tc_),(∀i∈f,i<vs.size)->(forIn f PUnit.unit fun i (_:PUnit)=>(do
       let __do_lift <-sizeOf e
       let __do_lift <-part e vs (i*__do_lift)
       Instr.checkKey g 9999 e __do_lift
       Pure.pure (ForInStep.yield PUnit.unit):Sem (ForInStep PUnit))).run P w=.ok PUnit.unit w:=by
      intro f
      induction f with
      |nil=>intro _;simp
      |cons j f ih =>
       intro b;have m:j*1<vs.size:=by rw[I8];exact b j B_
       have F:=iJ (P:=P) (w:=w) hlk (A8 m);simp only[List.forIn_cons,Sem.run_bind,run_size? hsz,F,Result.andThen_ok,vU hlk g 9998,Sem.run_pure];exact ih (fun y C=>b y (by simp[C]))
     rw[this f b];rfl
    .simp at a
   .simp at a
  .simp at a
theorem aA6{i:Nat}{l:Loc}(h:WR P O M J S w)(j:J.at i l){es:Tr_}{a:Nat}(f:S[i]?=some (.mp es a)):∃es',w.heap[l.cb]?=some (.map es' a)/\ER M J es es'.toList/\l.loose=false:=by obtain⟨es',b,e,h3,c⟩:=bE2 h j f;exact⟨es',b,⟨by simpa using e,fun k x y d g=>h3 k x y d (by simpa using g)⟩,c⟩
theorem ER.get{es:Tr_}{l:List MapEntry}(h:ER M J es l){k:Nat}{x:Nat×IV×TV}(b:es[k]?=some x):∃y,l[k]?=some y/\y.born=x.1/\IR M x.2.1 y.key/\VR M J [] x.2.2 y.val:=by
 have a:k<l.length:=by rw[h.1];exact(E_.1 b).1
 exact⟨l[k],D_ a,h.2 k x _ b (D_ a)⟩
theorem ER.push{es:Tr_}{l:List MapEntry}(h:ER M J es l){x:Nat×IV×TV}{y:MapEntry}(e:y.born=x.1)(f:IR M x.2.1 y.key)(h3:VR M J [] x.2.2 y.val):ER M J (es++[x]) (l++[y]):=by
 refine⟨by simp[h.1],fun k a b c d=>?_⟩;rw[F7]at c d;split at c;.rename_i hk;rw[K_ (by rw[h.1];exact hk)]at d;exact h.2 k a b c d
 .rename_i hk;rw[I_ (by rw[h.1];exact hk),h.1]at d;have:k-es.length=0:=by have:=(E_.1 c).1;simp at this;omega
  rw[this]at c d;simp at c d;subst c;subst d;exact⟨e,f,h3⟩
theorem ER.modify{es:Tr_}{l:List MapEntry}(h:ER M J es l)(n:Nat){f:Nat×IV×TV->Nat×IV×TV}{g:MapEntry->MapEntry} (j:∀x y,es[n]?=some x->l[n]?=some y->(g y).born=(f x).1/\IR M (f x).2.1 (g y).key/\VR M J [] (f x).2.2 (g y).val):ER M J (es.modify n f) (l.modify n g):=by
 refine⟨by simp[h.1],fun k a b c d=>?_⟩;rw[List.getElem?_modify]at c d;by_cases hk:n=k;.subst hk;simp only[K_,Option.map_eq_map,G_]at c d;obtain⟨x,i,rfl⟩:=c;obtain⟨y,e,rfl⟩:=d;exact j x y i e
 .simp only[I_ hk,Option.map_eq_map,Option.map_id']at c d;exact h.2 k a b c d
theorem ER.erase{es:Tr_}{l:List MapEntry}(h:ER M J es l)(n:Nat):ER M J (es.eraseIdx n) (l.eraseIdx n):=by
 refine⟨by simp[Q9,h.1],fun k a b d c=>?_⟩;rw[List.getElem?_eraseIdx]at d c;split at d;.rename_i hk;rw[K_ hk]at c;exact h.2 k a b d c
 .rename_i hk;rw[I_ hk]at c;exact h.2 (k+1) a b d c
theorem fX{r:Nat}{a o':Obj}(h:w.heap[r]?=some a)(b:∀c e f,a≠.cells c e f):(setObj r o').run P w=.ok () {w with heap:=w.heap.setIfInBounds r o'}:=by cases a<;>simp_all[setObj,Sem.run]
theorem aGa{r:Nat}{b o':Obj}(h:w.heap[r]?=some b):(w.heap.setIfInBounds r o')[r]?=some o':=by have a:=fZ h;simp[a]
theorem aEe(h:MS P O K M J L S env w){i:Nat}{l:Loc}(k:J.at i l){f o':Obj}(g:w.heap[l.cb]?=some f){s':aG}(j:∀o,M l.cb o=none) (d:∀w':World,w'.heap[l.cb]?=some o'->BR P O M J w' l s'):MS P O K M J L (S.set i s') env {w with heap:=w.heap.setIfInBounds l.cb o'} /\Tr (cS L) M J S w M J (S.set i s') {w with heap:=w.heap.setIfInBounds l.cb o'}:=by obtain⟨a,b⟩:=h.wr.write (fun _=>False) k (w':={w with heap:=w.heap.setIfInBounds l.cb o'}) (d _ (aGa g)) B_ (fun b e=>by simp[B0 e]) ⟨rfl,rfl,rfl⟩ (fun o v c=>by rw[j]at c;simp at c);exact h.step' a b
theorem tJ(h:WR P O M J S w){b:Nat}{a:Obj}(d:w.heap[b]?=some a)(g:∀c e f,a≠.cells c e f)(o:Nat):M b o=none:=by
 cases hm:M b o with
 |none=>rfl
 |some v =>have:=h.imm b o v hm;unfold World.cell? at this;rw[d]at this;cases a<;>simp_all
theorem oC(h:MS P O K M J L S env w){i:Nat}{l:Loc}(j:J.at i l)(c:l.loose=false){es es2:Array MapEntry}{a clock2:Nat}(e:w.heap[l.cb]?=some (.map es a)){ts:Tr_}(d:ER M J ts es2.toList): MS P O K M J L (S.set i (.mp ts clock2)) env {w with heap:=w.heap.setIfInBounds l.cb (.map es2 clock2)}/\Tr (cS L) M J S w M J (S.set i (.mp ts clock2)) {w with heap:=w.heap.setIfInBounds l.cb (.map es2 clock2)} :=
 aEe h j e (fun o=>tJ h.wr e B_ o) (fun w' b=>.mp ts clock2 es2 c b (by simpa using d.1) (fun k x y g f=>d.2 k x y g (by simpa using f)))
theorem aHn{t:TypeId}{z:IV}(h:aAv P t=some z):∃a,(∀w,(zeroValue t).run P w=.ok a w)/\IR M z a:=by
 unfold aAv at h;split at h
 .rename_i i hi;split at h;.rename_i a hz;exact⟨a,fun w=>by simp[zeroValue,typeInfo,hi,hz],aVq h⟩
  .simp at h
 .simp at h
theorem aEf{o:Oper}{t kt el:TypeId}{m k:Operand}{A:Bool}(h0:o.op=.lookup t m k A)(ht:P.underlying t=some (.map kt el)){kk:KK}(D:iB P kt=some kk){W:IV}(hz:aAv P el=some W) (a:Act) (h:MS P O K M J L S env w) {e1 e2 r:TV} (R:VR M J L e1 (a.eval m)) (h2:VR M J L e2 (a.eval k)) {ki:IV} (hk:lH e2=some ki) (h5:gX kk ki=true) {e:Option (Nat×TV)} (E:(e1=.iv .nilm/\e=none)\/∃j es f,e1=.map j/\S[j]?=some (.mp es f)/\findKey kk ki es 0=some e) (hr:r=(match e with|some (_,x)=>if A then .tup [x,.iv (.bool true)]else x|none=>if A then .tup [.iv W,.iv (.bool false)]else .iv W)) {top:TOp} (G:aP top=none): cK P O K top M J L S env w (execOp a.eval o) r env S:=by
 obtain⟨zv,Q,z⟩:=aHn (M:=M) hz;have C:=xY hk h2;have fin:∀(es:Array MapEntry) (c:Option (Nat×Value)),(Instr.findKey kt (a.eval k) es.toList).run P w=.ok c w->RF M J e c ->
   ((∃b,a.eval m=.map (some b)/\∃cl,w.heap[b]?=some (.map es cl))\/(a.eval m=.map none/\es=#[]))->cK P O K top M J L S env w (execOp a.eval o) r env S:=by
  intro es c T F Y
  have I:=kU (w:=w) D C h5 es.isEmpty
  have N:∃u,(execOp a.eval o).run P w=.ok (.value u) w/\VR M J L r u:=by
   have V:(Instr.lookup t (a.eval m) (a.eval k) A).run P w=match c with
     |some (_,v)=>.ok (if A then .tuple #[v,.bool true]else v) w
     |none=>.ok (if A then .tuple #[zv,.bool false]else zv) w:=by
    rcases Y with⟨b,H,cl,Z⟩|⟨H,rfl⟩
    .simp only[Instr.lookup,Sem.run_bind,und ht,Result.andThen_ok,H,cM Z B_,Sem.run_pure,I,T]
     cases c with
     |none=>simp[Q]
     |some p=>simp
    .simp only[Instr.lookup,Sem.run_bind,und ht,Result.andThen_ok,H,Sem.run_pure,I,T]
     cases c with
     |none=>simp[Q]
     |some p=>simp
   subst hr;simp only[execOp,h0,Sem.run_bind,V];cases e with
   |none =>
    cases c with
    |some p=>simp[RF]at F
    |none =>
     cases A with
     |true=>exact⟨_,rfl,.tup _ _ _ B_ (fun i x v d g=>by
       cases i with
       |zero=>simp at d g;subst d;subst g;exact .iv _ z
       |succ i =>
        cases i with
        |zero=>simp at d g;subst d;subst g;exact .iv _ (.bool _)
        |succ i=>simp at d)⟩
     |false=>exact⟨_,rfl,.iv _ z⟩
   |some q =>
    cases c with
    |none=>simp[RF]at F
    |some p =>
     obtain⟨n,x⟩:=q;obtain⟨n',v⟩:=p;obtain⟨rfl,g⟩:=F;cases A with
     |true=>exact⟨_,rfl,.tup _ _ _ B_ (fun i x v d s=>by
       cases i with
       |zero=>simp at d s;subst d;subst s;exact g
       |succ i =>
        cases i with
        |zero=>simp at d s;subst d;subst s;exact .iv _ (.bool _)
        |succ i=>simp at d)⟩
     |false=>exact⟨_,rfl,g.ofNil⟩
  obtain⟨u,hu,g⟩:=N
  exact .pure G h hu g
 rcases E with⟨rfl,rfl⟩|⟨j,es,f,rfl,hs,T⟩
 .have Y:a.eval m=.map none:=by generalize a.eval m=v at R;cases R.iv_inv;rfl
  refine fin #[] none ?_ trivial (.inr ⟨Y,rfl⟩);obtain⟨U,q1,q2⟩:=mK (P:=P) (w:=w) (J:=J) D C (es:=[]) (l:=[]) (r:=none) ⟨rfl,fun k x y d=>by simp at d⟩ rfl;cases U with
  |none=>exact q1
  |some p=>simp[RF]at q2
 .generalize hva:a.eval m=v at R;cases R with
  |map L j l hJ hlo =>obtain⟨es',H,h4,_⟩:=aA6 h.wr hJ hs;obtain⟨U,q1,q2⟩:=mK (P:=P) (w:=w) D C h4 T;exact fin es' U q1 q2 (.inl ⟨_,hva,_,H⟩)
theorem aEg{o:Oper}{t Y el:TypeId}{m k v:Operand}(q:o.op=.mapUpdate t m k v\/o.op=.insert t m k v)(Z:P.underlying t=some (.map Y el)){kk:KK}(G:iB P Y=some kk)(a:Act)(h:MS P O K M J L S env w) {j:Nat} {e2 e3:TV} (W:VR M J L (.map j) (a.eval m)) (h2:VR M J L e2 (a.eval k)) (h3:VR M J L e3 (a.eval v)) (T:cA e3=false) {z:IV} (hk:lH e2=some z) (R:gX kk z=true) {es:Tr_} {d:Nat} (hs:S[j]?=some (.mp es d)) {A:Option (Nat×TV)} (hf:findKey kk z es 0=some A) (I:match A with
   |some (n,_)=>((es[n]?).map fun y=>gZ y.2.1 z).getD false=true/\S'=S.set j (.mp (es.modify n fun y=>(y.1,z,e3)) d)
   |none=>S'=S.set j (.mp (es++[(d,z,e3)]) (d+1))) {top:TOp} (s:aP top=none):
  cK P O K top M J L S env w (execOp a.eval o) undef env S':=by
 have g:=xY hk h2
 have E:VR M J [] e3 (a.eval v):=h3.frame T
 generalize hva:a.eval m=vm at W
 cases W with
 |map L j l hJ hlo =>
  obtain⟨es',C,i,_⟩:=aA6 h.wr hJ hs;obtain⟨V,q1,N⟩:=mK (P:=P) (w:=w) G g i hf;have F:=kU (w:=w) G g R false;have u:(execOp a.eval o).run P w=((Instr.mapUpdate t (.map (some l.cb)) (a.eval k) (a.eval v)).run P w).andThen fun _ w'=>.ok .skip w':=by rcases q with q|q<;>simp[execOp,q,hva]
  cases A with
  |none =>
   cases V with
   |some p=>simp[RF]at N
   |none =>simp only at I;subst I;obtain⟨b,c⟩:=oC h hJ hlo C (clock2:=d+1) (es2:=es'.push {key:=a.eval k,val:=a.eval v,born:=d}) (ts:=es++[(d,z,e3)]) (by rw[Array.toList_push];exact i.push rfl g E);refine .mk0 s (r:=.skip) ?_ (.inr ⟨rfl,rfl⟩) b c (.refl _);rw[u];simp[Instr.mapUpdate,und Z,cM C,F,q1,fX C]
  |some p0 =>
   obtain⟨n,x0⟩:=p0;cases V with
   |none=>simp[RF]at N
   |some p =>
    obtain⟨n',v0⟩:=p;obtain⟨rfl,h0⟩:=N;obtain⟨f,rfl⟩:=I;obtain⟨y,D⟩:∃y,es[n]?=some y:=by
     cases D:es[n]? with
     |none=>simp[D]at f
     |some y=>exact⟨y,rfl⟩
    simp[D]at f;obtain⟨y',Q,p1,p2,p3⟩:=i.get D;have H:es'[n]?=some y':=by simpa using Q
    have U:=yD (P:=P) (w:=w) f p2 g;obtain⟨b,c⟩:=oC h hJ hlo C (clock2:=d) (es2:=es'.modify n fun e=>{e with key:=a.eval k,val:=a.eval v}) (ts:=es.modify n fun y=>(y.1,z,e3)) (by rw[R6];refine i.modify n fun x y hx D=>?_;exact⟨(i.2 n x y hx D).1,g,E⟩);refine .mk0 s (r:=.skip) ?_ (.inr ⟨rfl,rfl⟩) b c (.refl _);rw[u];simp[Instr.mapUpdate,und Z,cM C,F,q1,H,U,fX C]
theorem aHo{o:Oper}{t kt el:TypeId}{m k:Operand}(Q:o.op=.mapEntry t m k)(ht:P.underlying t=some (.map kt el)){kk:KK}(N:iB P kt=some kk){U:IV}(H:aAv P el=some U)(a:Act)(h:MS P O K M J L S env w) {j:Nat} {e2:TV} (h1:VR M J L (.map j) (a.eval m)) (h2:VR M J L e2 (a.eval k)) {E:IV} (hk:lH e2=some E) (h5:gX kk E=true) {es:Tr_} {d:Nat} (hs:S[j]?=some (.mp es d)) {G:Option (Nat×TV)} (hf:findKey kk E es 0=some G) {r:TV} (Z:match G with
   |some (n,x)=>((es[n]?).map fun y=>gZ y.2.1 E).getD false=true/\r=.tup [x,.iv (.int .i64 (((es[n]?).map (·.1)).getD 0:Nat))]/\S'=S.set j (.mp (es.modify n fun y=>(y.1,E,y.2.2)) d)
   |none=>r=.tup [.iv U,.iv (.int .i64 d)]/\S'=S.set j (.mp (es++[(d,E,.iv U)]) (d+1))) {top:TOp} (C:aP top=none):
  cK P O K top M J L S env w (execOp a.eval o) r env S':=by
 obtain⟨zv,h0,D⟩:=aHn (M:=M) H
 have s:=xY hk h2
 have F:∀ {x y:TV} {u v:Value},VR M J [] x u->VR M J [] y v->VR M J L (.tup [x,y]) (.tuple #[u,v]):=by
  intro x y u v V A;refine .tup _ _ _ B_ (fun i z q H W=>?_);cases i with
  |zero=>simp at H W;subst H;subst W;exact V
  |succ i =>
   cases i with
   |zero=>simp at H W;subst H;subst W;exact A
   |succ i=>simp at H
 generalize hva:a.eval m=vm at h1
 cases h1 with
 |map L j l hJ hlo =>
  obtain⟨es',I,g,_⟩:=aA6 h.wr hJ hs;obtain⟨r',q1,q2⟩:=mK (P:=P) (w:=w) N s g hf;have R:=kU (w:=w) N s h5 false;cases G with
  |none =>
   cases r' with
   |some p=>simp[RF]at q2
   |none =>simp only at Z;obtain⟨rfl,rfl⟩:=Z;obtain⟨b,c⟩:=oC h hJ hlo I (clock2:=d+1) (es2:=es'.push {key:=a.eval k,val:=zv,born:=d}) (ts:=es++[(d,E,.iv U)]) (by rw[Array.toList_push];exact g.push rfl s (.iv _ D));refine .mk0 C (r:=.value (.tuple #[zv,.int .i64 d])) ?_ (.inl ⟨_,rfl,F (.iv _ D) (.iv _ (.int _ _))⟩) b c (.refl _);simp[execOp,Q,hva,Instr.mapEntry,und ht,cM I,R,q1,h0,fX I,goInt]
  |some p0 =>
   obtain⟨n,x0⟩:=p0;cases r' with
   |none=>simp[RF]at q2
   |some p =>
    obtain⟨n',v0⟩:=p;obtain⟨rfl,Y⟩:=q2;obtain⟨f,rfl,rfl⟩:=Z;obtain⟨y,A⟩:∃y,es[n]?=some y:=by
     cases A:es[n]? with
     |none=>simp[A]at f
     |some y=>exact⟨y,rfl⟩
    simp[A]at f;obtain⟨y',h4,p1,p2,p3⟩:=g.get A;have T:es'[n]?=some y':=by simpa using h4
    have h6:=yD (P:=P) (w:=w) f p2 s;obtain⟨b,c⟩:=oC h hJ hlo I (clock2:=d) (es2:=es'.modify n fun e=>{e with key:=a.eval k}) (ts:=es.modify n fun y=>(y.1,E,y.2.2)) (by rw[R6];refine g.modify n fun x y V A=>?_;exact⟨(g.2 n x y V A).1,s,(g.2 n x y V A).2.2⟩);refine .mk0 C (r:=.value (.tuple #[v0,.int .i64 y.1])) ?_ (.inl ⟨_,rfl,?_⟩) b c (.refl _);.simp[execOp,Q,hva,Instr.mapEntry,und ht,cM I,R,q1,T,h6,fX I,goInt,p1]
    .rw[A];exact F Y (.iv _ (.int _ _))
theorem yG:∀ {es:Tr_} {l:List MapEntry} (b:Int),ER M J es l->l.findIdx? (fun e=>(e.born:Int)==b)=es.findIdx? (fun y=>(y.1:Int)==b)
 |[],l,b,h=>by have:l=[]:=Z_ (by simpa using h.1);subst this;rfl
 |e::es,l,b,h=>by obtain⟨y,l',rfl,a,_,_,c⟩:=h.cons_inv;simp only[P0,a,yG b c]
theorem aEh{o:Oper}{t:TypeId}{m s v:Operand}(u:o.op=.entryStore t m s v)(a:Act)(h:MS P O K M J L S env w){j:Nat}{e2 e3:TV}(C:VR M J L (.map j) (a.eval m))(F:VR M J L e2 (a.eval s)) (h3:VR M J L e3 (a.eval v)) (A:cA e3=false) {born:Int} (g:fB e2=some born) {es:Tr_} {d:Nat} (G:S[j]?=some (.mp es d)) {n:Nat} (H:es.findIdx? (fun y=>(y.1:Int)==born)=some n) {top:TOp} (i:aP top=none):cK P O K top M J L S env w (execOp a.eval o) undef env (S.set j (.mp (es.modify n fun y=>(y.1,y.2.1,e3)) d)):=by
 have z:VR M J [] e3 (a.eval v):=h3.frame A;obtain⟨I,q⟩:=kQ g F;generalize hva:a.eval m=vm at C;cases C with
 |map L j l hJ hlo =>
  obtain⟨es',p,f,_⟩:=aA6 h.wr hJ G;have k:es'.findIdx? (fun e=>(e.born:Int)==born)=some n:=by obtain⟨N⟩:=es';rw[<-H,<-yG born f];exact List.findIdx?_toArray ..
  obtain⟨b,c⟩:=oC h hJ hlo p (clock2:=d) (es2:=es'.modify n fun e=>{e with val:=a.eval v}) (ts:=es.modify n fun y=>(y.1,y.2.1,e3)) (by rw[R6];refine f.modify n fun x y E D=>?_;exact⟨(f.2 n x y E D).1,(f.2 n x y E D).2.1,z⟩);refine .mk0 i (r:=.skip) ?_ (.inr ⟨rfl,rfl⟩) b c (.refl _);simp[execOp,u,hva,q,Instr.entryStore,cM p,asInt,asIntOf,k,fX p]
theorem bFb{α:Type}{l:List α}{i:Nat}{x:α}(h:l[i]?=some x):l.set i x=l:=by
 apply List.ext_getElem?;intro k;by_cases hk:k=i;.subst hk;rw[C7 (E_.1 h).1,h]
 .rw[B3 A_]
theorem aYb{t C el ty:TypeId}{ts:Array TypeId}(v:ts[0]?=some t)(s:P.underlying t=some (.map C el)){kk:KK}(g:iB P C=some kk)(h:MS P O K M J L S env w){x e2:TV}{D E:Value}(A:VR M J L x D) (G:VR M J L e2 E) {u:IV} (I:lH e2=some u) (o:gX kk u=true) (m:(x=.iv .nilm/\S'=S)\/∃j es a d,x=.map j/\S[j]?=some (.mp es a)/\findKey kk u es 0=some d/\S'=(match d with|some (n,_)=>S.set j (.mp (es.eraseIdx n) a)|none=>S)): ∃w',(Builtin.delete_ ts ty #[D,E]).run P w=.ok (.tuple #[]) w'/\MS P O K M J L S' env w'/\Tr (cS L) M J S w M J S' w':=by
 have f:=xY I G;rcases m with⟨rfl,rfl⟩|⟨j,es,a,d,rfl,z,N,m⟩
 .cases A.iv_inv
  have e:=kU (w:=w) g f o true;exact⟨w,by simp[Builtin.delete_,v,und s,e],h,.refl _ _ _ _ _⟩
 .cases A with
  |map L j l hJ hlo =>
   obtain⟨es',k,i,_⟩:=aA6 h.wr hJ z;obtain⟨y,F,q⟩:=mK (P:=P) (w:=w) g f i N;have e:=kU (w:=w) g f o es'.isEmpty;cases d with
   |none =>
    cases y with
    |some p=>simp[RF]at q
    |none =>simp only at m;subst m;obtain⟨b,c⟩:=oC h hJ hlo k (clock2:=a) (es2:=es') (ts:=es) i;rw[bFb z]at b c;exact⟨_,by simp[Builtin.delete_,v,und s,cM k,e,F,fX k],b,c⟩
   |some p0 =>
    obtain⟨n,x0⟩:=p0;cases y with
    |none=>simp[RF]at q
    |some p =>
     obtain⟨Q,R⟩:=p;obtain⟨rfl,H⟩:=q;simp only at m;subst m;obtain⟨b,c⟩:=oC h hJ hlo k (clock2:=a) (es2:=es'.eraseIdxIfInBounds n) (ts:=es.eraseIdx n) (by
      have:(es'.eraseIdxIfInBounds n).toList=es'.toList.eraseIdx n:=by
       unfold Array.eraseIdxIfInBounds;split;.simp
       .rename_i hlt;rw[List.eraseIdx_of_length_le (by simpa using hlt)]
      rw[this];exact i.erase n)
     exact⟨_,by simp[Builtin.delete_,v,und s,cM k,e,F,fX k],b,c⟩
theorem bFc(h:MS P O K M J L S env w)(a:Obj)(s:aG) (f:∀(J':aF) (w':World) (l:Loc),JLe J J'->l.loose=false->w'.heap[l.cb]?=some a->BR P O M J' w' l s):∃J' l,l.loose=false/\l.cb=w.heap.size/\MS P O K M J' L (S++[s]) env (w.alloc a) /\Tr (cS L) M J S w M J' (S++[s]) (w.alloc a)/\J'.at S.length l:=by
 have g:M.ext w.heap.size (fun _=>none)=M:=tB h.wr.none_at;let l:Loc:={cb:=w.heap.size,d:=0,ver:=0,cap:=0,es:=0,size:=0,loose:=false}
 have e:=h.wr.push (fun _=>False) a (fun _=>none) l s rfl (fun o v i=>by simp at i) (by rw[g];exact f _ _ l (.push _ _) rfl (dA w _));rw[g]at e;obtain⟨b,c⟩:=h.step' e.1 e.2;refine⟨_,l,rfl,rfl,b,c,?_⟩;unfold aF.at
 rw[<-h.wr.len];simp
theorem aEi{f:Obj}{s:aG}{top:TOp}(d:aP top=none)(h:MS P O K M J L S env w)(g:∀(J':aF) (w':World) (l:Loc),JLe J J'->l.loose=false->w'.heap[l.cb]?=some f->BR P O M J' w' l s){k:Sem Next} (e:k.run P w=.ok (.value (.pointer (some ⟨w.heap.size,0,none⟩))) (w.alloc f)):cK P O K top M J L S env w k (.it S.length) env (S++[s]):=by obtain⟨J',l,j,i,a,b,c⟩:=bFc h f s g;refine .mk0 d e (.inl ⟨_,rfl,?_⟩) a b (.refl _);rw[<-i];exact .it _ _ l c j
theorem aQ9{o:Oper}{t:TypeId}{x:Operand}(c:o.op=.range t x)(e:P.underlying t=some .string)(a:Act)(h:MS P O K M J L S env w){s:List UInt8}(d:VR M J L (.iv (.str s)) (a.eval x)){top:TOp}(b:aP top=none): cK P O K top M J L S env w (execOp a.eval o) (.it S.length) env (S++[.sit s 0]) :=
 aEi b h (fun _ _ _ _ g f=>.sit s 0 g f) (by simp[execOp,c,Instr.range,und e,d.str_inv])
theorem aRa{o:Oper}{t i el:TypeId}{x:Operand}(c:o.op=.range t x)(e:P.underlying t=some (.map i el))(a:Act)(h:MS P O K M J L S env w)(d:VR M J L (.iv .nilm) (a.eval x)){top:TOp}(b:aP top=none): cK P O K top M J L S env w (execOp a.eval o) (.it S.length) env (S++[.mit none 0 [] 0]):=by
 have f:a.eval x=.map none:=by generalize a.eval x=v at d;cases d.iv_inv;rfl
 exact aEi b h (fun _ _ _ _ j g=>.mitN 0 [] 0 j g) (by simp[execOp,c,Instr.range,und e,f])
theorem aRb{o:Oper}{t n el:TypeId}{x:Operand}(f:o.op=.range t x)(k:P.underlying t=some (.map n el))(a:Act)(h:MS P O K M J L S env w){j:Nat}(g:VR M J L (.map j) (a.eval x)){es:Tr_}{b:Nat} (m:S[j]?=some (.mp es b)) {top:TOp} (c:aP top=none):cK P O K top M J L S env w (execOp a.eval o) (.it S.length) env (S++[.mit (some j) b [] b]):=by
 generalize hva:a.eval x=v at g;cases g with
 |map L j l hJ hlo =>obtain⟨es',d,i,_⟩:=aA6 h.wr hJ m;exact aEi c h (fun J' w' l' e p d=>.mit j l b [] b p (e.fixed hJ hlo) hlo d) (by simp[execOp,f,Instr.range,und k,hva,cM d])
theorem aVv{x y z:TV}{u v q:Value}(e:VR M J [] x u)(g:VR M J [] y v)(f:VR M J [] z q):VR M J L (.tup [x,y,z]) (.tuple #[u,v,q]):=by
 refine .tup _ _ _ B_ (fun i a b c d=>?_);match i,c,d with
 |0,c,d=>simp at c d;subst c;subst d;exact e
 |1,c,d=>simp at c d;subst c;subst d;exact g
 |2,c,d=>simp at c d;subst c;subst d;exact f
 |i+3,c,d=>simp at c
theorem bMp{x y:TV}{u v:Value}(e:VR M J [] x u)(f:VR M J [] y v):VR M J L (.tup [x,y]) (.tuple #[u,v]):=by
 refine .tup _ _ _ B_ (fun i a b c d=>?_);match i,c,d with
 |0,c,d=>simp at c d;subst c;subst d;exact e
 |1,c,d=>simp at c d;subst c;subst d;exact f
 |i+2,c,d=>simp at c
theorem aKi{x:TV}{u:Value}(e:VR M J [] x u):VR M J L (.tup [x]) (.tuple #[u]):=by
 refine .tup _ _ _ B_ (fun i a b c d=>?_);match i,c,d with
 |0,c,d=>simp at c d;subst c;subst d;exact e
 |i+1,c,d=>simp at c
theorem aYc{o:Oper}{x:Operand}(g:o.op=.next x true)(a:Act)(h:MS P O K M J L S env w){j:Nat}(m:VR M J L (.it j) (a.eval x)){s:List UInt8}{pos:Nat}(n:S[j]?=some (.sit s pos)){top:TOp} (d:aP top=none): (pos<s.length->cK P O K top M J L S env w (execOp a.eval o) (.tup [.iv (.bool true),.iv (.int .i64 pos),.iv (.int .i32 (Utf8.decode ⟨s.toArray⟩ pos).1)]) env (S.set j (.sit s (pos+(Utf8.decode ⟨s.toArray⟩ pos).2)))) /\(¬pos<s.length->cK P O K top M J L S env w (execOp a.eval o) (.tup [.iv (.bool false)]) env S):=by
 generalize hva:a.eval x=v at m;cases m with
 |it L j l hJ hlo =>
  have k:=h.wr.blk j l _ hJ n;cases k with
  |sit s pos hl hb =>
   refine⟨fun e=>?_,fun e=>?_⟩
   .obtain⟨b,c⟩:=aEe h hJ hb (s':=.sit s (pos+(Utf8.decode ⟨s.toArray⟩ pos).2)) (fun o=>tJ h.wr hb B_ o) (fun w' i=>.sit _ _ hl i);refine .mk0 d (r:=.value (.tuple #[.bool true,.int .i64 pos,.int .i32 (Utf8.decode ⟨s.toArray⟩ pos).1])) ?_ (.inl ⟨_,rfl,aVv (.iv _ (.bool _)) (.iv _ (.int _ _)) (.iv _ (.int _ _))⟩) b c (.refl _);have f:pos<(⟨s.toArray⟩:ByteArray).size:=by rw[oS];exact e
    simp[execOp,g,hva,Instr.next,cM hb,f,fX hb,goInt]
   .refine .pure d h (v':=.tuple #[.bool false]) ?_ (aKi (.iv _ (.bool _)));have f:¬pos<(⟨s.toArray⟩:ByteArray).size:=by rw[oS];exact e
    simp[execOp,g,hva,Instr.next,cM hb,f]
theorem aHp:∀ {es:Tr_} {l:List MapEntry} (b:Nat) {y:Nat×IV×TV},ER M J es l->es.find? (·.1==b)=some y->∃z,l.find? (·.born==b)=some z/\z.born=y.1/\IR M y.2.1 z.key/\VR M J [] y.2.2 z.val
 |[],l,b,y,h,hf=>by simp at hf
 |e::es,l,b,y,h,hf=>by
  obtain⟨z,l',rfl,a,d,h3,c⟩:=h.cons_inv;simp only[List.find?_cons]at hf;split at hf;.rename_i hq;simp at hf;subst hf;exact⟨z,by simp only[List.find?_cons,a,hq],a,d,h3⟩
  .rename_i hq;obtain⟨g,f,p2⟩:=aHp b c hf;exact⟨g,by simp only[List.find?_cons,a,hq,f],p2⟩
theorem aRc{o:Oper}{x:Operand}(q:o.op=.entry x)(a:Act)(h:MS P O K M J L S env w){j:Nat}(u:VR M J L (.it j) (a.eval x)){m e d f b:Nat}{c:Tc_}{es:Tr_} (A:S[j]?=some (.mit (some m) e c d)) (C:S[m]?=some (.mp es f)) (t:c.getLast? = some b) (p:f=d) {y:Nat×IV×TV} (E:es.find? (·.1==b)=some y) {top:TOp} (k:aP top=none): cK P O K top M J L S env w (execOp a.eval o) (.tup [.iv y.2.1,y.2.2]) env S:=by
 generalize hva:a.eval x=v at u;cases u with
 |it L j l hJ hlo =>
  have n:=h.wr.blk j l _ hJ A;cases n with
  |mit m lm e c d hl hJm hlm hb =>
   obtain⟨es',s,r,_⟩:=aA6 h.wr hJm C;obtain⟨z,D,p2,p3,F⟩:=aHp b r E;refine .pure k h (v':=.tuple #[z.key,z.val]) ?_ (bMp (.iv _ p3) F);have i:c.toArray.back? = some b:=by simpa using t
   have g:es'.find? (·.born==b)=some z:=by obtain⟨G⟩:=es';simpa using D
   subst p;simp[execOp,q,hva,Instr.entry,cM hb,cM s,i,g]
theorem ER.filter{es:Tr_}:∀ {l:List MapEntry},ER M J es l->∀(p:Tj_),ER M J (es.filter fun y=>p y.1) (l.filter fun e=>p e.born):=by
 induction es with
 |nil =>intro l h p;have:l=[]:=Z_ (by simpa using h.1);subst this;exact⟨rfl,fun k x y j=>by simp at j⟩
 |cons e es ih =>
  intro l h p;obtain⟨y,l',rfl,f,g,h3,i⟩:=h.cons_inv;have:=ih i p;simp only[E4,f];split
  .refine⟨by simp[this.1],fun k a b c d=>?_⟩;cases k with
   |zero=>simp at c d;subst c;subst d;exact⟨f,g,h3⟩
   |succ k=>exact this.2 k a b (by simpa using c) (by simpa using d)
  .exact this
theorem ER.append{es es2:Tr_}{l l2:List MapEntry}(h:ER M J es l)(k:ER M J es2 l2):ER M J (es++es2) (l++l2):=by
 refine⟨by simp[h.1,k.1],fun i a b d c=>?_⟩;rw[F7]at d c;split at d;.rename_i hi;rw[K_ (by rw[h.1];exact hi)]at c;exact h.2 i a b d c
 .rename_i hi;rw[I_ (by rw[h.1];exact hi),h.1]at c;exact k.2 _ a b d c
theorem aM7:∀ {es:Tr_} {l:List MapEntry} (p:Tj_),ER M J es l->l.all (fun e=>p e.born)=es.all fun y=>p y.1
 |[],l,p,h=>by have:l=[]:=Z_ (by simpa using h.1);subst this;rfl
 |e::es,l,p,h=>by obtain⟨y,l',rfl,a,_,_,b⟩:=h.cons_inv;simp only[List.all_cons,a,aM7 p b]
theorem bFd{ts:Tr_}{l:List MapEntry}(h:ER M J ts l)(b:Bool){A:List (Option (Nat×IV×TV))}{B:List (Option MapEntry)}(g:A=(if b then [none]else [])++ts.map some)(f:B=(if b then [none]else [])++l.map some): B.length=A.length/\∀c,c<A.length->(A[c]?=some none/\B[c]?=some none)\/∃y z,A[c]?=some (some y)/\B[c]?=some (some z)/\z.born=y.1/\IR M y.2.1 z.key/\VR M J [] y.2.2 z.val:=by
 have key:∀c,c<ts.length->∃y z,(ts.map some)[c]?=some (some y)/\(l.map some)[c]?=some (some z)/\z.born=y.1/\IR M y.2.1 z.key/\VR M J [] y.2.2 z.val:=by intro c a;obtain⟨z,e,d⟩:=h.get (D_ a);exact⟨ts[c],z,by simp[a],by simp[e],d⟩
 subst g;subst f;cases b with
 |false =>refine⟨by simp[h.1],fun c a=>.inr ?_⟩;simpa using key c (by simpa using a)
 |true =>
  refine⟨by simp[h.1],fun c a=>?_⟩;cases c with
  |zero=>exact .inl ⟨rfl,rfl⟩
  |succ c =>right;simpa using key c (by simpa using a)
theorem aYd{o:Oper}{x:Operand}(U:o.op=.next x false)(a:Act)(h:MS P O K M J L S env w){j:Nat}(hx:VR M J L (.it j) (a.eval x)){m d k i:Nat}{f:Tc_}{es:Tr_}
  (hs:S[j]?=some (.mit (some m) d f k)) (hm:S[m]?=some (.mp es i)) (hg:(!f.isEmpty&&!es.isEmpty&&es.all (fun y=>decide (y.1≥k)))=false) {g:List (Option (Nat×IV×TV))}
  (hc:g=(if((es.filter fun y=>!f.contains y.1).filter (·.1<d)).isEmpty then [none]else [])++(((es.filter fun y=>!f.contains y.1).filter (·.1<d))++((es.filter fun y=>!f.contains y.1).filter (·.1≥d))).map some) {top:TOp}
  (q:aP top=none):∃c,c<g.length/\((∃y,g[c]?=some (some y)/\cK P O K top M J L S env w (execOp a.eval o) (.tup [.iv (.bool true),.iv y.2.1,y.2.2]) env (S.set j (.mit (some m) d (f++[y.1]) i))) \/
   (g[c]?=some none/\cK P O K top M J L S env w (execOp a.eval o) (.tup [.iv (.bool false)]) env S)):=by
 generalize hva:a.eval x=v at hx;cases hx with
 |it L j l hJ hlo =>
  have h8:=h.wr.blk j l _ hJ hs;cases h8 with
  |mit m lm d f k hl hJm hlm hb =>
   obtain⟨es',h7,E,_⟩:=aA6 h.wr hJm hm;have n:=E.filter fun b=>!f.contains b;have t:=n.filter fun b=>decide (b<d);have h0:=n.filter fun b=>decide (b≥d);have N:=t.append h0;have R:((es.filter fun y=>!f.contains y.1).filter fun y=>decide (y.1<d)).isEmpty=((es'.toList.filter fun e=>!f.contains e.born).filter fun e=>decide (e.born<d)).isEmpty:=by rw[Bool.eq_iff_iff];simp only[W5,<-H4,t.1]
   let C:Array (Option MapEntry):=(if((es'.filter fun e=>!f.toArray.contains e.born).filter fun e=>decide (e.born<d)).isEmpty then #[none]else #[]) ++
    (((es'.filter fun e=>!f.toArray.contains e.born).filter fun e=>decide (e.born<d))++((es'.filter fun e=>!f.toArray.contains e.born).filter fun e=>decide (e.born≥d))).map some
   have h9:C.toList=(if((es.filter fun y=>!f.contains y.1).filter fun y=>decide (y.1<d)).isEmpty then [none]else []) ++
     (((es'.toList.filter fun e=>!f.contains e.born).filter fun e=>decide (e.born<d))++((es'.toList.filter fun e=>!f.contains e.born).filter fun e=>decide (e.born≥d))).map some:=by
    rw[R]
    have hl:∀p:MapEntry->Bool,(es'.filter p).toList=es'.toList.filter p:=fun p=>Y8
    have h1:∀(b:Bool),(if b=true then(#[none]:Array (Option MapEntry))else #[]).toList=if b=true then [none]else []:=by intro b;cases b<;>rfl
    have h2:∀a:Array MapEntry,a.isEmpty=a.toList.isEmpty:=fun a=>B_
    simp only[C,Y7,Q4,h1,h2,Y8,List.contains_toArray]
   obtain⟨W,V⟩:=bFd N _ hc h9;have A:0<g.length:=by
    rw[hc];split;.simp
    .rename_i hne;simp only[W5]at hne;have:=N2.2 hne;simp only[List.nil_append,L_,H_];omega
   have h4:(!f.toArray.isEmpty&&!es'.isEmpty&&es'.all (fun e=>decide (e.born≥k)))=false:=by
    have e1:f.toArray.isEmpty=f.isEmpty:=B_;have e2:es'.isEmpty=es.isEmpty:=by have:es'.isEmpty=es'.toList.isEmpty:=B_;rw[this,Bool.eq_iff_iff];simp only[W5,<-H4,E.1]
    have e3:es'.all (fun e=>decide (e.born≥k))=es.all fun y=>decide (y.1≥k):=by rw[<-aM7 (fun b=>decide (b≥k)) E];obtain⟨l0⟩:=es';simp
    rw[e1,e2,e3];exact hg
   have h5:C.size=g.length:=by rw[<-W];simp
   have ha:∃c F,c<g.length/\(choose (.mapNext C.size)).run P w=.ok c F/\MS P O K M J L S env F/\Tr (cS L) M J S w M J S F/\F.heap=w.heap:=by
    by_cases hf:C.size<=1;.exact⟨0,w,A,by simp[Question.forced,hf],h,.refl _ _ _ _ _,rfl⟩
    .obtain⟨hd,td⟩:=h.drew;refine⟨_,w.drew,?_,by simp[Question.forced,hf];rfl,hd,td.weaken (fun _ hf=>hf.elim),rfl⟩;simp only[Question.cut,h5];exact X6 _ A
   obtain⟨c,F,T,h6,G,Y,I⟩:=ha;have D:(Instr.next (.pointer (some ⟨l.cb,0,none⟩)) false o.type).run P w=((match C[c]? with
     |some (some e)=>(do setObj l.cb (.mapIter (some lm.cb) d (f.toArray.push e.born) i);Pure.pure (Value.tuple #[.bool true,e.key,e.val]):Sem Value)
     |some none=>Pure.pure (Value.tuple #[.bool false])
     | none => stuck "Next: no such candidate") : Sem Value).run P F := by
    simp only[Instr.next,Sem.run_bind,cM hb B_,Result.andThen_ok,cM h7 B_,h4,b_,J3]
    have u:=h6
    simp only[C]at u
    rw[u]
    rfl
   refine⟨c,T,?_⟩;rcases V c T with⟨q1,q2⟩|⟨y,z,q1,q2,q3,q4,q5⟩
   .right;have H:C[c]?=some none:=by simpa using q2
    refine⟨q1,.mk0 q (r:=.value (.tuple #[.bool false])) ?_ (.inl ⟨_,rfl,aKi (.iv _ (.bool _))⟩) G Y (.refl _)⟩;simp only[execOp,U,hva,Sem.run_bind,D,H];rfl
   .left;have H:C[c]?=some (some z):=by simpa using q2
    have Q:F.heap[l.cb]?=some (.mapIter (some lm.cb) d f.toArray k):=by rw[I];exact hb
    obtain⟨b1,c1⟩:=aEe G hJ Q (o':=.mapIter (some lm.cb) d (f.toArray.push z.born) i) (s':=.mit (some m) d (f++[y.1]) i) (fun o=>tJ G.wr Q B_ o) (fun w' Z=>by
     have hp:f.toArray.push z.born=(f++[y.1]).toArray:=by simp[q3]
     rw[hp]at Z;exact .mit m lm d _ i hl hJm hlm Z)
    refine⟨y,q1,.mk0 q (r:=.value (.tuple #[.bool true,z.key,z.val])) ?_ (.inl ⟨_,rfl,aVv (.iv _ (.bool _)) (.iv _ q4) q5⟩) b1 (Y.trans c1 (fun b hb=>.inl hb)) (.refl _)⟩;simp only[execOp,U,hva,Sem.run_bind,D,H,fX Q B_];rfl
theorem aYe{o:Oper}{x:Operand}(f:o.op=.next x false)(a:Act)(h:MS P O K M J L S env w){j:Nat}(i:VR M J L (.it j) (a.eval x)){b c:Nat}{d:Tc_} (k:S[j]?=some (.mit none b d c)) {top:TOp} (e:aP top=none):cK P O K top M J L S env w (execOp a.eval o) (.tup [.iv (.bool false)]) env S:=by
 generalize hva:a.eval x=v at i;cases i with
 |it L j l hJ hlo =>
  have g:=h.wr.blk j l _ hJ k;cases g with
  |mitN b d c hl hb =>refine .pure e h (v':=.tuple #[.bool false]) ?_ (aKi (.iv _ (.bool _)));simp[execOp,f,hva,Instr.next,cM hb]
theorem bFe{o:Oper}{f:FuncId}{first cap:Array Operand}(k:o.op=.makeFunc (.func f) first cap)(a:Act)(h:MS P O K M J L S env w){xs ys:Tn_}(p:VRs M J L xs (first.map a.eval).toList)(n:VRs M J L ys (cap.map a.eval).toList) (c:(xs++ys).any cA=false) {top:TOp} (b:aP top=none):cK P O K top M J L S env w (execOp a.eval o) (.fn f xs ys) env S:=by
 have g:xs.any cA=false:=by rw[R0,L8]at c;exact c.1
 have e:ys.any cA=false:=by rw[R0,L8]at c;exact c.2
 have l:=p.frame (L':=[]) g;have m:=n.frame (L':=[]) e;refine .pure b h (v':=.func (.func f) (first.map a.eval) (cap.map a.eval)) ?_ (.fn _ _ _ _ _ _ (by simpa using l.1) (by simpa using m.1) (fun i x v j d=>l.2 i x v j (by simpa using d)) (fun i x v j d=>m.2 i x v j (by simpa using d)));simp[execOp,k,Instr.makeFunc]
inductive qD (J:aF) (S:aA) (l:Loc) (b:aG):Nat->aF->aA->Prop
 |push:qD J S l b S.length (J++[some l]) (S++[b])
 |real (i:Nat) (hj:J[i]?=some none) (hs:S[i]?=some b):qD J S l b i (J.set i (some l)) S
theorem qD.at{l:Loc}{b:aG}{i:Nat}{J':aF}(h:qD J S l b i J' S')(a:J.length=S.length):J'.at i l:=by
 cases h with
 |push=>unfold aF.at;rw[<-a];simp
 |real i hj hs=>exact gY (E_.1 hj).1
theorem qD.jle{l:Loc}{b:aG}{i:Nat}{J':aF}(h:qD J S l b i J' S'):JLe J J':=by
 cases h with
 |push=>exact .push _ _
 |real i hj hs =>
  refine⟨by simp,fun k c a=>⟨c,?_,.inl rfl⟩⟩;unfold aF.at at a |-;have:k≠i:=by rintro rfl;rw[hj]at a;simp at a
  rw[B3 A_];exact a
theorem qD.get{l:Loc}{b:aG}{i:Nat}{J':aF}(h:qD J S l b i J' S')(g:J.length=S.length){k:Nat}{c:Loc}(a:J'.at k c):(k=i/\c=l/\S'[k]?=some b)\/(k≠i/\J.at k c/\S'[k]?=S[k]?):=by
 cases h with
 |push =>
  rcases lZ a with a|⟨rfl,f⟩;.right;have j:k<J.length:=(E_.1 a).1;exact⟨by omega,a,by rw[Y_ A_]⟩
  .left;simp at f;exact⟨g,f.symm,by rw[g];simp⟩
 |real i hj hs =>
  have m:=(E_.1 hj).1;rcases zS m a with⟨rfl,rfl⟩|⟨d,e⟩;.exact .inl ⟨rfl,rfl,hs⟩
  .exact .inr ⟨d,e,rfl⟩
theorem qD.len{l:Loc}{b:aG}{i:Nat}{J':aF}(h:qD J S l b i J' S')(a:J.length=S.length):J'.length=S'.length:=by
 cases h with
 |push=>simp[a]
 |real i hj hs=>simpa using a
structure TrN (n:Nat) (own:Nat->Prop) (M:Mem) (J:aF) (S:aA) (w:World) (M':Mem) (J':aF) (S':aA) (w':World):Prop where
 os:w'.os=w.os
 tape:w'.tape=w.tape
 output:w'.output=w.output
 size:w.heap.size<=w'.heap.size
 mle:MLe M M'
 mnew:∀b o,b<w.heap.size->¬J.has b->M' b o=M b o
 jle:JLe J J'
 jnew:∀i l,J'.at i l->w.heap.size<=l.cb\/∃l0,J.at i l0/\l0.cb=l.cb
 ph:∀i:Nat,i<n->J[i]?=some none->J'[i]?=some none/\S'[i]?=S[i]?
 frame:∀b,b<w.heap.size->¬J.has b->¬own b->w'.heap[b]?=w.heap[b]?
theorem Tr.trN{own:Tm_}{M':Mem}{J':aF}{w':World}(h:Tr own M J S w M' J' S' w')(n:Nat):TrN n own M J S w M' J' S' w' :=
 ⟨h.os,h.tape,h.output,h.size,h.mle,h.mnew,h.jle,h.jnew,fun i _ a=>h.ph i a,h.frame⟩
theorem TrN.tr{own:Tm_}{M':Mem}{J':aF}{w':World}(h:TrN J.length own M J S w M' J' S' w'):Tr own M J S w M' J' S' w' :=
 ⟨h.os,h.tape,h.output,h.size,h.mle,h.mnew,h.jle,h.jnew,fun i a=>h.ph i (E_.1 a).1 a,h.frame⟩
theorem TrN.has{n:Nat}{own:Tm_}{M':Mem}{J':aF}{w':World}(h:TrN n own M J S w M' J' S' w'){b:Nat}(g:b<w.heap.size)(e:¬J.has b):¬J'.has b:=by
 rintro⟨i,l,f,rfl⟩;rcases h.jnew i l f with a|⟨c,a,d⟩;.omega
 .exact e ⟨i,c,a,d⟩
theorem TrN.trans{n:Nat}{own own':Tm_}{M' M'':Mem}{J' J'':aF}{S'':aA}{w' p:World}(h:TrN n own M J S w M' J' S' w')(k:TrN n own' M' J' S' w' M'' J'' S'' p) (t:∀b,own' b->own b\/w.heap.size<=b):TrN n own M J S w M'' J'' S'' p:=by
 refine⟨k.os.trans h.os,k.tape.trans h.tape,k.output.trans h.output,C0 h.size k.size,h.mle.trans k.mle,?_,h.jle.trans k.jle,?_,?_,?_⟩;.intro b o e m;exact(k.mnew b o (E9 e h.size) (h.has e m)).trans (h.mnew b o e m)
 .intro i l y;rcases k.jnew i l y with f|⟨r,f,s⟩;.exact .inl (C0 h.size f)
  .rcases h.jnew i r f with h3|⟨v,h3,u⟩;.exact .inl A_
   .exact .inr ⟨v,h3,u.trans s⟩
 .intro i g x;obtain⟨a,b⟩:=h.ph i g x;obtain⟨c,d⟩:=k.ph i g a;exact⟨c,d.trans b⟩
 .intro b e m j;refine(k.frame b (E9 e h.size) (h.has e m) (fun q=>?_)).trans (h.frame b e m j);rcases t b q with f|f;.exact j f
  .omega
theorem TrN.weaken{n:Nat}{own own':Tm_}{M':Mem}{J':aF}{w':World}(h:TrN n own M J S w M' J' S' w')(c:∀b,own b->own' b):TrN n own' M J S w M' J' S' w' :=
 ⟨h.os,h.tape,h.output,h.size,h.mle,h.mnew,h.jle,h.jnew,h.ph,fun b e f a=>h.frame b e f (fun d=>a (c b d))⟩
theorem WR.place(h:WR P O M J S w)(p:Obj)(l:Loc)(b:aG){i:Nat}{J':aF}(f:qD J S l b i J' S')(F:l.cb=w.heap.size)(z:BR P O M J' (w.alloc p) l b){n:Nat}(u:J=J'\/n<=i): WR P O M J' S' (w.alloc p)/\TrN n (fun _=>False) M J S w M J' S' (w.alloc p):=by
 have a:=h.len;refine⟨h.step (f.len a) (.refl _) f.jle (fun b o v D=>?_) (fun k g s d q=>?_) (fun k k' g r d A e=>?_) (fun k g d=>?_),?_⟩;.rw[dR (cT w p (by have:=h.mlt D;omega))];exact h.imm b o v D
 .rcases f.get a d with⟨rfl,rfl,t⟩|⟨m,c,t⟩;.left;rw[t]at q;simp at q;subst q;exact z
  .right;rw[t]at q;exact⟨c,q,cT w p (by have:=h.lt k g c;omega),fun _=>rfl⟩
 .rcases f.get a d with⟨rfl,rfl,_⟩|⟨m,c,_⟩<;>rcases f.get a A with⟨rfl,rfl,_⟩|⟨C,j,_⟩;.rfl
  .have:=h.lt k' r j;omega
  .have:=h.lt k g c;omega
  .exact h.inj k k' g r c j e
 .rcases f.get a d with⟨rfl,rfl,_⟩|⟨m,c,_⟩;.simp;omega
  .have:=h.lt k g c;simp;omega
 .refine⟨rfl,rfl,rfl,by simp,.refl _,fun _ _ _ _=>rfl,f.jle,fun k g d=>?_,fun k E d=>?_,fun b t _ _=>cT w p A_⟩
  .rcases f.get a d with⟨rfl,rfl,_⟩|⟨m,c,_⟩;.exact .inl A_
   .exact .inr ⟨g,c,rfl⟩
  .cases f with
   |push =>have y:=(E_.1 d).1;exact⟨by rw[Y_ y];exact d,by rw[Y_ A_]⟩
   |real i hj q =>
    have:k≠i:=by
     rintro rfl;rcases u with u|u;.have x:=gY (l':=l) (E_.1 hj).1;rw[<-u]at x;unfold aF.at at x;rw[hj]at x;simp at x
     .omega
    exact⟨by rw[B3 A_];exact d,rfl⟩
structure aRd (P:Program) (O:dH) (M:Mem) (J:aF) (w:World) (run:Result Next) (v:Nat->TV) (b:aG) (ob:Obj) (vm:Value) (l:Loc):Prop where
 run:run=.ok (.value vm) (w.alloc ob)
 cb:l.cb=w.heap.size
 lo:l.loose=false
 val:∀(L:List (Option Nat)) (J':aF) (i:Nat),J'.at i l->VR M J' L (v i) vm
 blk:∀J',JLe J J'->BR P O M J' (w.alloc ob) l b
theorem BR.newCells(h:WR P O M J S w){xs:Tn_}{cs:Array Value}(e:TypeId)(j:xs.length<=cs.size)(m:∀(k:Nat) (x:TV),xs[k]?=some x->∃u,cs[k]?=some u/\VR M J [] x u){l:Loc}(g:l.cb=w.heap.size)(i:l.d=0) {ver:Nat} (a:l.ver=ver) (b:ver≠0->ver=e+1/\cs.size=xs.length) (c:l.size=cs.size) (f:l.loose=false) {J':aF} (s:JLe J J'):BR P O M J' (w.alloc (.cells cs e)) l (.cells ver false xs):=by have:=BR.cells (P:=P) (O:=O) (M:=M) (J:=J') (w:=w.alloc (.cells cs e)) (l:=l) false xs cs e (0,0) f (by rw[g];exact dA w _) c.symm A_ (fun k x r=>by obtain⟨u,p,n⟩:=m k x r;exact⟨u,by rw[i,A7];exact p,n.mono (.refl _) s⟩) (fun o _=>by rw[g];exact World.frozen?_alloc_new w cs e o) (fun o=>by rw[g];exact h.none_at o) (fun _ q=>by rw[a]at q;exact⟨a.trans (b q).1,i,(b q).2⟩);rwa [a]at this
theorem aEj(h:WR P O M J S w){xs:Tn_}{cs:Array Value}(e:TypeId)(a:Nat)(f:a≠0->a=e+1)(g:VRs M J [] xs cs.toList){c:Result Next}(b:c=.ok (.value (.pointer (some ⟨w.heap.size,0,none⟩))) (w.alloc (.cells cs e))): ∃k j l,aRd P O M J w c (fun i=>.ptr i a 0) (.cells a false xs) k j l:=by
 obtain⟨n,m⟩:=g.ex;exact⟨_,_,{cb:=w.heap.size,d:=0,ver:=a,cap:=0,es:=0,size:=cs.size,loose:=false},b,rfl,rfl,fun L J' i o=>.ptr _ _ _ _ _ _ _ o (O_ _) (fun _=>⟨rfl,rfl⟩),
  fun J' p=>.newCells h e n m rfl rfl rfl (fun q=>⟨f q,by simpa using g.1⟩) rfl rfl p⟩
theorem yH(h:WR P O M J S w){xs:Tn_}{cs:Array Value}(e:TypeId)(g:xs.length<=cs.size)(n:∀(k:Nat) (x:TV),xs[k]?=some x->∃u,cs[k]?=some u/\VR M J [] x u){a cap es:Nat}(f:a<=cap)(o:cap*es<=cs.size) {c:Result Next} (b:c=.ok (.value (.slice (some ⟨w.heap.size,0,none⟩) a cap)) (w.alloc (.cells cs e))):∃m j l,aRd P O M J w c (fun i=>.msl i 0 0 a cap es) (.cells 0 false xs) m j l :=
 ⟨_,_,{cb:=w.heap.size,d:=0,ver:=0,cap:=0,es:=0,size:=cs.size,loose:=false},b,rfl,rfl,
  fun L J' i p=>.msl _ _ _ _ _ _ _ _ _ _ cap p (O_ _) (fun _=>⟨rfl,fun _=>rfl,O_ _,fun _=>rfl,by show 0+cap*es<=cs.size;omega⟩) f f,fun J' r=>.newCells h e g n rfl rfl rfl (fun q=>absurd rfl q) rfl rfl r⟩
theorem bMq{o:Oper}{t:TypeId}(c:o.op=.makeMap t none)(a:Act):∃g e l,aRd P O M J w ((execOp a.eval o).run P w) (fun i=>.map i) (.mp [] 0) g e l:=by
 have b:(execOp a.eval o).run P w=.ok (.value (.map (some w.heap.size))) (w.alloc (.map #[] 0)):=by simp[execOp,c,Go.Instr.makeMap]
 refine⟨_,_,{cb:=w.heap.size,d:=0,ver:=0,cap:=0,es:=0,size:=0,loose:=false},b,rfl,rfl,fun L J' i h=>.map _ _ _ h rfl,fun J' j=>?_⟩;exact .mp [] 0 #[] rfl (dA w _) rfl (fun k x y f=>by simp at f)
theorem aRd.push(h:MS P O K M J L S env w){s:Sem Next}{v:Nat->TV}{b:aG}{i:Obj}{j:Value}{l:Loc}(k:aRd P O M J w (s.run P w) v b i j l){top:TOp}(f:aP top=none): cK P O K top M J L S env w s (v S.length) env (S++[b]):=by have g:qD J S l b S.length (J++[some l]) (S++[b]):=.push;obtain⟨a,c⟩:=h.wr.place i l b g k.cb (k.blk _ g.jle) (n:=J.length) (.inr (by rw[h.wr.len];exact O_ _));obtain⟨d,e⟩:=h.step' a c.tr;exact .mk0 f k.run (.inl ⟨_,rfl,k.val L _ _ (g.at h.wr.len)⟩) d e (.refl _)
end
end Go.TM
